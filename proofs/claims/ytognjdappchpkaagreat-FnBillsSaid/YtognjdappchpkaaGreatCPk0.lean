/-
  Is a number in a list, does a list rise, the length of all leads: both sides walked.
-/
import Derived.Test.YtognjdappchpkaaGreatShape
import Derived.Test.YtognjdappchpkaaGreatSrtP
import Derived.Test.YtognjdappchpkaaGreatInv
import Derived.Test.YtognjdappchpkaaGreatBits
import Derived.Test.YtognjdappchpkaaGreatSort
import Derived.Test.YtognjdappchpkaaGreatDeg
import Derived.Test.YtognjdappchpkaaGreatPartP
import Derived.Test.YtognjdappchpkaaGreatPlane
import Derived.Test.YtognjdappchpkaaGreatBetw
set_option linter.unusedSimpArgs false
set_option linter.unusedVariables false
namespace Go.Proofs.YtognjdappchpkaaGreat
open Go.RowKit

/-- A window's test that can be reckoned. -/
def winC (ns ls : List Pr) : Bool :=
  decide (1 ≤ ns.length) && decide (ns.length ≤ 12) && decide (ls.length ≤ 20) && nodesB ns &&
  (List.range ns.length).all (fun b => (List.range b).all fun a => !(sameP (ndI ns (a : Nat)) (ndI ns (b : Nat)))) &&
  (List.range ls.length).all (fun k => leadB ns (ndI ls (k : Nat)) && (List.range k).all (fun j => !(crossB ns (ndI ls (k : Nat)) (ndI ls (j : Nat)))) &&
    (List.range ns.length).all (fun (i : Nat) => decide ((i : Int) = (ndI ls (k : Nat)).1) || decide ((i : Int) = (ndI ls (k : Nat)).2) || !(onB ns (ndI ls (k : Nat)) (ndI ns (i : Nat)))))

theorem winC_ok {ns ls : List Pr} (h : winC ns ls = true) : WinOk ns ls := by
  unfold winC at h
  simp only [Bool.and_eq_true, decide_eq_true_eq, List.all_eq_true, List.mem_range, Bool.not_eq_true', Bool.or_eq_true] at h
  obtain ⟨⟨⟨⟨⟨h1, h2⟩, h3⟩, h4⟩, h5⟩, h6⟩ := h
  refine ⟨h1, h2, h3, h4, fun a b hab hb => h5 b hb a hab, fun k hk => ?_⟩
  obtain ⟨⟨a1, a2⟩, a3⟩ := h6 k hk
  refine ⟨a1, fun j hj => a2 j hj, fun j hj e1 e2 => ?_⟩
  rcases a3 j hj with (h | h) | h
  · exact absurd h e1
  · exact absurd h e2
  · exact h

theorem sample_ok : winB sampleN sampleL = true := winB_true.2 (winC_ok (by decide +kernel))
theorem sh1_ok : winB shN1 shL1 = true := winB_true.2 (winC_ok (by decide +kernel))
theorem sh2_ok : winB shN2 shL2 = true := winB_true.2 (winC_ok (by decide +kernel))
theorem sh3_ok : winB shN3 shL3 = true := winB_true.2 (winC_ok (by decide +kernel))
theorem sh4_ok : winB shN4 shL4 = true := winB_true.2 (winC_ok (by decide +kernel))

theorem shape_ok (k : Int) : winB (shapeN k) (shapeL k) = true := by
  unfold shapeN shapeL
  split
  · exact sample_ok
  · split
    · exact sh1_ok
    · split
      · exact sh2_ok
      · split
        · exact sh3_ok
        · exact sh4_ok

theorem ndI_getD (ns : List Pr) (k : Nat) : ndI ns (k : Int) = ns.getD k (0, 0) := by simp [ndI]

theorem ndI_app_left {a b : List Pr} {i : Nat} (h : i < a.length) : ndI (a ++ b) (i : Int) = ndI a (i : Int) := by
  rw [ndI_nat _ _ (by simp; omega), ndI_nat _ _ h, List.getElem_append_left h]
theorem ndI_app_last {a : List Pr} {p : Pr} : ndI (a ++ [p]) (a.length : Int) = p := by
  rw [ndI_nat _ _ (by simp), List.getElem_append_right (Nat.le_refl _)]
  simp

/-- A lead of a valid window is valid with the others, whichever comes first. -/
theorem cross_any {ns ls : List Pr} (h : WinOk ns ls) {i k : Nat} (hi : i < ls.length) (hk : k < ls.length) (hne : i ≠ k) : crossB ns (ndI ls k) (ndI ls i) = false := by
  rcases Nat.lt_or_gt_of_ne hne with h1 | h1
  · exact (h.2.2.2.2.2 k hk).2.1 i h1
  · rw [crossB_comm]; exact (h.2.2.2.2.2 i hi).2.1 k h1

/-- Leads picked out of a valid window, each at another place, are a valid window. -/
theorem win_pick {ns ls ms : List Pr} (h : WinOk ns ls) (hl : ms.length ≤ 20) (f : Nat → Nat) (hf : ∀ i, i < ms.length → f i < ls.length ∧ ndI ms (i : Nat) = ndI ls (f i : Nat)) (hinj : ∀ i j, i < ms.length → j < ms.length → f i = f j → i = j) : WinOk ns ms := by
  refine ⟨h.1, h.2.1, hl, h.2.2.2.1, h.2.2.2.2.1, fun k hk => ?_⟩
  obtain ⟨h1, h2⟩ := hf k hk
  rw [LdOk, h2]
  refine ⟨(h.2.2.2.2.2 _ h1).1, fun j hj => ?_, (h.2.2.2.2.2 _ h1).2.2⟩
  obtain ⟨h3, h4⟩ := hf j (by omega)
  rw [h4]
  exact cross_any h h3 h1 (fun e => by have := hinj j k (by omega) hk e; omega)

theorem ndI_drop {ls : List Pr} {k : Nat} (hk : k < ls.length) (i : Nat) (hi : i < (ls.take k ++ ls.drop (k + 1)).length) :
    ndI (ls.take k ++ ls.drop (k + 1)) (i : Nat) = ndI ls ((if i < k then i else i + 1 : Nat) : Int) := by
  have hl : (ls.take k).length = k := by simp; omega
  have hi' : i < ls.length - 1 := by simp at hi; omega
  by_cases h : i < k
  · rw [if_pos h, ndI_app_left (by omega), ndI_nat _ _ (by omega), ndI_nat _ _ (by omega), List.getElem_take]
  · rw [if_neg h, ndI_nat _ _ hi, ndI_nat _ _ (by omega), List.getElem_append_right (by omega), List.getElem_drop]
    congr 1
    omega

/-- A lead dropped: still valid. -/
theorem win_drop {ns ls : List Pr} (h : WinOk ns ls) {k : Nat} (hk : k < ls.length) : WinOk ns (ls.take k ++ ls.drop (k + 1)) := by
  have hm := h.2.2.1
  have hlen : (ls.take k ++ ls.drop (k + 1)).length = ls.length - 1 := by simp; omega
  refine win_pick h (by omega) (fun i => if i < k then i else i + 1) (fun i hi => ⟨?_, ndI_drop hk i hi⟩) (fun i j hi hj e => ?_)
  · rw [hlen] at hi
    show (if i < k then i else i + 1) < _
    split <;> omega
  · have e' : (if i < k then i else i + 1) = (if j < k then j else j + 1) := e
    split at e' <;> split at e' <;> omega

/-- A lead dropped and added again: valid. -/
theorem win_again {ns ls : List Pr} (h : WinOk ns ls) {k : Nat} (hk : k < ls.length) : WinOk ns ((ls.take k ++ ls.drop (k + 1)) ++ [ndI ls k]) := by
  have hm := h.2.2.1
  have hlen : (ls.take k ++ ls.drop (k + 1)).length = ls.length - 1 := by simp; omega
  have hlen2 : ((ls.take k ++ ls.drop (k + 1)) ++ [ndI ls k]).length = ls.length := by rw [List.length_append, hlen]; simp; omega
  refine win_pick h (by omega) (fun i => if i < ls.length - 1 then (if i < k then i else i + 1) else k) (fun i hi => ?_) (fun i j hi hj e => ?_)
  · rw [hlen2] at hi
    show (if i < ls.length - 1 then (if i < k then i else i + 1) else k) < _ ∧ _ = ndI ls ((if i < ls.length - 1 then (if i < k then i else i + 1) else k : Nat) : Int)
    by_cases h1 : i < ls.length - 1
    · rw [if_pos h1, ndI_app_left (by omega), ndI_drop hk i (by omega)]
      exact ⟨by split <;> omega, rfl⟩
    · have e : i = (ls.take k ++ ls.drop (k + 1)).length := by omega
      rw [if_neg h1]
      refine ⟨hk, ?_⟩
      rw [e, ndI_app_last]
  · rw [hlen2] at hi hj
    have e' : (if i < ls.length - 1 then (if i < k then i else i + 1) else k) = (if j < ls.length - 1 then (if j < k then j else j + 1) else k) := e
    split at e' <;> split at e' <;> (try split at e') <;> (try split at e') <;> omega

/-- A lead that is there crosses itself. -/
theorem cross_self {ns : List Pr} {l : Pr} (h : leadB ns l = true) : crossB ns l l = true := by
  have e : ∀ p : Pr, sameP p p = true := fun p => sameP_iff.2 rfl
  simp [crossB, h, crossP, e]

/-- The leads of a valid window are apart from each other. -/
theorem lead_apart {ns ls : List Pr} (h : WinOk ns ls) {i k : Nat} (hi : i < ls.length) (hk : k < ls.length) (hne : i ≠ k) : ndI ls (i : Nat) ≠ ndI ls (k : Nat) := by
  intro e
  have h1 := cross_any h hi hk hne
  rw [e, cross_self ((h.2.2.2.2.2 k hk).1)] at h1
  cases h1

theorem mem_ndI {l : List Pr} {p : Pr} (h : p ∈ l) : ∃ i : Nat, i < l.length ∧ ndI l (i : Nat) = p := by
  obtain ⟨i, hi, e⟩ := List.mem_iff_getElem.1 h
  exact ⟨i, hi, by rw [ndI_nat _ _ hi]; exact e⟩

/-- The place of a lead of a valid window. -/
theorem idx_lead {ns ls : List Pr} (h : WinOk ns ls) {k : Nat} (hk : k < ls.length) : idxP ls (ndI ls (k : Nat)) = k := by
  refine idxP_at hk ?_ rfl
  intro hm
  obtain ⟨i, hi, e⟩ := mem_ndI hm
  rw [List.length_take] at hi
  have e2 : ndI (ls.take k) (i : Nat) = ndI ls (i : Nat) := by
    rw [ndI_nat _ _ (by rw [List.length_take]; exact hi), ndI_nat _ _ (by omega), List.getElem_take]
  rw [e2] at e
  exact lead_apart h (by omega) hk (by omega) e

/-- An added lead was not there. -/
theorem added_new {ns ls : List Pr} {p : Pr} (h : WinOk ns (ls ++ [p])) : p ∉ ls := by
  intro hm
  obtain ⟨i, hi, e⟩ := mem_ndI hm
  have := lead_apart h (i := i) (k := ls.length) (by simp; omega) (by simp) (by omega)
  rw [ndI_app_left hi, ndI_app_last] at this
  exact this e

/-- All degrees together are twice the leads. -/
def degSum (ls : List Pr) (m : Nat) : Nat → Nat
  | 0 => 0
  | k + 1 => degSum ls m k + (atN ls (k : Int) m).length

theorem degSum_step (ls : List Pr) (m : Nat) (hlt : (ndI ls m).1 < (ndI ls m).2) (h0 : 0 ≤ (ndI ls m).1) : ∀ n : Nat,
    degSum ls (m + 1) n = degSum ls m n + (if (ndI ls m).1 < n then 1 else 0) + (if (ndI ls m).2 < n then 1 else 0)
  | 0 => by
    simp only [degSum]
    rw [if_neg (by omega), if_neg (by omega)]
  | n + 1 => by
    have ih := degSum_step ls m hlt h0 n
    simp only [degSum]
    rw [ih]
    have ht : (atN ls (n : Int) (m + 1)).length = (atN ls (n : Int) m).length + (if (ndI ls m).1 = n ∨ (ndI ls m).2 = n then 1 else 0) := by
      by_cases hh : (ndI ls m).1 = n ∨ (ndI ls m).2 = n
      · rw [if_pos hh, atN_yes (by simpa [touchB] using hh)]
        simp
      · rw [if_neg hh, atN_no (by
          cases ht : touchB ls n m
          · rfl
          · exact absurd (by simpa [touchB] using ht) hh)]
        simp
    rw [ht]
    split <;> split <;> split <;> split <;> split <;> omega

theorem degSum_all {ns ls : List Pr} (h : WinOk ns ls) : ∀ m, m ≤ ls.length → degSum ls m ns.length = 2 * m
  | 0, _ => by
    have : ∀ n, degSum ls 0 n = 0 := by
      intro n
      induction n with
      | zero => rfl
      | succ n ih => simp [degSum, ih, atN]
    exact this _
  | m + 1, hm => by
    obtain ⟨h1, h2, h3, _⟩ := leadB_iff.1 ((h.2.2.2.2.2 m (by omega)).1)
    rw [degSum_step ls m h2 h1, degSum_all h m (by omega), if_pos (by omega), if_pos (by omega)]
    omega

end Go.Proofs.YtognjdappchpkaaGreat

namespace Go.Proofs.YtognjdappchpkaaGreat

theorem frD_nodup (ls : List Pr) (k : Nat) : ∀ m, (frD ls k m).Nodup
  | 0 => by simp [frD]
  | m + 1 => by
    by_cases h : dFrom ls m = k
    · rw [frD_yes h, List.nodup_append]
      refine ⟨frD_nodup ls k m, by simp, fun a ha b hb => ?_⟩
      have := (frD_lt ls k m a ha).1
      simp at hb
      omega
    · rw [frD_no h]; exact frD_nodup ls k m

/-- Two darts of a valid window with the same ends are one. -/
theorem dart_one {ns ls : List Pr} (h : WinOk ns ls) {d e : Nat} (hd : d < 2 * ls.length) (he : e < 2 * ls.length) (h1 : dFrom ls d = dFrom ls e) (h2 : dTo ls d = dTo ls e) : d = e := by
  have h6 := h.2.2.2.2.2
  have l1 := leadB_iff.1 (h6 (d / 2) (by omega)).1
  have l2 := leadB_iff.1 (h6 (e / 2) (by omega)).1
  by_cases hq : d / 2 = e / 2
  · unfold dFrom at h1
    rw [hq] at h1 l1
    by_cases p1 : d % 2 = 1 <;> by_cases p2 : e % 2 = 1
    · omega
    · rw [if_pos p1, if_neg p2] at h1; omega
    · rw [if_neg p1, if_pos p2] at h1; omega
    · omega
  · exfalso
    refine lead_apart h (by omega) (by omega) hq ?_
    unfold dFrom at h1
    unfold dTo at h2
    refine Prod.ext_iff.2 ?_
    by_cases p1 : d % 2 = 1 <;> by_cases p2 : e % 2 = 1
    · rw [if_pos p1, if_pos p2] at h1 h2; exact ⟨h2, h1⟩
    · rw [if_pos p1, if_neg p2] at h1 h2; exfalso; omega
    · rw [if_neg p1, if_pos p2] at h1 h2; exfalso; omega
    · rw [if_neg p1, if_neg p2] at h1 h2; exact ⟨h1, h2⟩

theorem frD_le {ns ls : List Pr} (h : WinOk ns ls) (k : Nat) : (frD ls k (2 * ls.length)).length ≤ 12 := by
  apply Classical.byContradiction
  intro hc
  have hld : ∀ j : Nat, j < ls.length → leadB ns (ndI ls j) = true := fun j hj => (h.2.2.2.2.2 j hj).1
  have hn := h.2.1
  generalize hG : frD ls k (2 * ls.length) = G at *
  have hm : ∀ i, i < G.length → G.getD i 0 < 2 * ls.length ∧ dFrom ls (G.getD i 0) = k := by
    intro i hi
    have := frD_lt ls k (2 * ls.length) (G.getD i 0) (by rw [hG, List.getD, List.getElem?_eq_getElem hi]; exact List.getElem_mem hi)
    exact this
  obtain ⟨i, j, h1, h2, h3⟩ := pigeon 12 (fun i => (dTo ls (G.getD i 0)).toNat) (fun i hi => by
    obtain ⟨t, ht, htn⟩ := dTo_nat hld (hm i (by omega)).1
    show (dTo ls (G.getD i 0)).toNat < 12
    rw [ht]; omega)
  have mi := hm i (by omega)
  have mj := hm j (by omega)
  obtain ⟨t, ht, _⟩ := dTo_nat hld mi.1
  obtain ⟨u, hu, _⟩ := dTo_nat hld mj.1
  have h3' : (dTo ls (G.getD i 0)).toNat = (dTo ls (G.getD j 0)).toNat := h3
  have hto : dTo ls (G.getD i 0) = dTo ls (G.getD j 0) := by rw [ht, hu] at h3' ⊢; omega
  have he := dart_one h mi.1 mj.1 (by rw [mi.2, mj.2]) hto
  have hnd := frD_nodup ls k (2 * ls.length)
  rw [hG] at hnd
  have li : i < G.length := by omega
  have lj : j < G.length := by omega
  rw [List.getD, List.getD, List.getElem?_eq_getElem li, List.getElem?_eq_getElem lj] at he
  have := (List.getElem_inj hnd).1 (by simpa using he)
  omega

end Go.Proofs.YtognjdappchpkaaGreat

namespace Go.Proofs.YtognjdappchpkaaGreat
open Go.RowKit

attribute [local go_sem ↓] run_eqNode run_neNode run_mn2 run_mx2

theorem twin_xor (d : Nat) : d ^^^ 1 = twin d := by
  apply Nat.eq_of_testBit_eq
  intro i
  rw [Nat.testBit_xor]
  cases i with
  | zero =>
    rw [Nat.testBit_zero, Nat.testBit_zero, Nat.testBit_zero]
    unfold twin
    have h : d % 2 = 0 ∨ d % 2 = 1 := by omega
    rcases h with h | h
    · rw [if_pos h, h, show (d + 1) % 2 = 1 by omega]; rfl
    · rw [if_neg (by omega), h, show (d - 1) % 2 = 0 by omega]; rfl
  | succ i =>
    rw [Nat.testBit_succ, Nat.testBit_succ, Nat.testBit_succ, show twin d / 2 = d / 2 by unfold twin; split <;> omega]
    simp

set_option maxHeartbeats 2000000 in
set_option maxRecDepth 100000 in
theorem iFrom_any (vn vl : Value) (ls : List Pr) (d : Nat) (w : World) (hl : RP w vl ls) (hd : d < 2 * ls.length) :
    Calls Tryz.prog 98 #[.agg #[vn, vl], .int .i64 d] w fun e w' => e = .returned (.int .i64 (dFrom ls d)) ∧ Below w.heap.size w w' := by
  obtain ⟨A, c, rfl, hc, hm, hcell⟩ := hl.formI
  unfold maxLen at hm
  clear hl
  obtain ⟨b, off, rfl, hb, hcl⟩ := hcell (by omega)
  obtain ⟨k0, k1⟩ := hcl (d / 2) (by omega)
  have t1 := tdiv2 d
  have t2 := tmod2 d
  have HF : Hid (dFrom ls d = if d % 2 = 1 then (ndI ls (d / 2 : Nat)).2 else (ndI ls (d / 2 : Nat)).1) := Lib.hid rfl
  have hq : d / 2 < ls.length := by omega
  have hq1 : ((d / 2 : Nat) : Int) < (ls.length : Int) := by omega
  have hq2 : (0 : Int) ≤ ((d / 2 : Nat) : Int) := by omega
  have hr : d % 2 = 0 ∨ d % 2 = 1 := by omega
  have nb : b < w.heap.size + 1 := by omega
  have nb2 : b < w.heap.size + 1 + 1 := by omega
  generalize d / 2 = q at *
  generalize ndI ls (q : Int) = L at *
  obtain ⟨l1, l2⟩ := L
  simp only at k0 k1 HF
  clear hcl hcell
  rcases hr with hr | hr
  · rw [hr] at HF t2
    have e1 : ((0 : Nat) : Int) = 0 := rfl
    go_enter Tryz.func98, Tryz.ntmps98
    go_wp2
    go_ret
    exact ⟨ret_int (by rw [HF.out]; rfl), by (repeat' (first | (with_reducible exact Below.refl _ _) | (with_reducible assumption) | (with_reducible refine Below.drew ?_) | (with_reducible refine below_drewN ?_ _) | (with_reducible refine Below.alloc ?_ ?_ _) | (with_reducible refine Below.setCell ?_ ?_ _) | (with_reducible refine Below.step (by assumption) ?_ ?_))); all_goals (first | omega | (simp; done) | (simp; omega))⟩
  · rw [hr] at HF t2
    have e1 : ((1 : Nat) : Int) = 1 := rfl
    go_enter Tryz.func98, Tryz.ntmps98
    go_wp2
    go_ret
    exact ⟨ret_int (by rw [HF.out]; rfl), by (repeat' (first | (with_reducible exact Below.refl _ _) | (with_reducible assumption) | (with_reducible refine Below.drew ?_) | (with_reducible refine below_drewN ?_ _) | (with_reducible refine Below.alloc ?_ ?_ _) | (with_reducible refine Below.setCell ?_ ?_ _) | (with_reducible refine Below.step (by assumption) ?_ ?_))); all_goals (first | omega | (simp; done) | (simp; omega))⟩

set_option maxHeartbeats 1000000 in
set_option maxRecDepth 100000 in
theorem iHalf_any (ax ay bx by' : Int) (w : World) :
    Calls Tryz.prog 122 #[.agg #[.int .i64 ax, .int .i64 ay], .agg #[.int .i64 bx, .int .i64 by']] w fun e w' => e = .returned (.int .i64 (halfI ax ay bx by')) ∧ Below w.heap.size w w' := by
  go_enter Tryz.func122, Tryz.ntmps122
  go_wp2
  all_goals go_ret
  all_goals refine ⟨ret_int ?_, by (repeat' (first | (with_reducible exact Below.refl _ _) | (with_reducible assumption) | (with_reducible refine Below.drew ?_) | (with_reducible refine below_drewN ?_ _) | (with_reducible refine Below.alloc ?_ ?_ _) | (with_reducible refine Below.setCell ?_ ?_ _) | (with_reducible refine Below.step (by assumption) ?_ ?_))); all_goals (first | omega | (simp; done) | (simp; omega))⟩
  all_goals unfold halfI
  all_goals first | (rw [if_pos (by omega)]; done) | (rw [if_neg (by omega)]; done) | (simp_all; done) | (simp_all; omega)

set_option maxHeartbeats 4000000 in
set_option maxRecDepth 100000 in
theorem iBefore_any (ax ay bx by' cx cy : Int) (w : World) :
    Calls Tryz.prog 119 #[.agg #[.int .i64 ax, .int .i64 ay], .agg #[.int .i64 bx, .int .i64 by'], .agg #[.int .i64 cx, .int .i64 cy]] w
      fun e w' => e = .returned (.bool (befB ax ay bx by' cx cy)) ∧ Below w.heap.size w w' := by
  by_cases hv : nodeB ax ay = true ∧ nodeB bx by' = true ∧ nodeB cx cy = true
  · obtain ⟨h1, h2, h3⟩ := hv
    have HN : Hid ((nodeB ax ay && nodeB bx by' && nodeB cx cy) = true) := Lib.hid (by rw [h1, h2, h3]; rfl)
    have HR : Hid (befB ax ay bx by' cx cy = (if halfI ax ay bx by' = halfI ax ay cx cy then decide (0 < turnI ax ay bx by' cx cy) else decide (halfI ax ay bx by' < halfI ax ay cx cy))) := Lib.hid (by unfold befB; rw [h1, h2, h3]; rfl)
    go_enter Tryz.func119, Tryz.ntmps119
    go_wp2_with fail
    refine (nodes3_any _ ax ay bx by' cx cy _ (RP_lit (by simp) rfl rfl rfl (by simp [maxLen]))).mono ?_
    rintro e w1 ⟨rfl, hb1⟩; (first | (with_reducible have hcf1 := bcell_drew hb1) | have hcf1 := bcell hb1); obtain ⟨hc1, hf1⟩ := hcf1; have hz1 := hb1.size; (try simp at hz1); (try have hp1_0 : w.heap.size < w1.heap.size := by omega); (try have hp1_1 : w.heap.size + 1 < w1.heap.size := by omega); (try have hp1_2 : w.heap.size + 1 + 1 < w1.heap.size := by omega); (try have hp1_3 : w.heap.size + 1 + 1 + 1 < w1.heap.size := by omega)
    rw [HN.out]
    go_wp2_with fail
    (refine wp_region_quietG (by kernel_rfl) (by kernel_rfl) (fun hG => ?_))
    repeat (go_big_quiet_step ((go_at_call 122; exact quietG (iHalf_any _ _ _ _ _))))
    (refine wpQuiet_nil ?_); (clear hG); (rintro w4 ⟨⟨_, hb4⟩, rfl⟩); (try dsimp only); (first | (with_reducible have hcf4 := bcell_drew hb4) | have hcf4 := bcell hb4); obtain ⟨hc4, hf4⟩ := hcf4; have hz4 := hb4.size; (try simp at hz4); (try have hp4_0 : w.heap.size < w4.heap.size := by omega); (try have hp4_1 : w.heap.size + 1 < w4.heap.size := by omega); (try have hp4_2 : w.heap.size + 1 + 1 < w4.heap.size := by omega); (try have hp4_3 : w.heap.size + 1 + 1 + 1 < w4.heap.size := by omega)
    generalize hU : halfI ax ay bx by' = u at *
    generalize hV : halfI ax ay cx cy = v at *
    clear hU hV
    go_wp2_with (go_at_call 112; refine (iTurn_any _ _ _ _ _ _ _ h1 h2 h3).mono ?_; rintro e w5 ⟨rfl, hb5⟩; (first | (with_reducible have hcf5 := bcell_drew hb5) | have hcf5 := bcell hb5); obtain ⟨hc5, hf5⟩ := hcf5; have hz5 := hb5.size; (try simp at hz5); (try have hp5_0 : w.heap.size < w5.heap.size := by omega); (try have hp5_1 : w.heap.size + 1 < w5.heap.size := by omega); (try have hp5_2 : w.heap.size + 1 + 1 < w5.heap.size := by omega); (try have hp5_3 : w.heap.size + 1 + 1 + 1 < w5.heap.size := by omega))
    all_goals go_ret
    all_goals refine ⟨ret_bool ?_, by (repeat' (first | (with_reducible exact Below.refl _ _) | (with_reducible assumption) | (with_reducible refine Below.drew ?_) | (with_reducible refine below_drewN ?_ _) | (with_reducible refine Below.alloc ?_ ?_ _) | (with_reducible refine Below.setCell ?_ ?_ _) | (with_reducible refine Below.step (by assumption) ?_ ?_))); all_goals (first | omega | (simp; done) | (simp; omega))⟩
    all_goals rw [HR.out]
    all_goals by_cases huv : u = v
    all_goals first | rw [if_pos huv] | rw [if_neg huv]
    all_goals first | (simp_all; done) | (simp_all; omega) | (simp; omega)
  · have HN : Hid ((nodeB ax ay && nodeB bx by' && nodeB cx cy) = false) := Lib.hid (by
      cases h1 : nodeB ax ay <;> cases h2 : nodeB bx by' <;> cases h3 : nodeB cx cy <;> simp_all)
    have HR := Lib.hid (bef_inv hv)
    clear hv
    go_enter Tryz.func119, Tryz.ntmps119
    go_wp2_with fail
    refine (nodes3_any _ ax ay bx by' cx cy _ (RP_lit (by simp) rfl rfl rfl (by simp [maxLen]))).mono ?_
    rintro e w1 ⟨rfl, hb1⟩; (first | (with_reducible have hcf1 := bcell_drew hb1) | have hcf1 := bcell hb1); obtain ⟨hc1, hf1⟩ := hcf1; have hz1 := hb1.size; (try simp at hz1); (try have hp1_0 : w.heap.size < w1.heap.size := by omega); (try have hp1_1 : w.heap.size + 1 < w1.heap.size := by omega); (try have hp1_2 : w.heap.size + 1 + 1 < w1.heap.size := by omega); (try have hp1_3 : w.heap.size + 1 + 1 + 1 < w1.heap.size := by omega)
    rw [HN.out]
    go_wp2
    go_ret
    exact ⟨ret_bool HR.out.symm, by (repeat' (first | (with_reducible exact Below.refl _ _) | (with_reducible assumption) | (with_reducible refine Below.drew ?_) | (with_reducible refine below_drewN ?_ _) | (with_reducible refine Below.alloc ?_ ?_ _) | (with_reducible refine Below.setCell ?_ ?_ _) | (with_reducible refine Below.step (by assumption) ?_ ?_))); all_goals (first | omega | (simp; done) | (simp; omega))⟩

theorem iBefore_at (a b c : Pr) (x : Bool) (w : World) (h : befB a.1 a.2 b.1 b.2 c.1 c.2 = x) :
    Calls Tryz.prog 119 #[.agg #[.int .i64 a.1, .int .i64 a.2], .agg #[.int .i64 b.1, .int .i64 b.2], .agg #[.int .i64 c.1, .int .i64 c.2]] w
      fun e w' => e = .returned (.bool x) ∧ Below w.heap.size w w' := by
  subst h; exact iBefore_any _ _ _ _ _ _ w

end Go.Proofs.YtognjdappchpkaaGreat

namespace Go.Proofs.YtognjdappchpkaaGreat
open Go.RowKit

/-- How two darts compare around node k. -/
def cmpD (ns ls : List Pr) (k d e : Nat) : Int := if d = e then 0 else if bfD ns ls k d e then -1 else 1

theorem bef_self (ax ay bx by' : Int) : befB ax ay bx by' bx by' = false := by
  unfold befB
  rw [if_pos rfl]
  have : turnI ax ay bx by' bx by' = 0 := turn_self2 (ax, ay) (bx, by')
  rw [this]
  simp

theorem cmpD_lt (ns ls : List Pr) (k d e : Nat) : decide (cmpD ns ls k d e < 0) = bfD ns ls k d e := by
  unfold cmpD
  by_cases h : d = e
  · subst h
    rw [if_pos rfl]
    unfold bfD
    rw [bef_self]
    rfl
  · rw [if_neg h]
    cases bfD ns ls k d e <;> rfl

set_option maxHeartbeats 4000000 in
set_option maxRecDepth 100000 in
theorem cmp_any (gW gK : Nat) (vn vl : Value) (ns ls : List Pr) (k d e : Nat) (w : World) (hW : Blk w gW 34 #[vn, vl]) (hKc : w.cell? ⟨gK, 0, none⟩ = some (.int .i64 k)) (hKl : gK < w.heap.size) (hn : RP w vn ns) (hl : RP w vl ls)
    (hk : k < ns.length) (hd : d < 2 * ls.length) (he : e < 2 * ls.length) (hwin : WinOk ns ls) :
    Calls Tryz.prog 118 #[.int .i64 d, .int .i64 e, .pointer (some ⟨gW, 0, none⟩), .pointer (some ⟨gK, 0, none⟩)] w fun en w' => en = .returned (.int .i64 (cmpD ns ls k d e)) ∧ Below w.heap.size w w' := by
  have hld : ∀ j : Nat, j < ls.length → leadB ns (ndI ls j) = true := fun j hj => (hwin.2.2.2.2.2 j hj).1
  have hm20 := hwin.2.2.1
  obtain ⟨An, cn, rfl, hcn, hmn, hcelln⟩ := hn.formI
  obtain ⟨bn, offn, rfl, hbn, hcc⟩ := hcelln (by omega)
  obtain ⟨t, ht, htn⟩ := dTo_nat hld hd
  obtain ⟨u, hu, hun⟩ := dTo_nat hld he
  obtain ⟨k0, k1⟩ := hcc k hk
  obtain ⟨t0, t1⟩ := hcc t htn
  obtain ⟨u0, u1⟩ := hcc u hun
  unfold maxLen at hmn
  have hgW := hW.lt
  have x1 := bits_xor_nat (a := d) (b := 1) (by omega) (by omega)
  have x2 := bits_xor_nat (a := e) (b := 1) (by omega) (by omega)
  rw [twin_xor] at x1 x2
  have x1' : bits .xor .i64 (d : Int) 1 = ((twin d : Nat) : Int) := x1
  have x2' : bits .xor .i64 (e : Int) 1 = ((twin e : Nat) : Int) := x2
  clear x1 x2
  have X1 := Lib.hid x1'
  have X2 := Lib.hid x2'
  clear x1' x2'
  have ik1 : (0 : Int) ≤ (k : Int) := by omega
  have ik2 : (k : Int) < (ns.length : Int) := by omega
  have it1 : (0 : Int) ≤ (t : Int) := by omega
  have it2 : (t : Int) < (ns.length : Int) := by omega
  have iu1 : (0 : Int) ≤ (u : Int) := by omega
  have iu2 : (u : Int) < (ns.length : Int) := by omega
  (have a_0 := hW.cell 0); (have a_1 := hW.cell 1); simp only [List.getElem?_toArray, List.getElem?_cons_succ, List.getElem?_cons_zero] at a_0 a_1
  clear hcelln hcc
  go_enter Tryz.func118, Tryz.ntmps118
  go_wp2_with fail
  have HS : Hid (∀ v : World, Below w.heap.size w v → v.cell? ⟨gW, 0, none⟩ = some (.slice (some ⟨bn, offn, none⟩) ns.length cn) ∧ v.cell? ⟨gW, 1, none⟩ = some vl ∧ v.cell? ⟨gK, 0, none⟩ = some (.int .i64 k) ∧ v.cell? ⟨bn, offn + k * 2, none⟩ = some (.int .i64 (ndI ns k).1) ∧ v.cell? ⟨bn, offn + k * 2 + 1, none⟩ = some (.int .i64 (ndI ns k).2)) := Lib.hid (fun v hv => ⟨(hv.cell (p := ⟨gW, 0, none⟩) hgW).trans a_0, (hv.cell (p := ⟨gW, 1, none⟩) hgW).trans a_1, (hv.cell (p := ⟨gK, 0, none⟩) hKl).trans hKc, (hv.cell (p := ⟨bn, offn + k * 2, none⟩) hbn).trans k0, (hv.cell (p := ⟨bn, offn + k * 2 + 1, none⟩) hbn).trans k1⟩)
  refine region_E (n := 26) (S := fun v => v.cell? ⟨gW, 0, none⟩ = some (.slice (some ⟨bn, offn, none⟩) ns.length cn) ∧ v.cell? ⟨gW, 1, none⟩ = some vl ∧ v.cell? ⟨gK, 0, none⟩ = some (.int .i64 k) ∧ v.cell? ⟨bn, offn + k * 2, none⟩ = some (.int .i64 (ndI ns k).1) ∧ v.cell? ⟨bn, offn + k * 2 + 1, none⟩ = some (.int .i64 (ndI ns k).2)) (by kernel_rfl) (HS.out _ (Below.refl _ _).drew) (fun hS => ?_)
  (refine E_take (i := 0) (v := ?_) rfl rfl (by kernel_rfl) (by kernel_rfl) (by kernel_rfl) (by kernel_rfl) (by kernel_rfl) (fun _ _ _ h => h) (Or.inl ⟨by rfl, ?_⟩) (by assumption) ?_); rotate_left; (focus (intro w' hSw; (try dsimp only at hSw); go_simp; (try with_reducible rfl))); (try simp only [Act.put, List.setIfInBounds_toArray, List.set_cons_zero, List.set_cons_succ])
  (refine E_take (i := 1) (v := ?_) rfl rfl (by kernel_rfl) (by kernel_rfl) (by kernel_rfl) (by kernel_rfl) (by kernel_rfl) (fun _ _ _ h => h) (Or.inl ⟨by rfl, ?_⟩) (by assumption) ?_); rotate_left; (focus (intro w' hSw; (try dsimp only at hSw); go_simp; (try with_reducible rfl))); (try simp only [Act.put, List.setIfInBounds_toArray, List.set_cons_zero, List.set_cons_succ])
  (refine E_take (i := 2) (v := ?_) rfl rfl (by kernel_rfl) (by kernel_rfl) (by kernel_rfl) (by kernel_rfl) (by kernel_rfl) (fun _ _ _ h => h) (Or.inl ⟨by rfl, ?_⟩) (by assumption) ?_); rotate_left; (focus (intro w' hSw; (try dsimp only at hSw); go_simp; (try with_reducible rfl))); (try simp only [Act.put, List.setIfInBounds_toArray, List.set_cons_zero, List.set_cons_succ])
  (refine E_take (i := 3) (v := ?_) rfl rfl (by kernel_rfl) (by kernel_rfl) (by kernel_rfl) (by kernel_rfl) (by kernel_rfl) (fun _ _ _ h => h) (Or.inl ⟨by rfl, ?_⟩) (by assumption) ?_); rotate_left; (focus (intro w' hSw; (try dsimp only at hSw); go_simp; (try with_reducible rfl))); (try simp only [Act.put, List.setIfInBounds_toArray, List.set_cons_zero, List.set_cons_succ])
  (refine E_take (i := 4) (v := ?_) rfl rfl (by kernel_rfl) (by kernel_rfl) (by kernel_rfl) (by kernel_rfl) (by kernel_rfl) (fun _ _ _ h => h) (Or.inl ⟨by rfl, ?_⟩) (by assumption) ?_); rotate_left; (focus (intro w' hSw; (try dsimp only at hSw); go_simp; (try with_reducible rfl))); (try simp only [Act.put, List.setIfInBounds_toArray, List.set_cons_zero, List.set_cons_succ])
  (refine E_take (i := 5) (v := ?_) rfl rfl (by kernel_rfl) (by kernel_rfl) (by kernel_rfl) (by kernel_rfl) (by kernel_rfl) (fun _ _ _ h => h) (Or.inl ⟨by rfl, ?_⟩) (by assumption) ?_); rotate_left; (focus (intro w' hSw; (try dsimp only at hSw); go_simp; (try with_reducible rfl))); (try simp only [Act.put, List.setIfInBounds_toArray, List.set_cons_zero, List.set_cons_succ])
  (refine E_take (i := 6) (v := ?_) rfl rfl (by kernel_rfl) (by kernel_rfl) (by kernel_rfl) (by kernel_rfl) (by kernel_rfl) (fun _ _ _ h => h) (Or.inl ⟨by rfl, ?_⟩) (by assumption) ?_); rotate_left; (focus (intro w' hSw; (try dsimp only at hSw); go_simp; (try with_reducible rfl))); (try simp only [Act.put, List.setIfInBounds_toArray, List.set_cons_zero, List.set_cons_succ])
  (refine E_take (i := 7) (v := ?_) rfl rfl (by kernel_rfl) (by kernel_rfl) (by kernel_rfl) (by kernel_rfl) (by kernel_rfl) (fun _ _ _ h => h) (Or.inl ⟨by rfl, ?_⟩) (by assumption) ?_); rotate_left; (focus (intro w' hSw; (try dsimp only at hSw); go_simp; (try with_reducible rfl))); (try simp only [Act.put, List.setIfInBounds_toArray, List.set_cons_zero, List.set_cons_succ])
  (refine E_take (i := 8) (v := ?_) rfl rfl (by kernel_rfl) (by kernel_rfl) (by kernel_rfl) (by kernel_rfl) (by kernel_rfl) (fun _ _ _ h => h) (Or.inl ⟨by rfl, ?_⟩) (by assumption) ?_); rotate_left; (focus (intro w' hSw; (try dsimp only at hSw); go_simp; (try with_reducible rfl))); (try simp only [Act.put, List.setIfInBounds_toArray, List.set_cons_zero, List.set_cons_succ])
  (refine E_take (i := 9) (v := ?_) rfl rfl (by kernel_rfl) (by kernel_rfl) (by kernel_rfl) (by kernel_rfl) (by kernel_rfl) (fun _ _ _ h => h) (Or.inl ⟨by rfl, ?_⟩) (by assumption) ?_); rotate_left; (focus (intro w' hSw; (try dsimp only at hSw); go_simp; (try with_reducible rfl))); (try simp only [Act.put, List.setIfInBounds_toArray, List.set_cons_zero, List.set_cons_succ])
  (refine E_take (i := 13) (v := ?_) rfl rfl (by kernel_rfl) (by kernel_rfl) (by kernel_rfl) (by kernel_rfl) (by kernel_rfl) (fun _ _ _ h => h) (Or.inl ⟨by rfl, ?_⟩) (by assumption) ?_); rotate_left; (focus (intro w' hSw; (try dsimp only at hSw); go_simp; (try with_reducible rfl))); (try simp only [Act.put, List.setIfInBounds_toArray, List.set_cons_zero, List.set_cons_succ])
  (refine E_take (i := 14) (v := ?_) rfl rfl (by kernel_rfl) (by kernel_rfl) (by kernel_rfl) (by kernel_rfl) (by kernel_rfl) (fun _ _ _ h => h) (Or.inl ⟨by rfl, ?_⟩) (by assumption) ?_); rotate_left; (focus (intro w' hSw; (try dsimp only at hSw); go_simp; (try with_reducible rfl))); (try simp only [Act.put, List.setIfInBounds_toArray, List.set_cons_zero, List.set_cons_succ])
  (refine E_take (i := 15) (v := ?_) rfl rfl (by kernel_rfl) (by kernel_rfl) (by kernel_rfl) (by kernel_rfl) (by kernel_rfl) (fun _ _ _ h => h) (Or.inl ⟨by rfl, ?_⟩) (by assumption) ?_); rotate_left; (focus (intro w' hSw; (try dsimp only at hSw); go_simp; (try with_reducible rfl))); (try simp only [Act.put, List.setIfInBounds_toArray, List.set_cons_zero, List.set_cons_succ])
  (refine E_take (i := 16) (v := ?_) rfl rfl (by kernel_rfl) (by kernel_rfl) (by kernel_rfl) (by kernel_rfl) (by kernel_rfl) (fun _ _ _ h => h) (Or.inl ⟨by rfl, ?_⟩) (by assumption) ?_); rotate_left; (focus (intro w' hSw; (try dsimp only at hSw); go_simp; (try with_reducible rfl))); (try simp only [Act.put, List.setIfInBounds_toArray, List.set_cons_zero, List.set_cons_succ])
  (refine E_take (i := 17) (v := ?_) rfl rfl (by kernel_rfl) (by kernel_rfl) (by kernel_rfl) (by kernel_rfl) (by kernel_rfl) (fun _ _ _ h => h) (Or.inl ⟨by rfl, ?_⟩) (by assumption) ?_); rotate_left; (focus (intro w' hSw; (try dsimp only at hSw); go_simp; (try with_reducible rfl))); (try simp only [Act.put, List.setIfInBounds_toArray, List.set_cons_zero, List.set_cons_succ])
  rw [X1.out, X2.out]
  have hpt := twin_lt hd
  have hqt := twin_lt he
  have T0 := dFrom_twin ls d
  have U0 := dFrom_twin ls e
  rw [ht] at T0
  rw [hu] at U0
  have HC := Lib.hid (fun (v : World) (hb : Below w.heap.size w v) => iFrom_any (.slice (some ⟨bn, offn, none⟩) ns.length cn) vl ls (twin d) v (hl.below hb) hpt)
  have HD := Lib.hid (fun (v : World) (hb : Below w.heap.size w v) => iFrom_any (.slice (some ⟨bn, offn, none⟩) ns.length cn) vl ls (twin e) v (hl.below hb) hqt)
  rw [T0] at HC
  rw [U0] at HD
  generalize twin d = pd at *
  generalize twin e = pe at *
  have HT : Hid (∀ v : World, Below w.heap.size w v → v.cell? ⟨bn, offn + t * 2, none⟩ = some (.int .i64 (ndI ns t).1) ∧ v.cell? ⟨bn, offn + t * 2 + 1, none⟩ = some (.int .i64 (ndI ns t).2)) := Lib.hid (fun v hv => ⟨(hv.cell (p := ⟨bn, offn + t * 2, none⟩) hbn).trans t0, (hv.cell (p := ⟨bn, offn + t * 2 + 1, none⟩) hbn).trans t1⟩)
  have HU : Hid (∀ v : World, Below w.heap.size w v → v.cell? ⟨bn, offn + u * 2, none⟩ = some (.int .i64 (ndI ns u).1) ∧ v.cell? ⟨bn, offn + u * 2 + 1, none⟩ = some (.int .i64 (ndI ns u).2)) := Lib.hid (fun v hv => ⟨(hv.cell (p := ⟨bn, offn + u * 2, none⟩) hbn).trans u0, (hv.cell (p := ⟨bn, offn + u * 2 + 1, none⟩) hbn).trans u1⟩)
  refine E_phase (n := 26) (Inv := fun L a v => ∃ v7 v8 v9 v20 v21 v22 v28 v29 v30, a = {
      tmps := #[.int .i64 d, .int .i64 e, .pointer (some ⟨gW, 0, none⟩), .pointer (some ⟨gK, 0, none⟩), undef, undef, .int .i64 0, v7, v8, v9,
        .pointer (some ⟨gW, 0, none⟩), .slice (some ⟨bn, offn, none⟩) ns.length cn, .int .i64 k, .pointer (some ⟨bn, offn + k * 2, none⟩), .agg #[.int .i64 (ndI ns k).1, .int .i64 (ndI ns k).2],
        .pointer (some ⟨gW, 0, none⟩), .slice (some ⟨bn, offn, none⟩) ns.length cn, .agg #[.slice (some ⟨bn, offn, none⟩) ns.length cn, vl], .int .i64 d, .int .i64 pd, v20, v21, v22,
        .pointer (some ⟨gW, 0, none⟩), .slice (some ⟨bn, offn, none⟩) ns.length cn, .agg #[.slice (some ⟨bn, offn, none⟩) ns.length cn, vl], .int .i64 e, .int .i64 pe, v28, v29, v30,
        undef, undef, undef, undef, undef, undef, undef, undef, undef], defers := [] } ∧
      Below w.heap.size w v ∧ (∀ j ∈ [0, 1, 2, 3, 4, 5, 6, 7, 8, 9, 13, 14, 15, 16, 17], tk L j = true) ∧
      Aft L 10 (v20 = .int .i64 t) ∧ Aft L 11 (v21 = .pointer (some ⟨bn, offn + t * 2, none⟩)) ∧ Aft L 12 (v22 = .agg #[.int .i64 (ndI ns t).1, .int .i64 (ndI ns t).2]) ∧
      Aft L 18 (v28 = .int .i64 u) ∧ Aft L 19 (v29 = .pointer (some ⟨bn, offn + u * 2, none⟩)) ∧ Aft L 20 (v30 = .agg #[.int .i64 (ndI ns u).1, .int .i64 (ndI ns u).2]) ∧
      One L 21 24 w.heap.size 78 #[.int .i64 0, .int .i64 0] #[.int .i64 (ndI ns k).1, .int .i64 (ndI ns k).2] v7 v ∧
      One L 22 25 w.heap.size 78 #[.int .i64 0, .int .i64 0] #[.int .i64 (ndI ns t).1, .int .i64 (ndI ns t).2] v8 v ∧
      One L 23 26 w.heap.size 78 #[.int .i64 0, .int .i64 0] #[.int .i64 (ndI ns u).1, .int .i64 (ndI ns u).2] v9 v ∧
      Apart2 L 21 22 v7 v8 ∧ Apart2 L 21 23 v7 v9 ∧ Apart2 L 22 23 v8 v9) (by decide) (by kernel_rfl) (by kernel_rfl) ?_ ?_ 12 _ _ _ rfl ?_ (by kernel_rfl) ?_
  · intro L a v hI i hi hr
    obtain ⟨v7, v8, v9, v20, v21, v22, v28, v29, v30, rfl, hb, hpre, f10, f11, f12, f18, f19, f20, o7, o8, o9, p78, p79, p89⟩ := hI
    have hun := ready_un hr
    have hsv := HS.out v hb
    rcases (show i = 10 ∨ i = 11 ∨ i = 12 ∨ i = 18 ∨ i = 19 ∨ i = 20 ∨ i = 21 ∨ i = 22 ∨ i = 23 ∨ i = 24 ∨ i = 25 ∨ i ∈ [0, 1, 2, 3, 4, 5, 6, 7, 8, 9, 13, 14, 15, 16, 17] by simp only [List.mem_cons, List.mem_nil_iff, or_false]; omega) with rfl | rfl | rfl | rfl | rfl | rfl | rfl | rfl | rfl | rfl | rfl | hm
    · -- 10
      refine wp_step rfl (fun K hK => ?_)
      rw [if_pos (by rfl)]
      go_simp
      go_at_call 98
      refine (HC.out _ hb).mono ?_
      rintro en w1 ⟨rfl, hb1⟩
      go_wp2_with fail
      have hbw := hb.trans (hb1.mono hb.size)
      exact ⟨HS.out _ hbw, _, _, _, _, _, _, _, _, _, rfl, hbw, preS hpre, Aft.new rfl, f11.keep (by decide), f12.keep (by decide), f18.keep (by decide), f19.keep (by decide), f20.keep (by decide), o7.step (by decide) (by decide) hb1, o8.step (by decide) (by decide) hb1, o9.step (by decide) (by decide) hb1, p78.step (by decide) (by decide), p79.step (by decide) (by decide), p89.step (by decide) (by decide)⟩
    · -- 11
      obtain rfl := f10 (ready_tk hr rfl (by kernel_rfl))
      refine wp_step rfl (fun K hK => ?_)
      rw [if_pos (by rfl)]
      go_simp
      exact hK _ _ ⟨hsv, _, _, _, _, _, _, _, _, _, rfl, hb, preS hpre, f10.keep (by decide), Aft.new rfl, f12.keep (by decide), f18.keep (by decide), f19.keep (by decide), f20.keep (by decide), o7.step (by decide) (by decide) (Below.refl _ _), o8.step (by decide) (by decide) (Below.refl _ _), o9.step (by decide) (by decide) (Below.refl _ _), p78.step (by decide) (by decide), p79.step (by decide) (by decide), p89.step (by decide) (by decide)⟩
    · -- 12
      obtain rfl := f11 (ready_tk hr rfl (by kernel_rfl))
      obtain ⟨c0, c1⟩ := HT.out v hb
      refine wp_step rfl (fun K hK => ?_)
      rw [if_pos (by rfl)]
      go_simp
      exact hK _ _ ⟨hsv, _, _, _, _, _, _, _, _, _, rfl, hb, preS hpre, f10.keep (by decide), f11.keep (by decide), Aft.new rfl, f18.keep (by decide), f19.keep (by decide), f20.keep (by decide), o7.step (by decide) (by decide) (Below.refl _ _), o8.step (by decide) (by decide) (Below.refl _ _), o9.step (by decide) (by decide) (Below.refl _ _), p78.step (by decide) (by decide), p79.step (by decide) (by decide), p89.step (by decide) (by decide)⟩
    · -- 18
      refine wp_step rfl (fun K hK => ?_)
      rw [if_pos (by rfl)]
      go_simp
      go_at_call 98
      refine (HD.out _ hb).mono ?_
      rintro en w1 ⟨rfl, hb1⟩
      go_wp2_with fail
      have hbw := hb.trans (hb1.mono hb.size)
      exact ⟨HS.out _ hbw, _, _, _, _, _, _, _, _, _, rfl, hbw, preS hpre, f10.keep (by decide), f11.keep (by decide), f12.keep (by decide), Aft.new rfl, f19.keep (by decide), f20.keep (by decide), o7.step (by decide) (by decide) hb1, o8.step (by decide) (by decide) hb1, o9.step (by decide) (by decide) hb1, p78.step (by decide) (by decide), p79.step (by decide) (by decide), p89.step (by decide) (by decide)⟩
    · -- 19
      obtain rfl := f18 (ready_tk hr rfl (by kernel_rfl))
      refine wp_step rfl (fun K hK => ?_)
      rw [if_pos (by rfl)]
      go_simp
      exact hK _ _ ⟨hsv, _, _, _, _, _, _, _, _, _, rfl, hb, preS hpre, f10.keep (by decide), f11.keep (by decide), f12.keep (by decide), f18.keep (by decide), Aft.new rfl, f20.keep (by decide), o7.step (by decide) (by decide) (Below.refl _ _), o8.step (by decide) (by decide) (Below.refl _ _), o9.step (by decide) (by decide) (Below.refl _ _), p78.step (by decide) (by decide), p79.step (by decide) (by decide), p89.step (by decide) (by decide)⟩
    · -- 20
      obtain rfl := f19 (ready_tk hr rfl (by kernel_rfl))
      obtain ⟨c0, c1⟩ := HU.out v hb
      refine wp_step rfl (fun K hK => ?_)
      rw [if_pos (by rfl)]
      go_simp
      exact hK _ _ ⟨hsv, _, _, _, _, _, _, _, _, _, rfl, hb, preS hpre, f10.keep (by decide), f11.keep (by decide), f12.keep (by decide), f18.keep (by decide), f19.keep (by decide), Aft.new rfl, o7.step (by decide) (by decide) (Below.refl _ _), o8.step (by decide) (by decide) (Below.refl _ _), o9.step (by decide) (by decide) (Below.refl _ _), p78.step (by decide) (by decide), p79.step (by decide) (by decide), p89.step (by decide) (by decide)⟩
    · -- 21
      refine wp_step rfl (fun K hK => ?_)
      rw [if_pos (by rfl)]
      go_simp
      have hb1 : Below v.heap.size v (v.alloc (.cells #[.int .i64 0, .int .i64 0] 78)) := (Below.refl _ _).alloc (Nat.le_refl _) _
      have hbw := hb.trans (hb1.mono hb.size)
      exact hK _ _ ⟨HS.out _ hbw, _, _, _, _, _, _, _, _, _, rfl, hbw, preS hpre, f10.keep (by decide), f11.keep (by decide), f12.keep (by decide), f18.keep (by decide), f19.keep (by decide), f20.keep (by decide), o7.lay hun (by decide) hb.size, o8.step (by decide) (by decide) hb1, o9.step (by decide) (by decide) hb1, Apart2.newL o8 (by decide), Apart2.newL o9 (by decide), p89.step (by decide) (by decide)⟩
    · -- 22
      refine wp_step rfl (fun K hK => ?_)
      rw [if_pos (by rfl)]
      go_simp
      have hb1 : Below v.heap.size v (v.alloc (.cells #[.int .i64 0, .int .i64 0] 78)) := (Below.refl _ _).alloc (Nat.le_refl _) _
      have hbw := hb.trans (hb1.mono hb.size)
      exact hK _ _ ⟨HS.out _ hbw, _, _, _, _, _, _, _, _, _, rfl, hbw, preS hpre, f10.keep (by decide), f11.keep (by decide), f12.keep (by decide), f18.keep (by decide), f19.keep (by decide), f20.keep (by decide), o7.step (by decide) (by decide) hb1, o8.lay hun (by decide) hb.size, o9.step (by decide) (by decide) hb1, Apart2.newR o7 (by decide), p79.step (by decide) (by decide), Apart2.newL o9 (by decide)⟩
    · -- 23
      refine wp_step rfl (fun K hK => ?_)
      rw [if_pos (by rfl)]
      go_simp
      have hb1 : Below v.heap.size v (v.alloc (.cells #[.int .i64 0, .int .i64 0] 78)) := (Below.refl _ _).alloc (Nat.le_refl _) _
      have hbw := hb.trans (hb1.mono hb.size)
      exact hK _ _ ⟨HS.out _ hbw, _, _, _, _, _, _, _, _, _, rfl, hbw, preS hpre, f10.keep (by decide), f11.keep (by decide), f12.keep (by decide), f18.keep (by decide), f19.keep (by decide), f20.keep (by decide), o7.step (by decide) (by decide) hb1, o8.step (by decide) (by decide) hb1, o9.lay hun (by decide) hb.size, p78.step (by decide) (by decide), Apart2.newR o7 (by decide), Apart2.newR o8 (by decide)⟩
    · -- 24
      have h21 := ready_tk (j := 21) hr rfl (by kernel_rfl)
      obtain ⟨g, rfl, hg, hB⟩ := o7.zero h21 hun
      (have b_0 := hB.cell 0); (have b_1 := hB.cell 1); simp only [List.getElem?_toArray, List.getElem?_cons_succ, List.getElem?_cons_zero] at b_0 b_1; (have b_f0 := hB.frozen 0); (have b_f1 := hB.frozen 1)
      refine wp_step rfl (fun K hK => ?_)
      rw [if_pos (by rfl)]
      go_simp
      have hbw := (hb.setCell (p := ⟨g, 0, none⟩) hg (.int .i64 (ndI ns k).1)).setCell (p := ⟨g, 1, none⟩) hg (.int .i64 (ndI ns k).2)
      exact hK _ _ ⟨HS.out _ hbw, _, _, _, _, _, _, _, _, _, rfl, hbw, preS hpre, f10.keep (by decide), f11.keep (by decide), f12.keep (by decide), f18.keep (by decide), f19.keep (by decide), f20.keep (by decide), o7.fill h21 hun rfl (by decide), o8.far (by decide) (by decide) (fun h => (p78 h21 h).symm) 0 1 _ _, o9.far (by decide) (by decide) (fun h => (p79 h21 h).symm) 0 1 _ _, p78.step (by decide) (by decide), p79.step (by decide) (by decide), p89.step (by decide) (by decide)⟩
    · -- 25
      have h22 := ready_tk (j := 22) hr rfl (by kernel_rfl)
      obtain ⟨g, rfl, hg, hB⟩ := o8.zero h22 hun
      obtain rfl := f12 (ready_tk hr rfl (by kernel_rfl))
      (have b_0 := hB.cell 0); (have b_1 := hB.cell 1); simp only [List.getElem?_toArray, List.getElem?_cons_succ, List.getElem?_cons_zero] at b_0 b_1; (have b_f0 := hB.frozen 0); (have b_f1 := hB.frozen 1)
      refine wp_step rfl (fun K hK => ?_)
      rw [if_pos (by rfl)]
      go_simp
      have hbw := (hb.setCell (p := ⟨g, 0, none⟩) hg (.int .i64 (ndI ns t).1)).setCell (p := ⟨g, 1, none⟩) hg (.int .i64 (ndI ns t).2)
      exact hK _ _ ⟨HS.out _ hbw, _, _, _, _, _, _, _, _, _, rfl, hbw, preS hpre, f10.keep (by decide), f11.keep (by decide), f12.keep (by decide), f18.keep (by decide), f19.keep (by decide), f20.keep (by decide), o7.far (by decide) (by decide) (fun h => p78 h h22) 0 1 _ _, o8.fill h22 hun rfl (by decide), o9.far (by decide) (by decide) (fun h => (p89 h22 h).symm) 0 1 _ _, p78.step (by decide) (by decide), p79.step (by decide) (by decide), p89.step (by decide) (by decide)⟩
    · rw [hpre i hm] at hun; cases hun
  · intro a v hI
    obtain ⟨v7, v8, v9, v20, v21, v22, v28, v29, v30, rfl, hb, hpre, f10, f11, f12, f18, f19, f20, o7, o8, o9, p78, p79, p89⟩ := hI
    obtain rfl := f20 (by kernel_rfl)
    obtain ⟨g9, rfl, hg9, hB⟩ := o9.zero (by kernel_rfl) (by kernel_rfl)
    obtain ⟨g7, rfl, hg7, hB7⟩ := o7.full (by kernel_rfl)
    obtain ⟨g8, rfl, hg8, hB8⟩ := o8.full (by kernel_rfl)
    have n7 : g7 ≠ g9 := fun h => p79 (by kernel_rfl) (by kernel_rfl) (by rw [h])
    have n8 : g8 ≠ g9 := fun h => p89 (by kernel_rfl) (by kernel_rfl) (by rw [h])
    (have b_0 := hB.cell 0); (have b_1 := hB.cell 1); simp only [List.getElem?_toArray, List.getElem?_cons_succ, List.getElem?_cons_zero] at b_0 b_1; (have b_f0 := hB.frozen 0); (have b_f1 := hB.frozen 1)
    refine E_step (fuel := 0) (n := 26) (i := 26) rfl (by kernel_rfl) (fun K hK => ?_)
    rw [if_pos (by rfl)]
    go_simp
    refine hK _ _ (fun h => absurd h (by decide)) (fun _ => ?_)
    clear hK K
    refine E_done (by kernel_rfl) ?_ _
    have hbw := (hb.setCell (p := ⟨g9, 0, none⟩) hg9 (.int .i64 (ndI ns u).1)).setCell (p := ⟨g9, 1, none⟩) hg9 (.int .i64 (ndI ns u).2)
    have hB9 : Blk ((v.setCell ⟨g9, 0, none⟩ (.int .i64 (ndI ns u).1)).setCell ⟨g9, 1, none⟩ (.int .i64 (ndI ns u).2)) g9 78 #[.int .i64 (ndI ns u).1, .int .i64 (ndI ns u).2] := by
      have := (hB.set_ 0 (.int .i64 (ndI ns u).1)).set_ 1 (.int .i64 (ndI ns u).2)
      simpa using this
    have hB7' := (hB7.far (p := ⟨g9, 0, none⟩) n7 (.int .i64 (ndI ns u).1)).far (p := ⟨g9, 1, none⟩) n7 (.int .i64 (ndI ns u).2)
    have hB8' := (hB8.far (p := ⟨g9, 0, none⟩) n8 (.int .i64 (ndI ns u).1)).far (p := ⟨g9, 1, none⟩) n8 (.int .i64 (ndI ns u).2)
    generalize ((v.setCell ⟨g9, 0, none⟩ (.int .i64 (ndI ns u).1)).setCell ⟨g9, 1, none⟩ (.int .i64 (ndI ns u).2)) = w3 at *
    clear hB hB7 hB8 b_0 b_1 b_f0 b_f1 hb o7 o8 o9 p78 p79 p89 f10 f11 f12 f18 f19 f20 hpre
    (have b_0 := hB7'.cell 0); (have b_1 := hB7'.cell 1); simp only [List.getElem?_toArray, List.getElem?_cons_succ, List.getElem?_cons_zero] at b_0 b_1; (have b_f0 := hB7'.frozen 0); (have b_f1 := hB7'.frozen 1)
    (have c_0 := hB8'.cell 0); (have c_1 := hB8'.cell 1); simp only [List.getElem?_toArray, List.getElem?_cons_succ, List.getElem?_cons_zero] at c_0 c_1; (have c_f0 := hB8'.frozen 0); (have c_f1 := hB8'.frozen 1)
    (have f_0 := hB9.cell 0); (have f_1 := hB9.cell 1); simp only [List.getElem?_toArray, List.getElem?_cons_succ, List.getElem?_cons_zero] at f_0 f_1; (have f_f0 := hB9.frozen 0); (have f_f1 := hB9.frozen 1)
    by_cases hde : d = e
    · have e1 : ((d : Int) == (e : Int)) = true := by simp [hde]
      have HR : Hid (cmpD ns ls k d e = 0) := Lib.hid (by simp [cmpD, hde])
      go_wp2
      go_ret
      exact ⟨ret_int HR.out.symm, hbw⟩
    · have e1 : ((d : Int) == (e : Int)) = false := by simp; omega
      obtain ⟨x, hx⟩ : ∃ x, befB (ndI ns k).1 (ndI ns k).2 (ndI ns t).1 (ndI ns t).2 (ndI ns u).1 (ndI ns u).2 = x := ⟨_, rfl⟩
      have HR : Hid (cmpD ns ls k d e = if x then -1 else 1) := Lib.hid (by
        unfold cmpD bfD
        rw [if_neg hde, ht, hu, hx])
      go_wp2_with fail
      refine (iBefore_at (ndI ns k) (ndI ns t) (ndI ns u) x _ hx).mono ?_
      rintro en w4 ⟨rfl, hb4⟩
      have hbw4 := hbw.trans (hb4.mono hbw.size)
      cases x
      · go_wp2
        go_ret
        exact ⟨ret_int HR.out.symm, hbw4⟩
      · go_wp2
        go_ret
        exact ⟨ret_int HR.out.symm, hbw4⟩
  · intro j h1 h2
    have : j = 26 := by
      have h3 : j < 27 := h2
      omega
    subst this
    rfl
  · refine ⟨_, _, _, _, _, _, _, _, _, rfl, (Below.refl _ _).drew, by decide, Aft.no rfl, Aft.no rfl, Aft.no rfl, Aft.no rfl, Aft.no rfl, Aft.no rfl, One.start rfl rfl, One.start rfl rfl, One.start rfl rfl, Apart2.start rfl, Apart2.start rfl, Apart2.start rfl⟩

end Go.Proofs.YtognjdappchpkaaGreat

namespace Go.Proofs.YtognjdappchpkaaGreat
open Go.RowKit

set_option maxHeartbeats 2000000 in
set_option maxRecDepth 100000 in
theorem insSort_nil (f : Nat) (lb : Array Value) (w : World) :
    Calls Tryz.prog 123 #[.slice none 0 0, .int .i64 0, .int .i64 0, .func (.func f) #[] lb] w
      fun e w' => e = .returned (.tuple #[]) ∧ Below w.heap.size w w' := by
  go_enter Tryz.func123, Tryz.ntmps123
  go_wp2
  refine wp_loop_rounds 1 ?_
  rw [rounds_succ]
  go_wp2
  go_end0
  exact ⟨rfl, by (repeat' (first | (with_reducible exact Below.refl _ _) | (with_reducible assumption) | (with_reducible refine Below.drew ?_) | (with_reducible refine below_drewN ?_ _) | (with_reducible refine Below.alloc ?_ ?_ _) | (with_reducible refine Below.setCell ?_ ?_ _) | (with_reducible refine Below.step (by assumption) ?_ ?_))); all_goals (first | omega | (simp; done) | (simp; omega))⟩

set_option maxHeartbeats 4000000 in
set_option maxRecDepth 100000 in
theorem pdq_any (base f g cap : Nat) (k : Int) (lb : Array Value) (G : List Nat) (c : Nat → Nat → Int) (lt : Nat → Nat → Bool) (w : World) (hc : CmpAt f lb G c (some g) w) (hlt : ∀ d e, decide (c d e < 0) = lt d e)
    (ho : OwnI base w (.slice (some ⟨g, 0, none⟩) G.length cap) (natI G)) (h12 : G.length ≤ 12) (ef : Enters Tryz.prog f) :
    Calls Tryz.prog 120 #[.slice (some ⟨g, 0, none⟩) G.length cap, .int .i64 0, .int .i64 G.length, .int .i64 k, .func (.func f) #[] lb] w
      fun e w' => e = .returned (.tuple #[]) ∧ OwnI base w' (.slice (some ⟨g, 0, none⟩) G.length cap) (natI (isoK lt G G.length)) ∧ w.grownBy w' (some g) := by
  have h1 : (G.length : Int) ≤ 12 := by omega
  go_enter Tryz.func120, Tryz.ntmps120
  go_wp2
  refine wp_loop_rounds 1 ?_
  rw [rounds_succ]
  go_wp2_with fail
  refine (insSort_any base f g cap lb G c lt _ hc hlt ho h12 ef).mono ?_
  rintro e w1 ⟨rfl, ho1, hg1⟩
  go_wp2
  exact bodyPost_ret (v := .tuple #[]) (by simp [results, Tryz.results120, go_sem]) rfl ⟨rfl, ho1, hg1⟩

set_option maxHeartbeats 2000000 in
set_option maxRecDepth 100000 in
theorem sortF_any (base f g cap : Nat) (lb : Array Value) (G : List Nat) (c : Nat → Nat → Int) (lt : Nat → Nat → Bool) (w : World) (hc : CmpAt f lb G c (some g) w) (hlt : ∀ d e, decide (c d e < 0) = lt d e)
    (ho : OwnI base w (.slice (some ⟨g, 0, none⟩) G.length cap) (natI G)) (h12 : G.length ≤ 12) (ef : Enters Tryz.prog f) :
    Calls Tryz.prog 117 #[.slice (some ⟨g, 0, none⟩) G.length cap, .func (.func f) #[] lb] w
      fun e w' => e = .returned (.tuple #[]) ∧ OwnI base w' (.slice (some ⟨g, 0, none⟩) G.length cap) (natI (isoK lt G G.length)) ∧ w.grownBy w' (some g) := by
  have h0 : (0 : Int) ≤ (G.length : Int) := by omega
  have h1 : (G.length : Int) ≤ 12 := by omega
  go_enter Tryz.func117, Tryz.ntmps117
  go_wp2_with (go_at_call 121; refine (len_any _ _ h0 h1).mono ?_; rintro e w' ⟨⟨k, rfl⟩, rfl⟩)
  refine (pdq_any base f g cap _ lb G c lt _ hc hlt ho h12 ef).mono ?_
  rintro e w1 ⟨rfl, ho1, hg1⟩
  go_wp2
  go_end0
  exact ⟨rfl, ho1, hg1⟩

set_option maxHeartbeats 2000000 in
set_option maxRecDepth 100000 in
theorem pdq_nil (f : Nat) (k : Int) (lb : Array Value) (w : World) :
    Calls Tryz.prog 120 #[.slice none 0 0, .int .i64 0, .int .i64 0, .int .i64 k, .func (.func f) #[] lb] w
      fun e w' => e = .returned (.tuple #[]) ∧ Below w.heap.size w w' := by
  go_enter Tryz.func120, Tryz.ntmps120
  go_wp2
  refine wp_loop_rounds 1 ?_
  rw [rounds_succ]
  go_wp2_with fail
  refine (insSort_nil f lb _).mono ?_
  rintro e w1 ⟨rfl, hb1⟩
  go_wp2
  exact bodyPost_ret (v := .tuple #[]) (by simp [results, Tryz.results120, go_sem]) rfl ⟨rfl, hb1⟩

set_option maxHeartbeats 2000000 in
set_option maxRecDepth 100000 in
theorem sortF_nil (f : Nat) (lb : Array Value) (w : World) :
    Calls Tryz.prog 117 #[.slice none 0 0, .func (.func f) #[] lb] w
      fun e w' => e = .returned (.tuple #[]) ∧ Below w.heap.size w w' := by
  go_enter Tryz.func117, Tryz.ntmps117
  go_wp2_with (go_at_call 121; refine (len_any 0 _ (by omega) (by omega)).mono ?_; rintro e w' ⟨⟨k, rfl⟩, rfl⟩)
  refine (pdq_nil f _ lb _).mono ?_
  rintro e w1 ⟨rfl, hb1⟩
  go_wp2
  go_end0
  exact ⟨rfl, hb1⟩

theorem frD_len (ls : List Pr) (k : Nat) : ∀ d, (frD ls k d).length ≤ d
  | 0 => by simp [frD]
  | d + 1 => by
    have := frD_len ls k d
    unfold frD
    split <;> simp <;> omega

set_option maxHeartbeats 4000000 in
set_option maxRecDepth 100000 in
theorem iAround_any (vn vl : Value) (ns ls : List Pr) (k : Nat) (w : World) (hn : RP w vn ns) (hl : RP w vl ls) (hk : k < ns.length) (hwin : WinOk ns ls) :
    Calls Tryz.prog 115 #[.agg #[vn, vl], .int .i64 k] w (RetI (natI (ardS ns ls k (2 * ls.length))) w) := by
  have hm20 := hwin.2.2.1
  obtain ⟨Al, cl, rfl, hcl, hml, _⟩ := hl.formI
  unfold maxLen at hml
  obtain ⟨i0, hi, iz0, iz1, iz2⟩ := info_parts infoInt
  go_enter Tryz.func115, Tryz.ntmps115
  go_wp2
  go_loopw [5, 6] (fun v i wr => ∃ d : Nat, d ≤ 2 * ls.length ∧ i = .int .i64 d ∧ OwnI (w.heap.size + 1 + 1) wr v (natI (frD ls k d)) ∧ Blk wr w.heap.size 34 #[vn, .slice Al ls.length cl] ∧ Blk wr (w.heap.size + 1) 3 #[.int .i64 k] ∧ Below w.heap.size w wr) (fun _ i _ => 2 * ls.length - (intOf i).toNat)
  case atStart => exact ⟨0, Nat.zero_le _, rfl, OwnI.nil _ _, (Blk.newAt rfl).alloc _, Blk.newAt (by simp), by (repeat' (first | (with_reducible exact Below.refl _ _) | (with_reducible assumption) | (with_reducible refine Below.drew ?_) | (with_reducible refine below_drewN ?_ _) | (with_reducible refine Below.alloc ?_ ?_ _) | (with_reducible refine Below.setCell ?_ ?_ _) | (with_reducible refine Below.step (by assumption) ?_ ?_))); all_goals (first | omega | (simp; done) | (simp; omega))⟩
  case round =>
    obtain ⟨d, hd, rfl, ho, hW, hK, hbl⟩ := hrel
    have hsz := hW.lt
    have hsk := hK.lt
    by_cases hlt : d < 2 * ls.length
    · have hlt1 : (d : Int) < 2 * (ls.length : Int) := by omega
      have hlr : RP wr (.slice Al ls.length cl) ls := hl.below hbl
      have kk := hK.cell 0
      simp only [List.getElem?_toArray, List.getElem?_cons_zero] at kk
      (have a_0 := hW.cell 0); (have a_1 := hW.cell 1); simp only [List.getElem?_toArray, List.getElem?_cons_succ, List.getElem?_cons_zero] at a_0 a_1
      have HX : Hid (((dFrom ls d) == (k : Int)) = decide (dFrom ls d = k)) := Lib.hid rfl
      go_wp2_with fail
      (refine wp_region_quietG (by kernel_rfl) (by kernel_rfl) (fun hG => ?_))
      repeat (go_big_quiet_step ((go_at_call 98; exact quietG (iFrom_any _ _ ls d _ (RS.grw _ hlr) hlt))))
      (refine wpQuiet_nil ?_); (clear hG); (rintro w3 ⟨⟨_, hb3⟩, rfl⟩); (try dsimp only); (first | (with_reducible have hcf3 := bcell_drew hb3) | have hcf3 := bcell hb3); obtain ⟨hc3, hf3⟩ := hcf3; have hz3 := hb3.size; (try simp at hz3); (try have hp3_0 : w.heap.size < w3.heap.size := by omega); (try have hp3_1 : w.heap.size + 1 < w3.heap.size := by omega); (try have hp3_2 : w.heap.size + 1 + 1 < w3.heap.size := by omega); (try have hp3_3 : w.heap.size + 1 + 1 + 1 < w3.heap.size := by omega)
      have hbl3 : Below w.heap.size w w3 := hbl.trans (hb3.mono hbl.size)
      have ho3 := ho.kept hb3
      have hW3 := hW.below hb3 hsz
      have hK3 := hK.below hb3 hsk
      clear hb3 hc3 hf3 hlr ho hW hK hbl a_0 a_1 kk
      by_cases hfr : dFrom ls d = k
      · have e1 : (dFrom ls d == (k : Int)) = true := by simp [hfr]
        have HS : Hid (natI (frD ls k (d + 1)) = natI (frD ls k d) ++ [(d : Int)]) := Lib.hid (by rw [frD_yes hfr]; simp [natI])
        have hle := frD_len ls k d
        have HGL := Lib.hid (natI_length (frD ls k d))
        generalize frD ls k d = G at *
        have hG : G.length ≤ 40 := by omega
        clear hle HX
        go_wp2_with (at_builtin; refine wpList_append_own _ rfl _ _ 28 rfl (w.heap.size + 1 + 1) 3 i0 (.int .i64 0) 1 8 Tryz.underlying28 hi iz0 iz1 iz2 rfl (by decide) _ _ _ rfl (World.ownsRow.alloc ho3 _) ⟨w3.heap.size, 0, none⟩ 1 1 [.int .i64 _] rfl rfl (cell_one_new _ _ _) (by intro u hu; simp at hu; subst hu; rfl) (by rw [HGL.out]; unfold maxLen; omega) (by rw [HGL.out]; omega) (by simp; omega) ?_)
        intro v2 w2 hown2 hg2 hne2
        have hbl2 : Below w.heap.size w w2 := (hbl3.alloc hbl3.size (.cells #[.int .i64 (d : Int)] 3)).grown hg2 (by simp; have := hbl3.size; omega) (fun k hk => by have := (ho3.lt k hk).1; omega)
        have hW2 : Blk w2 w.heap.size 34 #[vn, .slice Al ls.length cl] := (hg2.block _ (by simp; omega) (fun e => by have := (ho3.lt _ e.symm).1; omega)).trans (hW3.alloc _)
        have hK2 : Blk w2 (w.heap.size + 1) 3 #[.int .i64 k] := (hg2.block _ (by simp; omega) (fun e => by have := (ho3.lt _ e.symm).1; omega)).trans (hK3.alloc _)
        have HO := Lib.hid (OwnI.snoc hown2)
        clear hown2 hg2 ho3 hW3 hK3 hbl3 hne2 hfr
        go_wp2
        go_roundw
        case rel => exact ⟨d + 1, by omega, by go_num, by rw [HS.out]; exact HO.out, hW2, hK2, hbl2⟩
        case measure => simp [intOf]; omega
      · have e1 : (dFrom ls d == (k : Int)) = false := by simp [hfr]
        have HS : Hid (frD ls k (d + 1) = frD ls k d) := Lib.hid (frD_no hfr)
        clear hfr HX
        go_wp2
        go_roundw
        case rel => exact ⟨d + 1, by omega, by go_num, by rw [HS.out]; exact ho3, hW3, hK3, hbl3⟩
        case measure => simp [intOf]; omega
    · have hdd : d = 2 * ls.length := by omega
      subst hdd
      (have a_0 := hW.cell 0); (have a_1 := hW.cell 1); simp only [List.getElem?_toArray, List.getElem?_cons_succ, List.getElem?_cons_zero] at a_0 a_1
      have hAS := iso_ard ns ls k (2 * ls.length)
      have h12 := frD_le hwin k
      have hmem := frD_lt ls k (2 * ls.length)
      generalize frD ls k (2 * ls.length) = G at *
      rcases hcase : ho.2 with ⟨rfl, e1⟩ | ⟨gb, cap, cur, rfl, hbg, hh, hrest⟩
      · have hG0 : G = [] := by rw [natI_length] at e1; exact List.eq_nil_of_length_eq_zero e1
        have HR : Hid (ardS ns ls k (2 * ls.length) = []) := Lib.hid (by rw [← hAS, hG0]; rfl)
        clear hcase hAS hmem e1 ho
        go_wp2_with fail
        refine (sortF_nil _ _ _).mono ?_
        rintro e w4 ⟨rfl, hb4⟩
        go_wp2
        go_ret
        exact ⟨_, rfl, by rw [HR.out]; exact OwnI.nil _ _, hbl.trans (hb4.mono hbl.size)⟩
      · have hgz := (ho.lt gb rfl).2
        have hgl := natI_length G
        rw [hgl] at ho ⊢
        have hc : CmpAt 118 #[.pointer (some ⟨w.heap.size, 0, none⟩), .pointer (some ⟨w.heap.size + 1, 0, none⟩)] G (cmpD ns ls k) (some gb) wr := by
          intro v d e hd he hgv
          have hbv : Below w.heap.size w v := hbl.grown hgv hbl.size (fun k hk => by cases hk; omega)
          have hWv := hW.grown hgv (by omega)
          have hKv := hK.grown hgv (by omega)
          have kk := hKv.cell 0
          simp only [List.getElem?_toArray, List.getElem?_cons_zero] at kk
          exact cmp_any w.heap.size (w.heap.size + 1) vn (.slice Al ls.length cl) ns ls k d e v hWv kk hKv.lt (hn.below hbv) (hl.below hbv) hk (hmem d hd).1 (hmem e he).1 hwin
        have HC := Lib.hid hc
        have HO := Lib.hid ho
        have HAS := Lib.hid hAS
        clear hc ho hcase hh hrest hgl hmem hAS
        go_wp2_with fail
        refine (sortF_any (w.heap.size + 1 + 1) _ gb cap _ G (cmpD ns ls k) (bfD ns ls k) _ HC.out (cmpD_lt ns ls k) HO.out h12 (enters_of Tryz.func118 (by kernel_rfl) rfl)).mono ?_
        rintro e w4 ⟨rfl, ho4, hg4⟩
        rw [HAS.out] at ho4
        go_wp2
        go_ret
        exact ⟨_, rfl, ho4.mono (by omega), hbl.grown hg4 hbl.size (fun k hk => by cases hk; omega)⟩

end Go.Proofs.YtognjdappchpkaaGreat

namespace Go.Proofs.YtognjdappchpkaaGreat

def seenB (F : List (List Nat)) (d : Nat) : Bool := F.any (·.contains d)

/-- The faces of the first m darts. -/
def facesK (ns ls : List Pr) : Nat → List (List Nat)
  | 0 => []
  | m + 1 => if seenB (facesK ns ls m) m then facesK ns ls m else facesK ns ls m ++ [walkD ns ls m]

theorem facesK_yes {ns ls : List Pr} {m : Nat} (h : seenB (facesK ns ls m) m = true) : facesK ns ls (m + 1) = facesK ns ls m := by simp [facesK, h]
theorem facesK_no {ns ls : List Pr} {m : Nat} (h : seenB (facesK ns ls m) m = false) : facesK ns ls (m + 1) = facesK ns ls m ++ [walkD ns ls m] := by simp [facesK, h]

def facesD (ns ls : List Pr) : List (List Nat) := facesK ns ls (2 * ls.length)

theorem facesK_len (ns ls : List Pr) : ∀ m, (facesK ns ls m).length ≤ m
  | 0 => by simp [facesK]
  | m + 1 => by
    have := facesK_len ns ls m
    cases h : seenB (facesK ns ls m) m
    · rw [facesK_no h]; simp; omega
    · rw [facesK_yes h]; omega

theorem walk_bd {ns ls : List Pr} (hld : ∀ j : Nat, j < ls.length → leadB ns (ndI ls j) = true) {d : Nat} (hd : d < 2 * ls.length) : ∀ e ∈ walkD ns ls d, e < 2 * ls.length := by
  intro e he
  unfold walkD walkK at he
  rw [List.mem_map] at he
  obtain ⟨i, _, rfl⟩ := he
  exact orb_lt hld hd i

theorem walk_len {ns ls : List Pr} (hld : ∀ j : Nat, j < ls.length → leadB ns (ndI ls j) = true) {d : Nat} (hd : d < 2 * ls.length) : 0 < (walkD ns ls d).length ∧ (walkD ns ls d).length ≤ 2 * ls.length := by
  unfold walkD
  rw [walkK_length]
  have := per_spec hld hd
  exact ⟨this.1, this.2.1⟩

theorem facesK_bd {ns ls : List Pr} (hld : ∀ j : Nat, j < ls.length → leadB ns (ndI ls j) = true) : ∀ m, m ≤ 2 * ls.length → ∀ f ∈ facesK ns ls m, (∀ e ∈ f, e < 2 * ls.length) ∧ 0 < f.length ∧ f.length ≤ 2 * ls.length
  | 0, _, f, hf => by simp [facesK] at hf
  | m + 1, hm, f, hf => by
    cases h : seenB (facesK ns ls m) m
    · rw [facesK_no h, List.mem_append, List.mem_singleton] at hf
      rcases hf with hf | rfl
      · exact facesK_bd hld m (by omega) f hf
      · exact ⟨walk_bd hld (by omega), walk_len hld (by omega)⟩
    · rw [facesK_yes h] at hf; exact facesK_bd hld m (by omega) f hf

/-- What a dart adds to twice an area. -/
def crossD (ns ls : List Pr) (d : Nat) : Int := (ndI ns (dFrom ls d)).1 * (ndI ns (dTo ls d)).2 - (ndI ns (dFrom ls d)).2 * (ndI ns (dTo ls d)).1
/-- Over the first k darts of a list. -/
def areaK (ns ls : List Pr) (f : List Nat) : Nat → Int
  | 0 => 0
  | k + 1 => areaK ns ls f k + crossD ns ls (f.getD k 0)
def areaF (ns ls : List Pr) (f : List Nat) : Int := areaK ns ls f f.length

theorem cross_bd {ns ls : List Pr} (h : WinOk ns ls) {d : Nat} (hd : d < 2 * ls.length) : -400 ≤ crossD ns ls d ∧ crossD ns ls d ≤ 400 := by
  have hld : ∀ j : Nat, j < ls.length → leadB ns (ndI ls j) = true := fun j hj => (h.2.2.2.2.2 j hj).1
  obtain ⟨t, ht, htn⟩ := dTo_nat hld hd
  obtain ⟨u, hu, hun⟩ := dFrom_nat hld hd
  unfold crossD
  rw [ht, hu]
  obtain ⟨a0, a1, a2, a3⟩ := nodeB_bd (nodesB_at h.2.2.2.1 t htn)
  obtain ⟨b0, b1, b2, b3⟩ := nodeB_bd (nodesB_at h.2.2.2.1 u hun)
  generalize (ndI ns (t : Int)).1 = x at *
  generalize (ndI ns (t : Int)).2 = y at *
  generalize (ndI ns (u : Int)).1 = p at *
  generalize (ndI ns (u : Int)).2 = q at *
  have m1 : p * y ≤ 20 * 20 := Int.mul_le_mul b1 a3 a2 (by omega)
  have m2 : q * x ≤ 20 * 20 := Int.mul_le_mul b3 a1 a0 (by omega)
  have m3 : 0 ≤ p * y := Int.mul_nonneg b0 a2
  have m4 : 0 ≤ q * x := Int.mul_nonneg b2 a0
  omega

theorem areaK_bd {ns ls : List Pr} (h : WinOk ns ls) {f : List Nat} (hf : ∀ e ∈ f, e < 2 * ls.length) : ∀ k, k ≤ f.length → -(400 * k : Int) ≤ areaK ns ls f k ∧ areaK ns ls f k ≤ 400 * k
  | 0, _ => by simp [areaK]
  | k + 1, hk => by
    have ih := areaK_bd h hf k (by omega)
    have hm : f.getD k 0 ∈ f := by rw [List.getD, List.getElem?_eq_getElem (by omega)]; exact List.getElem_mem _
    have hc := cross_bd h (hf _ hm)
    have e : areaK ns ls f (k + 1) = areaK ns ls f k + crossD ns ls (f.getD k 0) := rfl
    omega

/-- The first face from the k-th on whose area is not above 0, or -1. -/
def outerK (ns ls : List Pr) (F : List (List Nat)) : Nat → Nat → Int
  | 0, _ => -1
  | m + 1, k => if areaF ns ls (F.getD k []) ≤ 0 then (k : Int) else outerK ns ls F m (k + 1)
def outerF (ns ls : List Pr) (F : List (List Nat)) : Int := outerK ns ls F F.length 0

end Go.Proofs.YtognjdappchpkaaGreat

namespace Go.Proofs.YtognjdappchpkaaGreat

theorem orb_add (ns ls : List Pr) (d i : Nat) : ∀ j, orbD ns ls d (i + j) = orbD ns ls (orbD ns ls d i) j
  | 0 => rfl
  | j + 1 => by show nextD ns ls (orbD ns ls d (i + j)) = _; rw [orb_add ns ls d i j]; rfl

theorem orb_mul {ns ls : List Pr} {d p : Nat} (h : orbD ns ls d p = d) : ∀ q, orbD ns ls d (p * q) = d
  | 0 => rfl
  | q + 1 => by rw [Nat.mul_succ, orb_add, orb_mul h q, h]

section
variable {ns ls : List Pr} (hld : ∀ j : Nat, j < ls.length → leadB ns (ndI ls j) = true)
include hld

theorem walk_mem {d : Nat} (hd : d < 2 * ls.length) (e : Nat) : e ∈ walkD ns ls d ↔ ∃ i, orbD ns ls d i = e := by
  obtain ⟨h1, _, h3, _⟩ := per_spec hld hd
  unfold walkD walkK
  rw [List.mem_map]
  constructor
  · rintro ⟨i, _, h⟩; exact ⟨i, h⟩
  · rintro ⟨i, rfl⟩
    refine ⟨i % perD ns ls d, List.mem_range.2 (Nat.mod_lt _ h1), ?_⟩
    have e : orbD ns ls d (perD ns ls d * (i / perD ns ls d) + i % perD ns ls d) = orbD ns ls d (i % perD ns ls d) := by rw [orb_add, orb_mul h3]
    rw [← e, Nat.div_add_mod]

theorem walk_self {d : Nat} (hd : d < 2 * ls.length) : d ∈ walkD ns ls d := (walk_mem hld hd d).2 ⟨0, rfl⟩

theorem walk_nodup {d : Nat} (hd : d < 2 * ls.length) : (walkD ns ls d).Nodup := by
  obtain ⟨_, _, _, h4⟩ := per_spec hld hd
  unfold walkD walkK
  rw [List.nodup_iff_pairwise_ne, List.pairwise_map]
  refine List.Pairwise.imp_of_mem (R := fun a b => a < b) (fun {a b} ha hb hlt he => ?_) (List.pairwise_lt_range)
  have hb' := List.mem_range.1 hb
  have := orb_back hld hd a (b - a) (by rw [he, show a + (b - a) = b by omega])
  exact h4 (b - a) (by omega) (by omega) this

theorem walk_back {d e : Nat} (hd : d < 2 * ls.length) (h : e ∈ walkD ns ls d) : d ∈ walkD ns ls e := by
  have he := walk_bd hld hd e h
  obtain ⟨_, _, h3, _⟩ := per_spec hld hd
  unfold walkD walkK at h
  rw [List.mem_map] at h
  obtain ⟨i, hi, rfl⟩ := h
  have hi' := List.mem_range.1 hi
  refine (walk_mem hld he d).2 ⟨perD ns ls d - i, ?_⟩
  rw [← orb_add, show i + (perD ns ls d - i) = perD ns ls d by omega, h3]

theorem walk_trans {d e x : Nat} (hd : d < 2 * ls.length) (h : e ∈ walkD ns ls d) (h2 : x ∈ walkD ns ls e) : x ∈ walkD ns ls d := by
  obtain ⟨i, hi⟩ := (walk_mem hld hd e).1 h
  obtain ⟨j, hj⟩ := (walk_mem hld (walk_bd hld hd e h) x).1 h2
  exact (walk_mem hld hd x).2 ⟨i + j, by rw [orb_add, hi, hj]⟩

/-- The faces so far: all darts so far are in them, none twice, and each is a walk. -/
theorem facesK_all : ∀ m, m ≤ 2 * ls.length → (∀ d, d < m → d ∈ (facesK ns ls m).flatten) ∧ (facesK ns ls m).flatten.Nodup ∧ (∀ f ∈ facesK ns ls m, ∃ d, d < 2 * ls.length ∧ f = walkD ns ls d)
  | 0, _ => ⟨fun d h => absurd h (by omega), by simp [facesK], by simp [facesK]⟩
  | m + 1, hm => by
    obtain ⟨h1, h2, h3⟩ := facesK_all m (by omega)
    cases h : seenB (facesK ns ls m) m
    · rw [facesK_no h]
      have hnm : m ∉ (facesK ns ls m).flatten := by
        intro hc
        rw [List.mem_flatten] at hc
        obtain ⟨f, hf, hmf⟩ := hc
        have : seenB (facesK ns ls m) m = true := by
          unfold seenB
          rw [List.any_eq_true]
          exact ⟨f, hf, by simpa using hmf⟩
        rw [h] at this; cases this
      refine ⟨fun d hd => ?_, ?_, fun f hf => ?_⟩
      · rw [List.flatten_append, List.mem_append]
        by_cases he : d = m
        · subst he; right; simpa using walk_self hld (show d < 2 * ls.length by omega)
        · exact .inl (h1 d (by omega))
      · rw [List.flatten_append, List.nodup_append]
        refine ⟨h2, by simpa using walk_nodup hld (show m < 2 * ls.length by omega), fun x hx y hy => ?_⟩
        rintro rfl
        have hy' : x ∈ walkD ns ls m := by simpa using hy
        rw [List.mem_flatten] at hx
        obtain ⟨f, hf, hxf⟩ := hx
        obtain ⟨d, hd, rfl⟩ := h3 f hf
        apply hnm
        rw [List.mem_flatten]
        exact ⟨_, hf, walk_trans hld hd hxf (walk_back hld (by omega) hy')⟩
      · rw [List.mem_append, List.mem_singleton] at hf
        rcases hf with hf | rfl
        · exact h3 f hf
        · exact ⟨m, by omega, rfl⟩
    · rw [facesK_yes h]
      refine ⟨fun d hd => ?_, h2, h3⟩
      by_cases he : d = m
      · subst he
        unfold seenB at h
        rw [List.any_eq_true] at h
        obtain ⟨f, hf, hm'⟩ := h
        rw [List.mem_flatten]
        exact ⟨f, hf, by simpa using hm'⟩
      · exact h1 d (by omega)

theorem faces_perm : (facesD ns ls).flatten.Perm (List.range (2 * ls.length)) := by
  obtain ⟨h1, h2, h3⟩ := facesK_all hld (2 * ls.length) (Nat.le_refl _)
  refine (List.perm_ext_iff_of_nodup h2 List.nodup_range).2 (fun d => ?_)
  rw [List.mem_range]
  constructor
  · intro h
    rw [List.mem_flatten] at h
    obtain ⟨f, hf, hd⟩ := h
    obtain ⟨e, he, rfl⟩ := h3 f hf
    exact walk_bd hld he d hd
  · exact h1 d
end

def sumC (ns ls : List Pr) (f : List Nat) : Int := (f.map (crossD ns ls)).sum

theorem sumC_append (ns ls : List Pr) (a b : List Nat) : sumC ns ls (a ++ b) = sumC ns ls a + sumC ns ls b := by simp [sumC]

theorem areaK_sum (ns ls : List Pr) (f : List Nat) : ∀ k, k ≤ f.length → areaK ns ls f k = sumC ns ls (f.take k)
  | 0, _ => rfl
  | k + 1, h => by
    unfold areaK
    have hk : k < f.length := by omega
    rw [areaK_sum ns ls f k (by omega), List.take_succ_eq_append_getElem hk, sumC_append, show f.getD k 0 = f[k] by simp [List.getD, hk]]
    simp [sumC]

theorem areaF_sum (ns ls : List Pr) (f : List Nat) : areaF ns ls f = sumC ns ls f := by
  unfold areaF
  rw [areaK_sum ns ls f f.length (Nat.le_refl _), List.take_length]

theorem sumC_perm (ns ls : List Pr) {a b : List Nat} (h : a.Perm b) : sumC ns ls a = sumC ns ls b := by
  induction h with
  | nil => rfl
  | cons x _ ih => simp only [sumC, List.map_cons, List.sum_cons] at ih ⊢; omega
  | swap x y l => simp only [sumC, List.map_cons, List.sum_cons]; omega
  | trans _ _ h1 h2 => omega

theorem cross_pair (ns ls : List Pr) (j : Nat) : crossD ns ls (2 * j) + crossD ns ls (2 * j + 1) = 0 := by
  have e1 : dFrom ls (2 * j + 1) = dTo ls (2 * j) := by unfold dFrom dTo; rw [if_pos (by omega), if_neg (by omega), show (2 * j + 1) / 2 = j by omega, show 2 * j / 2 = j by omega]
  have e2 : dTo ls (2 * j + 1) = dFrom ls (2 * j) := by unfold dFrom dTo; rw [if_pos (by omega), if_neg (by omega), show (2 * j + 1) / 2 = j by omega, show 2 * j / 2 = j by omega]
  unfold crossD
  rw [e1, e2]
  rw [Int.mul_comm (ndI ns (dTo ls (2 * j))).1, Int.mul_comm (ndI ns (dTo ls (2 * j))).2]
  omega

theorem sum_range (ns ls : List Pr) : ∀ m, sumC ns ls (List.range (2 * m)) = 0
  | 0 => rfl
  | m + 1 => by
    rw [show 2 * (m + 1) = 2 * m + 1 + 1 by omega, List.range_succ, List.range_succ, sumC_append, sumC_append, sum_range ns ls m]
    have := cross_pair ns ls m
    simp [sumC]
    omega

theorem sum_faces (ns ls : List Pr) : ∀ F : List (List Nat), sumC ns ls F.flatten = (F.map (areaF ns ls)).sum
  | [] => rfl
  | f :: F => by rw [List.flatten_cons, sumC_append, sum_faces ns ls F, List.map_cons, List.sum_cons, areaF_sum]

theorem sum_pos : ∀ l : List Int, l ≠ [] → (∀ x ∈ l, 0 < x) → 0 < l.sum
  | [], h, _ => absurd rfl h
  | [x], _, h => by have := h x (by simp); simpa using this
  | x :: y :: l, _, h => by
    have h1 := sum_pos (y :: l) (by simp) (fun z hz => h z (by simp at hz ⊢; right; exact hz))
    have h2 := h x (by simp)
    rw [List.sum_cons]; omega

/-- Some face's area is not above 0. -/
theorem outer_is {ns ls : List Pr} (hld : ∀ j : Nat, j < ls.length → leadB ns (ndI ls j) = true) (hl : 0 < ls.length) : ∃ k, k < (facesD ns ls).length ∧ areaF ns ls ((facesD ns ls).getD k []) ≤ 0 := by
  apply Classical.byContradiction
  intro hc
  have hs := sum_faces ns ls (facesD ns ls)
  rw [sumC_perm ns ls (faces_perm hld), sum_range] at hs
  have hne : (facesD ns ls).map (areaF ns ls) ≠ [] := by
    intro he
    have h0 := (facesK_all hld (2 * ls.length) (Nat.le_refl _)).1 0 (by omega)
    have : facesD ns ls = [] := by simpa using he
    unfold facesD at this
    rw [this] at h0
    simp at h0
  have hp := sum_pos _ hne (fun x hx => by
    rw [List.mem_map] at hx
    obtain ⟨f, hf, rfl⟩ := hx
    obtain ⟨k, hk, rfl⟩ := List.getElem_of_mem hf
    apply Classical.byContradiction
    intro hle
    refine hc ⟨k, hk, ?_⟩
    rw [List.getD, List.getElem?_eq_getElem hk]
    simp only [Option.getD_some]
    omega)
  omega

theorem outerK_spec (ns ls : List Pr) (F : List (List Nat)) : ∀ (m k : Nat), (∃ q, k ≤ q ∧ q < k + m ∧ areaF ns ls (F.getD q []) ≤ 0) → ∃ q : Nat, outerK ns ls F m k = q ∧ k ≤ q ∧ q < k + m ∧ areaF ns ls (F.getD q []) ≤ 0
  | 0, k, ⟨q, h1, h2, _⟩ => absurd h2 (by omega)
  | m + 1, k, ⟨q, h1, h2, h3⟩ => by
    unfold outerK
    split
    · rename_i h; exact ⟨k, rfl, Nat.le_refl _, by omega, h⟩
    · rename_i h
      have hq : q ≠ k := fun e => h (e ▸ h3)
      obtain ⟨r, g1, g2, g3, g4⟩ := outerK_spec ns ls F m (k + 1) ⟨q, by omega, by omega, h3⟩
      exact ⟨r, g1, by omega, by omega, g4⟩

end Go.Proofs.YtognjdappchpkaaGreat

namespace Go.Proofs.YtognjdappchpkaaGreat
open Go.RowKit

/-- The place of a number, or -1. -/
def idxN (l : List Nat) (d : Nat) : Int := if d ∈ l then (l.idxOf d : Int) else -1

theorem idxN_no {l : List Nat} {d : Nat} (h : d ∉ l) : idxN l d = -1 := by simp [idxN, h]

theorem idxN_at {l : List Nat} {d k : Nat} (hk : k < l.length) (h : d ∉ l.take k) (hp : l.getD k 0 = d) : idxN l d = k := by
  have hp' : l[k] = d := by simpa [List.getD, hk] using hp
  have e : l = l.take k ++ d :: l.drop (k + 1) := by
    rw [← hp', ← List.drop_eq_getElem_cons hk, List.take_append_drop]
  have hm : d ∈ l := by rw [e]; simp
  unfold idxN
  rw [if_pos hm]
  have : l.idxOf d = k := by
    rw [e, List.idxOf_append, if_neg h, List.idxOf_cons_self]
    simp; omega
  rw [this]

theorem natI_get (l : List Nat) (k : Nat) : (natI l).getD k 0 = ((l.getD k 0 : Nat) : Int) := by
  unfold natI
  simp only [List.getD, List.getElem?_map]
  cases l[k]? <;> rfl

theorem not_take_succ {l : List Nat} {d k : Nat} (hk : k < l.length) (h : d ∉ l.take k) (hne : l.getD k 0 ≠ d) : d ∉ l.take (k + 1) := by
  rw [List.take_succ_eq_append_getElem hk, List.mem_append, List.mem_singleton]
  rintro (h2 | h2)
  · exact h h2
  · apply hne
    rw [h2]
    simp [List.getD, hk]

set_option maxHeartbeats 2000000 in
set_option maxRecDepth 100000 in
theorem indexInt_any (v : Value) (l : List Nat) (d : Nat) (w : World) (h : RI w v (natI l)) :
    Calls Tryz.prog 116 #[v, .int .i64 d] w fun e w' => e = .returned (.int .i64 (idxN l d)) ∧ w = w' := by
  obtain ⟨A, c, rfl, hc, hm, hcell⟩ := h.form
  rw [natI_length] at hc hm hcell ⊢
  unfold maxLen at hm
  clear h
  go_enter Tryz.func116, Tryz.ntmps116
  go_wp2
  go_loop [8] (fun i => ∃ k : Nat, k ≤ l.length ∧ i = .int .i64 k ∧ Hid (d ∉ l.take k)) (fun i => l.length - (intOf i).toNat)
  case atStart => exact ⟨0, Nat.zero_le _, rfl, Lib.hid (by simp)⟩
  case round =>
    obtain ⟨k, hk, rfl, HT⟩ := hrel
    by_cases hlt : k < l.length
    · obtain ⟨b, off, rfl, hb, hcl⟩ := hcell (by omega)
      have hck := hcl k hlt
      rw [natI_get] at hck
      clear hcl hcell
      have HS := Lib.hid (fun hne => not_take_succ hlt HT.out hne)
      have HY := Lib.hid (fun he => idxN_at hlt HT.out he)
      generalize l.getD k 0 = x at *
      by_cases he : x = d
      · have e1 : ((d : Int) == (x : Int)) = true := by simp [he]
        have e2 : ((x : Int) == (d : Int)) = true := by simp [he]
        have HX := Lib.hid (HY.out he)
        clear he
        go_wp2
        go_ret
        exact ⟨ret_int HX.out.symm, rfl⟩
      · have e1 : ((d : Int) == (x : Int)) = false := by simp; omega
        have e2 : ((x : Int) == (d : Int)) = false := by simp; omega
        have HX := Lib.hid (HS.out he)
        clear he
        go_wp2
        go_round
        case rel => exact ⟨k + 1, by omega, by go_num, HX⟩
        case measure => simp [intOf]; omega
    · have hkk : l.length ≤ k := by omega
      have h := HT.out
      rw [List.take_of_length_le hkk] at h
      have HX : Hid (idxN l d = -1) := Lib.hid (idxN_no h)
      clear h hcell
      go_wp2
      go_ret
      exact ⟨ret_int HX.out.symm, rfl⟩

theorem idxN_in {l : List Nat} {d : Nat} (h : d ∈ l) : idxN l d = (l.idxOf d : Int) := by simp [idxN, h]

/-- What is needed of the list around a dart's node. -/
theorem ring_facts {ns ls : List Pr} (hwin : WinOk ns ls) {d : Nat} (hd : d < 2 * ls.length) : ∃ (t : Nat) (G : List Nat) (i q : Nat), dFrom ls d = (t : Int) ∧ t < ns.length ∧ ardS ns ls t (2 * ls.length) = G ∧ idxN G d = (i : Int) ∧ i < G.length ∧ G.length ≤ 12 ∧ G.getD i 0 = d ∧ d ∉ G.take i ∧
    (i + G.length - 1) % G.length = q ∧ q < G.length ∧ G.getD q 0 = lastD ns ls d := by
  have hld : ∀ j : Nat, j < ls.length → leadB ns (ndI ls j) = true := fun j hj => (hwin.2.2.2.2.2 j hj).1
  obtain ⟨t, ht, htn⟩ := dFrom_nat hld hd
  have hr : ringD ns ls d = ardS ns ls t (2 * ls.length) := by unfold ringD; rw [ht, Int.toNat_natCast]
  have hm := ring_self hld hd
  have hil := List.idxOf_lt_length_of_mem hm
  have hpos := List.length_pos_of_mem hm
  have h12 := frD_le hwin t
  have hAS := iso_ard ns ls t (2 * ls.length)
  have hlen : (ringD ns ls d).length = (frD ls t (2 * ls.length)).length := by rw [hr, ← hAS, isoK_len _ _ _ (Nat.le_refl _)]
  refine ⟨t, ringD ns ls d, (ringD ns ls d).idxOf d, _, ht, htn, hr.symm, idxN_in hm, hil, by omega, ?_, ?_, rfl, Nat.mod_lt _ hpos, rfl⟩
  · rw [List.getD, List.getElem?_eq_getElem hil, List.getElem_idxOf hil]; rfl
  · intro hc
    have hn : (ringD ns ls d).Nodup := ardS_nodup _ _ _ _
    obtain ⟨j, hj, e⟩ := List.getElem_of_mem hc
    rw [List.length_take] at hj
    rw [List.getElem_take] at e
    have e2 := List.getElem_idxOf hil
    have := (List.getElem_inj hn (h₀ := by omega) (h₁ := hil)).1 (e.trans e2.symm)
    omega

set_option maxHeartbeats 4000000 in
set_option maxRecDepth 100000 in
theorem iBeside_any (vn vl : Value) (ns ls : List Pr) (d : Nat) (w : World) (hn : RP w vn ns) (hl : RP w vl ls) (hd : d < 2 * ls.length) (hwin : WinOk ns ls) :
    Calls Tryz.prog 97 #[.agg #[vn, vl], .int .i64 d, .int .i64 (-1)] w fun e w' => e = .returned (.int .i64 (lastD ns ls d)) ∧ Below w.heap.size w w' := by
  obtain ⟨t, G, i, q, ht, htn, hG, hidx, hil, h12, _, _, hq, hql, hlast⟩ := ring_facts hwin hd
  have HW := Lib.hid hwin
  have B0 : Blk (w.alloc (.cells #[vn, vl] 34)) w.heap.size 34 #[vn, vl] := Blk.newAt rfl
  have hb0 : Below w.heap.size w (w.alloc (.cells #[vn, vl] 34)) := by (repeat' (first | (with_reducible exact Below.refl _ _) | (with_reducible assumption) | (with_reducible refine Below.drew ?_) | (with_reducible refine below_drewN ?_ _) | (with_reducible refine Below.alloc ?_ ?_ _) | (with_reducible refine Below.setCell ?_ ?_ _) | (with_reducible refine Below.step (by assumption) ?_ ?_))); all_goals (first | omega | (simp; done) | (simp; omega))
  have HBF := Lib.hid (fun (v : World) (hv : Below w.heap.size w v) => iFrom_any vn vl ls d v (hl.below hv) hd)
  have HAR := Lib.hid (fun (v : World) (hv : Below w.heap.size w v) => iAround_any vn vl ns ls t v (hn.below hv) (hl.below hv) htn HW.out)
  rw [ht] at HBF
  rw [hG] at HAR
  rw [← hlast]
  obtain ⟨x, hx⟩ : ∃ x, G.getD q 0 = x := ⟨_, rfl⟩
  rw [hx]
  have HX := Lib.hid hx
  clear hx
  have HID := Lib.hid hidx
  clear hidx hlast hG hwin ht
  have HQ := Lib.hid hq
  clear hq
  go_enter Tryz.func97, Tryz.ntmps97
  go_wp2_with fail
  go_region_held3 (fun w' => w'.cell? ⟨w.heap.size, 0, none⟩ = some vn ∧ w'.cell? ⟨w.heap.size, 1, none⟩ = some vl)
    (go_keep)
    (first | (go_at_call 98; refine (HBF.out _ (by (repeat' (first | (with_reducible exact Below.refl _ _) | (with_reducible assumption) | (with_reducible refine Below.drew ?_) | (with_reducible refine below_drewN ?_ _) | (with_reducible refine Below.alloc ?_ ?_ _) | (with_reducible refine Below.setCell ?_ ?_ _) | (with_reducible refine Below.step (by assumption) ?_ ?_))); all_goals (first | omega | (simp; done) | (simp; omega)))).mono ?_; rintro e w1 ⟨rfl, hb1⟩; (first | (with_reducible have hcf1 := bcell_drew hb1) | have hcf1 := bcell hb1); obtain ⟨hc1, hf1⟩ := hcf1; have hz1 := hb1.size; (try simp at hz1); (try have hp1_0 : w.heap.size < w1.heap.size := by omega); (try have hp1_1 : w.heap.size + 1 < w1.heap.size := by omega); (try have hp1_2 : w.heap.size + 1 + 1 < w1.heap.size := by omega); (try have hp1_3 : w.heap.size + 1 + 1 + 1 < w1.heap.size := by omega); have hbw1 : Below w.heap.size w w1 := (by (repeat' (first | (with_reducible exact Below.refl _ _) | (with_reducible assumption) | (with_reducible refine Below.drew ?_) | (with_reducible refine below_drewN ?_ _) | (with_reducible refine Below.alloc ?_ ?_ _) | (with_reducible refine Below.setCell ?_ ?_ _) | (with_reducible refine Below.step (by assumption) ?_ ?_))); all_goals (first | omega | (simp; done) | (simp; omega)))) | (go_at_call 115; refine (HAR.out _ (by (repeat' (first | (with_reducible exact Below.refl _ _) | (with_reducible assumption) | (with_reducible refine Below.drew ?_) | (with_reducible refine below_drewN ?_ _) | (with_reducible refine Below.alloc ?_ ?_ _) | (with_reducible refine Below.setCell ?_ ?_ _) | (with_reducible refine Below.step (by assumption) ?_ ?_))); all_goals (first | omega | (simp; done) | (simp; omega)))).mono ?_; rintro e w2 ⟨v2, rfl, ho2, hb2⟩; (first | (with_reducible have hcf2 := bcell_drew hb2) | have hcf2 := bcell hb2); obtain ⟨hc2, hf2⟩ := hcf2; have hz2 := hb2.size; (try simp at hz2); (try have hp2_0 : w.heap.size < w2.heap.size := by omega); (try have hp2_1 : w.heap.size + 1 < w2.heap.size := by omega); (try have hp2_2 : w.heap.size + 1 + 1 < w2.heap.size := by omega); (try have hp2_3 : w.heap.size + 1 + 1 + 1 < w2.heap.size := by omega)))
  have hbw2 : Below w.heap.size w w2 := by (repeat' (first | (with_reducible exact Below.refl _ _) | (with_reducible assumption) | (with_reducible refine Below.drew ?_) | (with_reducible refine below_drewN ?_ _) | (with_reducible refine Below.alloc ?_ ?_ _) | (with_reducible refine Below.setCell ?_ ?_ _) | (with_reducible refine Below.step (by assumption) ?_ ?_))); all_goals (first | omega | (simp; done) | (simp; omega))
  have hri := ho2.reads
  obtain ⟨A, c, rfl, hc, hm, hcell⟩ := hri.form
  rw [natI_length] at hc hm hcell hri ⊢
  obtain ⟨b, off, rfl, hbb, hcl⟩ := hcell (by omega)
  have hck := hcl q hql
  rw [natI_get] at hck
  clear hcl hcell hc1 hf1 hc2 hf2
  rw [HX.out] at hck
  have e1 : (i : Int) + -1 + (G.length : Int) = ((i + G.length - 1 : Nat) : Int) := by omega
  have e2 : ((i + G.length - 1 : Nat) : Int).tmod (G.length : Int) = (q : Int) := by
    rw [Int.tmod_eq_emod_of_nonneg (Int.natCast_nonneg _), ← Int.natCast_emod, HQ.out]
  have e3 : ((G.length : Int) == 0) = false := beq_eq_false_iff_ne.2 (by omega)
  have n0 : (G.length : Int) ≠ 0 := by omega
  have i1 : (0 : Int) ≤ (q : Int) := by omega
  have i2 : (q : Int) < (G.length : Int) := by omega
  go_wp2_with fail
  refine (indexInt_any _ G d _ hri).mono ?_
  rintro e w3 ⟨rfl, rfl⟩
  rw [HID.out]
  go_wp2
  go_ret
  exact ⟨rfl, by (repeat' (first | (with_reducible exact Below.refl _ _) | (with_reducible assumption) | (with_reducible refine Below.drew ?_) | (with_reducible refine below_drewN ?_ _) | (with_reducible refine Below.alloc ?_ ?_ _) | (with_reducible refine Below.setCell ?_ ?_ _) | (with_reducible refine Below.step (by assumption) ?_ ?_))); all_goals (first | omega | (simp; done) | (simp; omega))⟩

set_option maxHeartbeats 4000000 in
set_option maxRecDepth 100000 in
theorem sStepD_any (vn vl : Value) (ns ls : List Pr) (d : Nat) (w : World) (hn : RP w vn ns) (hl : RP w vl ls) (hd : d < 2 * ls.length) (hwin : WinOk ns ls) :
    Calls Tryz.prog 113 #[.agg #[vn, vl], .int .i64 d, .int .i64 (-1)] w fun e w' => e = .returned (.int .i64 (lastD ns ls d)) ∧ Below w.heap.size w w' := by
  obtain ⟨t, G, i, q, ht, htn, hG, hidx, hil, h12, hgi, hni, hq, hql, hlast⟩ := ring_facts hwin hd
  have hld : ∀ j : Nat, j < ls.length → leadB ns (ndI ls j) = true := fun j hj => (hwin.2.2.2.2.2 j hj).1
  have HLD := Lib.hid hld
  have HNI := Lib.hid hni
  have HGI := Lib.hid hgi
  have HM := Lib.hid (And.intro hwin.2.2.1 hwin.2.1)
  rw [← hlast]
  obtain ⟨x, hx⟩ : ∃ x, G.getD q 0 = x := ⟨_, rfl⟩
  rw [hx]
  have HX := Lib.hid hx
  clear hx
  have HG := Lib.hid hG
  have HT := Lib.hid ht
  clear hidx hlast hG hwin ht hni hgi hld
  have HQ := Lib.hid hq
  clear hq
  go_enter Tryz.func113, Tryz.ntmps113
  go_wp2_with fail
  refine (sEnds_any _ _ ls d _ (hl.below (by (repeat' (first | (with_reducible exact Below.refl _ _) | (with_reducible assumption) | (with_reducible refine Below.drew ?_) | (with_reducible refine below_drewN ?_ _) | (with_reducible refine Below.alloc ?_ ?_ _) | (with_reducible refine Below.setCell ?_ ?_ _) | (with_reducible refine Below.step (by assumption) ?_ ?_))); all_goals (first | omega | (simp; done) | (simp; omega)))) hd).mono ?_
  rintro e w1 ⟨rfl, hb1⟩; (first | (with_reducible have hcf1 := bcell_drew hb1) | have hcf1 := bcell hb1); obtain ⟨hc1, hf1⟩ := hcf1; have hz1 := hb1.size; (try simp at hz1); (try have hp1_0 : w.heap.size < w1.heap.size := by omega); (try have hp1_1 : w.heap.size + 1 < w1.heap.size := by omega); (try have hp1_2 : w.heap.size + 1 + 1 < w1.heap.size := by omega); (try have hp1_3 : w.heap.size + 1 + 1 + 1 < w1.heap.size := by omega)
  have hbw1 : Below w.heap.size w w1 := by (repeat' (first | (with_reducible exact Below.refl _ _) | (with_reducible assumption) | (with_reducible refine Below.drew ?_) | (with_reducible refine below_drewN ?_ _) | (with_reducible refine Below.alloc ?_ ?_ _) | (with_reducible refine Below.setCell ?_ ?_ _) | (with_reducible refine Below.step (by assumption) ?_ ?_))); all_goals (first | omega | (simp; done) | (simp; omega))
  rw [HT.out]
  go_wp2_with fail
  refine (sAround_any _ _ ns ls t _ (hn.below hbw1) (hl.below hbw1) htn HM.out.1 HM.out.2 HLD.out).mono ?_
  rw [HG.out]
  rintro e w2 ⟨v2, rfl, ho2, hb2⟩
  have hbw2 := hbw1.trans (hb2.mono hbw1.size)
  have hri := ho2.reads
  obtain ⟨A, c, rfl, hc, hm, hcell⟩ := hri.form
  rw [natI_length] at hc hm hcell hri ⊢
  obtain ⟨b, off, rfl, hbb, hcl⟩ := hcell (by omega)
  have hck := hcl q hql
  rw [natI_get] at hck
  have HCL := Lib.hid hcl
  clear hcl hcell hc1 hf1 hb1 hb2 ho2
  rw [HX.out] at hck
  have e1 : (i : Int) + -1 + (G.length : Int) = ((i + G.length - 1 : Nat) : Int) := by omega
  have e2 : ((i + G.length - 1 : Nat) : Int).tmod (G.length : Int) = (q : Int) := by
    rw [Int.tmod_eq_emod_of_nonneg (Int.natCast_nonneg _), ← Int.natCast_emod, HQ.out]
  have e3 : ((G.length : Int) == 0) = false := beq_eq_false_iff_ne.2 (by omega)
  have n0 : (G.length : Int) ≠ 0 := by omega
  have i1 : (0 : Int) ≤ (q : Int) := by omega
  have i2 : (q : Int) < (G.length : Int) := by omega
  go_wp2
  go_loop [10] (fun y => ∃ k : Nat, k ≤ i ∧ y = .int .i64 k) (fun y => i + 1 - (intOf y).toNat)
  case atStart => exact ⟨0, Nat.zero_le _, rfl⟩
  case round =>
    obtain ⟨k, hk, rfl⟩ := hrel
    have hkl : k < G.length := by omega
    have hkc := HCL.out k hkl
    rw [natI_get] at hkc
    by_cases hki : k = i
    · subst hki
      rw [HGI.out] at hkc
      have e4 : ((d : Int) == (d : Int)) = true := by simp
      go_wp2
      go_ret
      exact ⟨rfl, hbw2⟩
    · have hne : G.getD k 0 ≠ d := by
        intro h
        apply HNI.out
        rw [← h, List.getD, List.getElem?_eq_getElem hkl]
        simp only [Option.getD_some]
        rw [List.mem_take_iff_getElem]
        exact ⟨k, by omega, rfl⟩
      generalize G.getD k 0 = y at *
      have e4 : ((y : Int) == (d : Int)) = false := by simp; omega
      clear hne
      go_wp2
      go_round
      case rel => exact ⟨k + 1, by omega, by go_num⟩
      case measure => simp [intOf]; omega

theorem twin_xor_int (d : Nat) (h : d < 1000000) : bits .xor .i64 (d : Int) 1 = ((twin d : Nat) : Int) := by
  have x := bits_xor_nat (a := d) (b := 1) (by omega) (by omega)
  rw [twin_xor] at x
  exact x

set_option maxHeartbeats 1000000 in
set_option maxRecDepth 100000 in
theorem sNext_any (vn vl : Value) (ns ls : List Pr) (d : Nat) (w : World) (hn : RP w vn ns) (hl : RP w vl ls) (hd : d < 2 * ls.length) (hwin : WinOk ns ls) :
    Calls Tryz.prog 94 #[.agg #[vn, vl], .int .i64 d] w fun e w' => e = .returned (.int .i64 (nextD ns ls d)) ∧ Below w.heap.size w w' := by
  have hm20 := hwin.2.2.1
  have x1 := twin_xor_int d (by omega)
  have hb0 : Below w.heap.size w (w.alloc (.cells #[vn, vl] 34)) := by (repeat' (first | (with_reducible exact Below.refl _ _) | (with_reducible assumption) | (with_reducible refine Below.drew ?_) | (with_reducible refine below_drewN ?_ _) | (with_reducible refine Below.alloc ?_ ?_ _) | (with_reducible refine Below.setCell ?_ ?_ _) | (with_reducible refine Below.step (by assumption) ?_ ?_))); all_goals (first | omega | (simp; done) | (simp; omega))
  have HC := Lib.hid (fun (v : World) (hv : Below w.heap.size w v) => sStepD_any vn vl ns ls (twin d) v (hn.below hv) (hl.below hv) (twin_lt hd) hwin)
  have HR : Hid (nextD ns ls d = lastD ns ls (twin d)) := Lib.hid rfl
  generalize twin d = e at *
  clear hwin
  go_enter Tryz.func94, Tryz.ntmps94
  go_wp2_with fail
  refine (HC.out _ hb0).mono ?_
  rintro e w1 ⟨rfl, hb1⟩; (first | (with_reducible have hcf1 := bcell_drew hb1) | have hcf1 := bcell hb1); obtain ⟨hc1, hf1⟩ := hcf1; have hz1 := hb1.size; (try simp at hz1); (try have hp1_0 : w.heap.size < w1.heap.size := by omega); (try have hp1_1 : w.heap.size + 1 < w1.heap.size := by omega); (try have hp1_2 : w.heap.size + 1 + 1 < w1.heap.size := by omega); (try have hp1_3 : w.heap.size + 1 + 1 + 1 < w1.heap.size := by omega)
  go_wp2
  go_ret
  exact ⟨ret_int (by rw [HR.out]), by (repeat' (first | (with_reducible exact Below.refl _ _) | (with_reducible assumption) | (with_reducible refine Below.drew ?_) | (with_reducible refine below_drewN ?_ _) | (with_reducible refine Below.alloc ?_ ?_ _) | (with_reducible refine Below.setCell ?_ ?_ _) | (with_reducible refine Below.step (by assumption) ?_ ?_))); all_goals (first | omega | (simp; done) | (simp; omega))⟩

end Go.Proofs.YtognjdappchpkaaGreat

namespace Go.Proofs.YtognjdappchpkaaGreat
open Go.RowKit

/-- The length of a slice. -/
def lenV : Value → Nat
  | .slice _ n _ => n
  | _ => 0

theorem OwnI.lenV {base : Nat} {w : World} {v : Value} {zs : List Int} (h : OwnI base w v zs) : lenV v = zs.length := by
  obtain ⟨A, c, rfl⟩ := h.form
  rfl

theorem OwnI.lit1 {base g : Nat} {w : World} {x : Int} (hg : g = w.heap.size) (hb : base ≤ w.heap.size) : OwnI base (w.alloc (.cells #[.int .i64 x] 3)) (.slice (some ⟨g, 0, none⟩) 1 1) [x] := by
  subst hg
  exact World.ownsRow_lit w #[.int .i64 x] 1 hb (by simp [maxLen]) rfl

set_option maxHeartbeats 4000000 in
set_option maxRecDepth 100000 in
theorem iWalk_any (vn vl : Value) (ns ls : List Pr) (d : Nat) (w : World) (hn : RP w vn ns) (hl : RP w vl ls) (hd : d < 2 * ls.length) (hwin : WinOk ns ls) :
    Calls Tryz.prog 70 #[.agg #[vn, vl], .int .i64 d] w (RetI (natI (walkD ns ls d)) w) := by
  have hm20 := hwin.2.2.1
  have hld : ∀ j : Nat, j < ls.length → leadB ns (ndI ls j) = true := fun j hj => (hwin.2.2.2.2.2 j hj).1
  obtain ⟨hp0, hpm, hpd, hpj⟩ := per_spec hld hd
  obtain ⟨i0, hi, iz0, iz1, iz2⟩ := info_parts infoInt
  have HNX := Lib.hid (fun (v : World) (e : Nat) (hv : Below w.heap.size w v) (he : e < 2 * ls.length) => iBeside_any vn vl ns ls (twin e) v (hn.below hv) (hl.below hv) (twin_lt he) hwin)
  have HOL := Lib.hid (fun k => orb_lt hld hd k)
  have HPJ := Lib.hid hpj
  have HPD := Lib.hid hpd
  have HWD : Hid (walkD ns ls d = walkK ns ls d (perD ns ls d)) := Lib.hid rfl
  have HWS := Lib.hid (fun k => walkK_succ ns ls d k)
  have HWL := Lib.hid (fun k => walkK_length ns ls d k)
  have HOS : Hid (∀ k, nextD ns ls (orbD ns ls d k) = orbD ns ls d (k + 1)) := Lib.hid (fun _ => rfl)
  have H01 : Hid (orbD ns ls d 1 = nextD ns ls d) := Lib.hid rfl
  have HW1 : Hid (walkK ns ls d 1 = [d]) := Lib.hid rfl
  generalize perD ns ls d = per at *
  have HTX := Lib.hid (fun (e : Nat) (he : e < 2 * ls.length) => twin_xor_int e (by omega))
  have x0 := HTX.out d hd
  have HNX : Hid (∀ (v : World) (e : Nat), Below w.heap.size w v → e < 2 * ls.length → Calls Tryz.prog 97 #[.agg #[vn, vl], .int .i64 (bits .xor .i64 (e : Int) 1), .int .i64 (-1)] v fun e' w' => e' = .returned (.int .i64 (nextD ns ls e)) ∧ Below v.heap.size v w') := Lib.hid (fun v e hv he => by rw [HTX.out e he]; exact HNX.out v e hv he)
  clear x0
  clear hwin hpj hpd hld
  go_enter Tryz.func70, Tryz.ntmps70
  go_wp2_with fail
  have hba : Below w.heap.size w ((w.alloc (.cells #[vn, vl] 34)).alloc (.cells #[.int .i64 d] 3)) := by (repeat' (first | (with_reducible exact Below.refl _ _) | (with_reducible assumption) | (with_reducible refine Below.drew ?_) | (with_reducible refine below_drewN ?_ _) | (with_reducible refine Below.alloc ?_ ?_ _) | (with_reducible refine Below.setCell ?_ ?_ _) | (with_reducible refine Below.step (by assumption) ?_ ?_))); all_goals (first | omega | (simp; done) | (simp; omega))
  have hW0 : Blk ((w.alloc (.cells #[vn, vl] 34)).alloc (.cells #[.int .i64 d] 3)) w.heap.size 34 #[vn, vl] := (Blk.newAt rfl).alloc _
  have ho0 : OwnI (w.heap.size + 1) ((w.alloc (.cells #[vn, vl] 34)).alloc (.cells #[.int .i64 d] 3)) (.slice (some ⟨w.heap.size + 1, 0, none⟩) 1 1) [(d : Int)] := OwnI.lit1 (by simp) (by simp)
  refine (HNX.out _ d hba hd).mono ?_
  rintro e w1 ⟨rfl, hb1⟩
  have hbw1 := hba.trans (hb1.mono hba.size)
  have hW1 := hW0.below hb1 hW0.lt
  have ho1 := ho0.kept hb1
  clear hb1 hba hW0 ho0
  go_wp2
  go_loopw [5, 6] (fun v x wr => ∃ k : Nat, 1 ≤ k ∧ k ≤ per ∧ x = .int .i64 (orbD ns ls d k) ∧ OwnI (w.heap.size + 1) wr v (natI (walkK ns ls d k)) ∧ Blk wr w.heap.size 34 #[vn, vl] ∧ Below w.heap.size w wr) (fun v _ _ => per - lenV v)
  case atStart => exact ⟨1, Nat.le_refl _, hp0, by rw [H01.out], by rw [HW1.out]; exact ho1, hW1, hbw1⟩
  case round =>
    clear ho1 hW1 hbw1
    obtain ⟨k, hk1, hkp, rfl, ho, hW, hbl⟩ := hrel
    have hlv := ho.lenV
    have hsz := hW.lt
    rw [natI_length, HWL.out] at hlv
    (have a_0 := hW.cell 0); (have a_1 := hW.cell 1); simp only [List.getElem?_toArray, List.getElem?_cons_succ, List.getElem?_cons_zero] at a_0 a_1
    have HK : Hid (k < per → orbD ns ls d k ≠ d) := Lib.hid (fun h => HPJ.out k (by omega) h)
    have hol := HOL.out k
    have HS : Hid (natI (walkK ns ls d (k + 1)) = natI (walkK ns ls d k) ++ [((orbD ns ls d k : Nat) : Int)]) := Lib.hid (by rw [HWS.out]; simp [natI])
    have HO1 := Lib.hid (HOS.out k)
    have HGL : Hid ((natI (walkK ns ls d k)).length = k) := Lib.hid (by rw [natI_length, HWL.out])
    have HE : Hid (k = per → orbD ns ls d k = d) := Lib.hid (fun h => by rw [h]; exact HPD.out)
    have HEW : Hid (k = per → walkD ns ls d = walkK ns ls d k) := Lib.hid (fun h => by rw [h]; exact HWD.out)
    generalize hxe : orbD ns ls d k = x at *
    clear hxe
    by_cases hkd : k < per
    · have hne := HK.out hkd
      have e1 : ((x : Int) != (d : Int)) = true := by simp; omega
      generalize walkK ns ls d k = G at *
      go_wp2_with (at_builtin; refine wpList_append_own _ rfl _ _ 28 rfl (w.heap.size + 1) 3 i0 (.int .i64 0) 1 8 Tryz.underlying28 hi iz0 iz1 iz2 rfl (by decide) _ _ _ rfl (World.ownsRow.alloc ho _) ⟨wr.heap.size, 0, none⟩ 1 1 [.int .i64 _] rfl rfl (cell_one_at (by simp)) (by intro u hu; simp at hu; subst hu; rfl) (by rw [HGL.out]; unfold maxLen; omega) (by rw [HGL.out]; omega) (by simp; omega) ?_)
      intro v2 w2 hown2 hg2 hne2
      have hbl2 : Below w.heap.size w w2 := (hbl.alloc (show w.heap.size ≤ wr.heap.size by omega) (.cells #[.int .i64 (x : Int)] 3)).grown hg2 (by simp; omega) (fun k hk => by have := (ho.lt k hk).1; omega)
      have hW2 : Blk w2 w.heap.size 34 #[vn, vl] := (hg2.block _ (by simp; omega) (fun e => by have := (ho.lt _ e.symm).1; omega)).trans (hW.alloc _)
      have hO2 := OwnI.snoc hown2
      have hz2 := hW2.lt
      have hl2 := hO2.lenV
      rw [List.length_append, HGL.out] at hl2
      simp at hl2
      clear hown2 hg2 ho hW hbl hne2 a_0 a_1
      (have a_0 := hW2.cell 0); (have a_1 := hW2.cell 1); simp only [List.getElem?_toArray, List.getElem?_cons_succ, List.getElem?_cons_zero] at a_0 a_1
      go_wp2_with fail
      refine (HNX.out _ x hbl2 hol).mono ?_
      rw [HO1.out]
      rintro e w3 ⟨rfl, hb3⟩
      have HO3 := Lib.hid (hO2.kept hb3)
      have HW3 := Lib.hid (hW2.below hb3 hz2)
      have hbl3 := hbl2.trans (hb3.mono hbl2.size)
      clear hb3 hO2 hW2 hbl2 a_0 a_1
      go_wp2
      go_roundw
      case rel => exact ⟨k + 1, by omega, by omega, rfl, by rw [HS.out]; exact HO3.out, HW3.out, hbl3⟩
      case measure => simp [hl2, hlv]; omega
    · have hkk : k = per := by omega
      have hxd := HE.out hkk
      have e1 : ((x : Int) != (d : Int)) = false := by simp [hxd]
      have HR := Lib.hid (HEW.out hkk)
      clear hkk hxd
      go_wp2
      go_ret
      exact ⟨_, rfl, by rw [HR.out]; exact ho.mono (by omega), hbl⟩

set_option maxHeartbeats 4000000 in
set_option maxRecDepth 100000 in
theorem sWalk_any (vn vl : Value) (ns ls : List Pr) (d : Nat) (w : World) (hn : RP w vn ns) (hl : RP w vl ls) (hd : d < 2 * ls.length) (hwin : WinOk ns ls) :
    Calls Tryz.prog 65 #[.agg #[vn, vl], .int .i64 d] w (RetI (natI (walkD ns ls d)) w) := by
  have hm20 := hwin.2.2.1
  have hld : ∀ j : Nat, j < ls.length → leadB ns (ndI ls j) = true := fun j hj => (hwin.2.2.2.2.2 j hj).1
  obtain ⟨hp0, hpm, hpd, hpj⟩ := per_spec hld hd
  obtain ⟨i0, hi, iz0, iz1, iz2⟩ := info_parts infoInt
  have HNX := Lib.hid (fun (v : World) (e : Nat) (hv : Below w.heap.size w v) (he : e < 2 * ls.length) => sNext_any vn vl ns ls e v (hn.below hv) (hl.below hv) he hwin)
  have HOL := Lib.hid (fun k => orb_lt hld hd k)
  have HPJ := Lib.hid hpj
  have HPD := Lib.hid hpd
  have HWD : Hid (walkD ns ls d = walkK ns ls d (perD ns ls d)) := Lib.hid rfl
  have HWS := Lib.hid (fun k => walkK_succ ns ls d k)
  have HWL := Lib.hid (fun k => walkK_length ns ls d k)
  have HOS : Hid (∀ k, nextD ns ls (orbD ns ls d k) = orbD ns ls d (k + 1)) := Lib.hid (fun _ => rfl)
  have H01 : Hid (orbD ns ls d 1 = nextD ns ls d) := Lib.hid rfl
  have HW1 : Hid (walkK ns ls d 1 = [d]) := Lib.hid rfl
  generalize perD ns ls d = per at *
  clear hwin hpj hpd hld
  go_enter Tryz.func65, Tryz.ntmps65
  go_wp2_with fail
  have hba : Below w.heap.size w ((w.alloc (.cells #[vn, vl] 34)).alloc (.cells #[.int .i64 d] 3)) := by (repeat' (first | (with_reducible exact Below.refl _ _) | (with_reducible assumption) | (with_reducible refine Below.drew ?_) | (with_reducible refine below_drewN ?_ _) | (with_reducible refine Below.alloc ?_ ?_ _) | (with_reducible refine Below.setCell ?_ ?_ _) | (with_reducible refine Below.step (by assumption) ?_ ?_))); all_goals (first | omega | (simp; done) | (simp; omega))
  have hW0 : Blk ((w.alloc (.cells #[vn, vl] 34)).alloc (.cells #[.int .i64 d] 3)) w.heap.size 34 #[vn, vl] := (Blk.newAt rfl).alloc _
  have ho0 : OwnI (w.heap.size + 1) ((w.alloc (.cells #[vn, vl] 34)).alloc (.cells #[.int .i64 d] 3)) (.slice (some ⟨w.heap.size + 1, 0, none⟩) 1 1) [(d : Int)] := OwnI.lit1 (by simp) (by simp)
  refine (HNX.out _ d hba hd).mono ?_
  rintro e w1 ⟨rfl, hb1⟩
  have hbw1 := hba.trans (hb1.mono hba.size)
  have hW1 := hW0.below hb1 hW0.lt
  have ho1 := ho0.kept hb1
  clear hb1 hba hW0 ho0
  go_wp2
  go_loopw [5, 6] (fun v x wr => ∃ k : Nat, 1 ≤ k ∧ k ≤ per ∧ x = .int .i64 (orbD ns ls d k) ∧ OwnI (w.heap.size + 1) wr v (natI (walkK ns ls d k)) ∧ Blk wr w.heap.size 34 #[vn, vl] ∧ Below w.heap.size w wr) (fun v _ _ => per - lenV v)
  case atStart => exact ⟨1, Nat.le_refl _, hp0, by rw [H01.out], by rw [HW1.out]; exact ho1, hW1, hbw1⟩
  case round =>
    clear ho1 hW1 hbw1
    obtain ⟨k, hk1, hkp, rfl, ho, hW, hbl⟩ := hrel
    have hlv := ho.lenV
    have hsz := hW.lt
    rw [natI_length, HWL.out] at hlv
    (have a_0 := hW.cell 0); (have a_1 := hW.cell 1); simp only [List.getElem?_toArray, List.getElem?_cons_succ, List.getElem?_cons_zero] at a_0 a_1
    have HK : Hid (k < per → orbD ns ls d k ≠ d) := Lib.hid (fun h => HPJ.out k (by omega) h)
    have hol := HOL.out k
    have HS : Hid (natI (walkK ns ls d (k + 1)) = natI (walkK ns ls d k) ++ [((orbD ns ls d k : Nat) : Int)]) := Lib.hid (by rw [HWS.out]; simp [natI])
    have HO1 := Lib.hid (HOS.out k)
    have HGL : Hid ((natI (walkK ns ls d k)).length = k) := Lib.hid (by rw [natI_length, HWL.out])
    have HE : Hid (k = per → orbD ns ls d k = d) := Lib.hid (fun h => by rw [h]; exact HPD.out)
    have HEW : Hid (k = per → walkD ns ls d = walkK ns ls d k) := Lib.hid (fun h => by rw [h]; exact HWD.out)
    generalize hxe : orbD ns ls d k = x at *
    clear hxe
    by_cases hkd : k < per
    · have hne := HK.out hkd
      have e1 : ((x : Int) != (d : Int)) = true := by simp; omega
      generalize walkK ns ls d k = G at *
      go_wp2_with (at_builtin; refine wpList_append_own _ rfl _ _ 28 rfl (w.heap.size + 1) 3 i0 (.int .i64 0) 1 8 Tryz.underlying28 hi iz0 iz1 iz2 rfl (by decide) _ _ _ rfl (World.ownsRow.alloc ho _) ⟨wr.heap.size, 0, none⟩ 1 1 [.int .i64 _] rfl rfl (cell_one_at (by simp)) (by intro u hu; simp at hu; subst hu; rfl) (by rw [HGL.out]; unfold maxLen; omega) (by rw [HGL.out]; omega) (by simp; omega) ?_)
      intro v2 w2 hown2 hg2 hne2
      have hbl2 : Below w.heap.size w w2 := (hbl.alloc (show w.heap.size ≤ wr.heap.size by omega) (.cells #[.int .i64 (x : Int)] 3)).grown hg2 (by simp; omega) (fun k hk => by have := (ho.lt k hk).1; omega)
      have hW2 : Blk w2 w.heap.size 34 #[vn, vl] := (hg2.block _ (by simp; omega) (fun e => by have := (ho.lt _ e.symm).1; omega)).trans (hW.alloc _)
      have hO2 := OwnI.snoc hown2
      have hz2 := hW2.lt
      have hl2 := hO2.lenV
      rw [List.length_append, HGL.out] at hl2
      simp at hl2
      clear hown2 hg2 ho hW hbl hne2 a_0 a_1
      (have a_0 := hW2.cell 0); (have a_1 := hW2.cell 1); simp only [List.getElem?_toArray, List.getElem?_cons_succ, List.getElem?_cons_zero] at a_0 a_1
      go_wp2_with fail
      refine (HNX.out _ x hbl2 hol).mono ?_
      rw [HO1.out]
      rintro e w3 ⟨rfl, hb3⟩
      have HO3 := Lib.hid (hO2.kept hb3)
      have HW3 := Lib.hid (hW2.below hb3 hz2)
      have hbl3 := hbl2.trans (hb3.mono hbl2.size)
      clear hb3 hO2 hW2 hbl2 a_0 a_1
      go_wp2
      go_roundw
      case rel => exact ⟨k + 1, by omega, by omega, rfl, by rw [HS.out]; exact HO3.out, HW3.out, hbl3⟩
      case measure => simp [hl2, hlv]; omega
    · have hkk : k = per := by omega
      have hxd := HE.out hkk
      have e1 : ((x : Int) != (d : Int)) = false := by simp [hxd]
      have HR := Lib.hid (HEW.out hkk)
      clear hkk hxd
      go_wp2
      go_ret
      exact ⟨_, rfl, by rw [HR.out]; exact ho.mono (by omega), hbl⟩

end Go.Proofs.YtognjdappchpkaaGreat

namespace Go.Proofs.YtognjdappchpkaaGreat
open Go.RowKit

theorem memS_end {s m i : Nat} (hm : i ≤ m) (h : s / 2 ^ i = 0) : memS s m = memS s i := by
  have hp : 0 < 2 ^ i := Nat.two_pow_pos i
  have hlt : s < 2 ^ i := by
    rcases Nat.lt_or_ge s (2 ^ i) with h1 | h1
    · exact h1
    · have := Nat.div_pos h1 hp
      omega
  have := memS_more hlt (m - i)
  rw [show i + (m - i) = m by omega] at this
  exact this

theorem shl64 {k : Nat} (hk : k < 62) : wrap64 ((2 : Int) ^ k) = ((2 ^ k : Nat) : Int) := by
  have h := shl_one hk
  rw [Int.one_mul] at h
  have e : wrap64 ((2 : Int) ^ k) = IntKind.i64.wrap ((2 : Int) ^ k) := (IntWalk.i64_left _).symm
  rw [e]
  exact h

theorem addS_no {s : Nat} {l : Pr} {p q : Nat} (h1 : l.1 = p) (h2 : l.2 = q) (hb : (s.testBit p || s.testBit q) = false) : addS s l = s := by
  unfold addS; rw [h1, h2, Int.toNat_natCast, Int.toNat_natCast, hb]; rfl
theorem addS_yes {s : Nat} {l : Pr} {p q : Nat} (h1 : l.1 = p) (h2 : l.2 = q) (hb : (s.testBit p || s.testBit q) = true) : addS s l = s ||| (2 ^ p ||| 2 ^ q) := by
  unfold addS; rw [h1, h2, Int.toNat_natCast, Int.toNat_natCast, hb]; rfl
theorem roundS_succ (t : Nat) {ls : List Pr} {i : Nat} (h : i < ls.length) : roundS t (ls.take (i + 1)) = addS (roundS t (ls.take i)) (ndI ls i) := by
  rw [List.take_succ_eq_append_getElem h, roundS_append, ndI_nat ls i h]; rfl

theorem div_full {s m : Nat} (h : s < 2 ^ m) : s / 2 ^ m = 0 := Nat.div_eq_of_lt h

set_option maxHeartbeats 4000000 in
set_option maxRecDepth 100000 in
theorem iMembers_any (s m : Nat) (w : World) (hs : s < 2 ^ m) (hm : m ≤ 40) :
    Calls Tryz.prog 96 #[.int .i64 s] w (RetI (natI (memS s m)) w) := by
  obtain ⟨i0, hi, iz0, iz1, iz2⟩ := info_parts infoInt
  have hs62 : s < 2 ^ 62 := Nat.lt_of_lt_of_le hs (Nat.pow_le_pow_right (by omega) (by omega))
  have HB := Lib.hid (fun k => bit_test (k := k) hs62)
  have HD := Lib.hid (div_full hs)
  have HME := Lib.hid (fun i (h1 : i ≤ m) h2 => memS_end (s := s) h1 h2)
  have HY := Lib.hid (fun i h => memS_succ_yes (s := s) (m := i) h)
  have HN := Lib.hid (fun i h => memS_succ_no (s := s) (m := i) h)
  have HL := Lib.hid (fun i => memS_le s i)
  clear hs
  go_enter Tryz.func96, Tryz.ntmps96
  go_wp2
  go_loopw [3, 4] (fun v x wr => ∃ i : Nat, i ≤ m ∧ x = .int .i64 i ∧ OwnI w.heap.size wr v (natI (memS s i)) ∧ Below w.heap.size w wr) (fun _ x _ => m - (intOf x).toNat)
  case atStart => exact ⟨0, Nat.zero_le _, rfl, OwnI.nil _ _, by (repeat' (first | (with_reducible exact Below.refl _ _) | (with_reducible assumption) | (with_reducible refine Below.drew ?_) | (with_reducible refine below_drewN ?_ _) | (with_reducible refine Below.alloc ?_ ?_ _) | (with_reducible refine Below.setCell ?_ ?_ _) | (with_reducible refine Below.step (by assumption) ?_ ?_))); all_goals (first | omega | (simp; done) | (simp; omega))⟩
  case round =>
    obtain ⟨i, him, rfl, ho, hbl⟩ := hrel
    have hsz := hbl.size
    have hbt := HB.out i
    have HLI := HL.out i
    have h0 : i < 64 := by omega
    have HZ : Hid ((0 : Int) < (s : Int) / 2 ^ i ↔ s / 2 ^ i ≠ 0) := Lib.hid (by
      have e : ((s : Int) / 2 ^ i) = ((s / 2 ^ i : Nat) : Int) := by (rw [Int.natCast_ediv]; rfl)
      rw [e]
      generalize s / 2 ^ i = q
      omega)
    by_cases hz : (0 : Int) < (s : Int) / 2 ^ i
    · have hne := HZ.out.1 hz
      have him2 : i < m := by
        rcases Nat.lt_or_ge i m with h | h
        · exact h
        · have : i = m := by omega
          subst this
          exact absurd HD.out hne
      clear hne
      cases hb : s.testBit i
      · rw [hb] at hbt
        have hbt' : bits .and .i64 ((s : Int) / 2 ^ i) 1 = 0 := hbt
        have HS := Lib.hid (HN.out i hb)
        clear hb hbt
        go_wp2
        go_roundw
        case rel => exact ⟨i + 1, by omega, by go_num, by rw [HS.out]; exact ho, hbl⟩
        case measure => simp [intOf]; omega
      · rw [hb] at hbt
        have hbt' : bits .and .i64 ((s : Int) / 2 ^ i) 1 = 1 := hbt
        have HS : Hid (natI (memS s (i + 1)) = natI (memS s i) ++ [(i : Int)]) := Lib.hid (by rw [HY.out i hb]; simp [natI])
        have HGL := Lib.hid (natI_length (memS s i))
        clear hb hbt
        generalize memS s i = G at *
        go_wp2_with (at_builtin; refine wpList_append_own _ rfl _ _ 28 rfl (w.heap.size) 3 i0 (.int .i64 0) 1 8 Tryz.underlying28 hi iz0 iz1 iz2 rfl (by decide) _ _ _ rfl (World.ownsRow.alloc ho _) ⟨wr.heap.size, 0, none⟩ 1 1 [.int .i64 _] rfl rfl (cell_one_at (by simp)) (by intro u hu; simp at hu; subst hu; rfl) (by rw [HGL.out]; unfold maxLen; omega) (by rw [HGL.out]; omega) (by simp; omega) ?_)
        intro v2 w2 hown2 hg2 hne2
        have hbl2 : Below w.heap.size w w2 := (hbl.alloc hsz (.cells #[.int .i64 (i : Int)] 3)).grown hg2 (by simp; omega) (fun k hk => (ho.lt k hk).1)
        have HO := Lib.hid (OwnI.snoc hown2)
        clear hown2 hg2 ho hbl hne2
        go_wp2
        go_roundw
        case rel => exact ⟨i + 1, by omega, by go_num, by rw [HS.out]; exact HO.out, hbl2⟩
        case measure => simp [intOf]; omega
    · have h2 : s / 2 ^ i = 0 := by
        apply Classical.byContradiction
        intro h
        exact hz (HZ.out.2 h)
      have HR := Lib.hid (HME.out i him h2)
      clear h2 hbt
      go_wp2
      go_ret
      exact ⟨_, rfl, by rw [HR.out]; exact ho, hbl⟩

set_option maxHeartbeats 8000000 in
set_option maxRecDepth 100000 in
theorem iPartOf_any (vn vl : Value) (ns ls : List Pr) (k : Nat) (w : World) (hn : RP w vn ns) (hl : RP w vl ls) (hk : k < ns.length) (hn12 : ns.length ≤ 12) (hm20 : ls.length ≤ 20) (hld : ∀ j : Nat, j < ls.length → leadB ns (ndI ls j) = true) :
    Calls Tryz.prog 69 #[.agg #[vn, vl], .int .i64 k] w (RetI (natI (memS (roundsS (2 ^ k) ls ns.length) ns.length)) w) := by
  obtain ⟨An, cn, rfl, hcn, hmn, _⟩ := hn.formI
  obtain ⟨Al, cl, rfl, hcl, hml, hcell⟩ := hl.formI
  unfold maxLen at hmn hml
  have hends : ∀ l ∈ ls, l.1.toNat < ns.length ∧ l.2.toNat < ns.length := by
    intro l hm
    obtain ⟨j, hj, e⟩ := List.getElem_of_mem hm
    obtain ⟨h1, h2, h3, _⟩ := leadB_iff.1 (hld j hj)
    rw [ndI_nat ls j hj, e] at h1 h2 h3
    omega
  have h2k : 2 ^ k < 2 ^ ns.length := Nat.pow_lt_pow_right (by omega) hk
  have HLT := Lib.hid (fun j => roundsS_lt (ls := ls) h2k hends j)
  have HRL := Lib.hid (fun (t : Nat) (i : Nat) (ht : t < 2 ^ ns.length) => roundS_lt (ls.take i) t ht (fun l hm => hends l (List.mem_of_mem_take hm)))
  have h12 : (2 : Nat) ^ ns.length ≤ 2 ^ 12 := Nat.pow_le_pow_right (by omega) hn12
  have HLD := Lib.hid hld
  have HCELL := Lib.hid hcell
  have x0 := shl64 (k := k) (by omega)
  have hk64 : k < 64 := by omega
  clear hld hcell hends
  generalize hB : (2 : Nat) ^ ns.length = B at *
  have HBE := Lib.hid hB
  clear hB
  go_enter Tryz.func69, Tryz.ntmps69
  go_wp2
  go_loopw [5, 13] (fun t x wr => ∃ j : Nat, j ≤ ns.length ∧ x = .int .i64 j ∧ t = .int .i64 (roundsS (2 ^ k) ls j) ∧ Blk wr w.heap.size 34 #[.slice An ns.length cn, .slice Al ls.length cl] ∧ Below w.heap.size w wr) (fun _ x _ => ns.length - (intOf x).toNat)
  case atStart => exact ⟨0, Nat.zero_le _, rfl, by rw [x0]; rfl, Blk.newAt rfl, by (repeat' (first | (with_reducible exact Below.refl _ _) | (with_reducible assumption) | (with_reducible refine Below.drew ?_) | (with_reducible refine below_drewN ?_ _) | (with_reducible refine Below.alloc ?_ ?_ _) | (with_reducible refine Below.setCell ?_ ?_ _) | (with_reducible refine Below.step (by assumption) ?_ ?_))); all_goals (first | omega | (simp; done) | (simp; omega))⟩
  case round =>
    clear x0
    obtain ⟨j, hj, rfl, rfl, hW, hbl⟩ := hrel
    have hsz := hW.lt
    (have a_0 := hW.cell 0); (have a_1 := hW.cell 1); simp only [List.getElem?_toArray, List.getElem?_cons_succ, List.getElem?_cons_zero] at a_0 a_1
    by_cases hjn : j < ns.length
    · have HTB := Lib.hid (HLT.out j)
      have HTS : Hid (roundsS (2 ^ k) ls (j + 1) = roundS (roundsS (2 ^ k) ls j) ls) := Lib.hid rfl
      have HT0 : Hid (roundS (roundsS (2 ^ k) ls j) (ls.take 0) = roundsS (2 ^ k) ls j) := Lib.hid rfl
      generalize roundsS (2 ^ k) ls j = T at *
      go_wp2
      go_loopw [5, 18] (fun t x wr => ∃ i : Nat, i ≤ ls.length ∧ x = .int .i64 i ∧ t = .int .i64 (roundS T (ls.take i)) ∧ Blk wr w.heap.size 34 #[.slice An ns.length cn, .slice Al ls.length cl] ∧ Below w.heap.size w wr) (fun _ x _ => ls.length - (intOf x).toNat)
      case atStart => exact ⟨0, Nat.zero_le _, rfl, by rw [HT0.out], hW, hbl⟩
      case round =>
        clear hW hbl hsz a_0 a_1
        obtain ⟨i, hi, rfl, rfl, hW, hbl⟩ := hrel
        have hsz := hW.lt
        (have a_0 := hW.cell 0); (have a_1 := hW.cell 1); simp only [List.getElem?_toArray, List.getElem?_cons_succ, List.getElem?_cons_zero] at a_0 a_1
        by_cases hil : i < ls.length
        · obtain ⟨b, off, rfl, hb, hcl⟩ := HCELL.out (by omega)
          obtain ⟨k0, k1⟩ := hcl i hil
          have q0 := (hbl.cell (p := ⟨b, off + i * 2, none⟩) hb).trans k0
          have q1 := (hbl.cell (p := ⟨b, off + i * 2 + 1, none⟩) hb).trans k1
          obtain ⟨h1, h2, h3, _⟩ := leadB_iff.1 (HLD.out i hil)
          obtain ⟨p, hp⟩ : ∃ p : Nat, (ndI ls i).1 = p := ⟨(ndI ls i).1.toNat, by omega⟩
          obtain ⟨q, hq⟩ : ∃ q : Nat, (ndI ls i).2 = q := ⟨(ndI ls i).2.toNat, by omega⟩
          have HS := Lib.hid (roundS_succ T hil)
          have HSB := Lib.hid (HRL.out T i HTB.out)
          have HAN := Lib.hid (fun s hb => addS_no (s := s) hp hq hb)
          have HAY := Lib.hid (fun s hb => addS_yes (s := s) hp hq hb)
          rw [hp] at q0
          rw [hq] at q1
          have hp12 : p < 12 := by omega
          have hq12 : q < 12 := by omega
          have hp64 : p < 64 := by omega
          have hq64 : q < 64 := by omega
          have ii1 : (0 : Int) ≤ (i : Int) := by omega
          have ii2 : (i : Int) < (ls.length : Int) := by omega
          generalize roundS T (ls.take i) = s at *
          have hs12 : s < 2 ^ 12 := by have := HSB.out; omega
          have bp := bit_test (s := s) (k := p) (by omega)
          have bq := bit_test (s := s) (k := q) (by omega)
          have xp := shl64 (k := p) (by omega)
          have xq := shl64 (k := q) (by omega)
          have Pp : 2 ^ p < 2 ^ 12 := Nat.pow_lt_pow_right (by omega) hp12
          have Pq : 2 ^ q < 2 ^ 12 := Nat.pow_lt_pow_right (by omega) hq12
          have o1 := bits_or_nat (a := 2 ^ p) (b := 2 ^ q) (by omega) (by omega)
          have Po : 2 ^ p ||| 2 ^ q < 2 ^ 12 := Nat.or_lt_two_pow Pp Pq
          have o2 := bits_or_nat (a := s) (b := 2 ^ p ||| 2 ^ q) (by omega) (by omega)
          clear hcl k0 k1 hp hq h1 h2 h3 Pp Pq Po
          have hbl2 : Below w.heap.size w (wr.alloc (.cells #[.int .i64 p, .int .i64 q] 80)) := by (repeat' (first | (with_reducible exact Below.refl _ _) | (with_reducible assumption) | (with_reducible refine Below.drew ?_) | (with_reducible refine below_drewN ?_ _) | (with_reducible refine Below.alloc ?_ ?_ _) | (with_reducible refine Below.setCell ?_ ?_ _) | (with_reducible refine Below.step (by assumption) ?_ ?_))); all_goals (first | omega | (simp; done) | (simp; omega))
          have hW2 := hW.alloc (.cells #[.int .i64 p, .int .i64 q] 80)
          cases hor : s.testBit p || s.testBit q
          · have HX := Lib.hid (HAN.out s hor)
            rw [Bool.or_eq_false_iff] at hor
            rw [hor.1] at bp
            rw [hor.2] at bq
            have bp' : bits .and .i64 ((s : Int) / 2 ^ p) 1 = 0 := bp
            have bq' : bits .and .i64 ((s : Int) / 2 ^ q) 1 = 0 := bq
            clear bp bq hor o1 o2 xp xq hW hbl
            go_wp2
            go_roundw
            case rel => exact ⟨i + 1, by omega, by go_num, by rw [HS.out, HX.out], hW2, hbl2⟩
            case measure => simp [intOf]; omega
          · have HX := Lib.hid (HAY.out s hor)
            cases hb1 : s.testBit p
            · rw [hb1, Bool.false_or] at hor
              rw [hb1] at bp
              rw [hor] at bq
              have bp' : bits .and .i64 ((s : Int) / 2 ^ p) 1 = 0 := bp
              have bq' : bits .and .i64 ((s : Int) / 2 ^ q) 1 = 1 := bq
              clear bp bq hor hb1 hW hbl
              generalize hO : s ||| (2 ^ p ||| 2 ^ q) = O at *
              generalize (2 ^ p ||| 2 ^ q) = O1 at *
              generalize hP : ((2 ^ p : Nat) : Int) = P at *
              generalize hQ : ((2 ^ q : Nat) : Int) = QQ at *
              clear hP hQ hO
              go_wp2
              go_quiet (fail)
              go_wp2
              go_roundw
              case rel => exact ⟨i + 1, by omega, by go_num, by rw [HS.out, HX.out], hW2, below_drewN hbl2 _⟩
              case measure => simp [intOf]; omega
            · rw [hb1] at bp
              have bp' : bits .and .i64 ((s : Int) / 2 ^ p) 1 = 1 := bp
              clear bp bq hor hb1 hW hbl
              generalize hO : s ||| (2 ^ p ||| 2 ^ q) = O at *
              generalize (2 ^ p ||| 2 ^ q) = O1 at *
              generalize hP : ((2 ^ p : Nat) : Int) = P at *
              generalize hQ : ((2 ^ q : Nat) : Int) = QQ at *
              clear hP hQ hO
              go_wp2
              go_quiet (fail)
              go_wp2
              go_roundw
              case rel => exact ⟨i + 1, by omega, by go_num, by rw [HS.out, HX.out], hW2, below_drewN hbl2 _⟩
              case measure => simp [intOf]; omega
        · have hii : i = ls.length := by omega
          subst hii
          have HX : Hid (roundS T (ls.take ls.length) = roundS T ls) := Lib.hid (by rw [List.take_length])
          rw [HX.out]
          go_wp2
          go_roundw
          case rel => exact ⟨j + 1, by omega, by go_num, by rw [HTS.out], hW, hbl⟩
          case measure => simp [intOf]; omega
    · have hjj : j = ns.length := by omega
      subst hjj
      have hlt := HLT.out ns.length
      rw [← HBE.out] at hlt
      have HM := Lib.hid (fun (v : World) => iMembers_any (roundsS (2 ^ k) ls ns.length) ns.length v hlt (by omega))
      clear hlt
      generalize roundsS (2 ^ k) ls ns.length = R at *
      go_wp2_with fail
      refine (HM.out _).mono ?_
      rintro e w1 ⟨v1, rfl, ho1, hb1⟩
      go_wp2
      go_ret
      exact ⟨_, rfl, ho1.mono (by omega), hbl.trans (hb1.mono hbl.size)⟩

theorem ends_in {ns ls : List Pr} (hld : ∀ j : Nat, j < ls.length → leadB ns (ndI ls j) = true) : EndsIn ns.length ls := by
  intro j hj
  obtain ⟨h1, h2, h3, _⟩ := leadB_iff.1 (hld j hj)
  exact ⟨(ndI ls j).1.toNat, (ndI ls j).2.toNat, by omega, by omega, by omega, by omega⟩

set_option maxHeartbeats 4000000 in
set_option maxRecDepth 100000 in
theorem iWhole_any (vn vl : Value) (ns ls : List Pr) (w : World) (hn : RP w vn ns) (hl : RP w vl ls) :
    Calls Tryz.prog 39 #[.agg #[vn, vl]] w fun e w' => e = .returned (.bool (wholeB ns ls)) ∧ Below w.heap.size w w' := by
  obtain ⟨An, cn, rfl, hcn, hmn, _⟩ := hn.formI
  obtain ⟨Al, cl, rfl, hcl, hml, _⟩ := hl.formI
  unfold maxLen at hmn hml
  have hb0 : Below w.heap.size w (w.alloc (.cells #[.slice An ns.length cn, .slice Al ls.length cl] 34)) := by (repeat' (first | (with_reducible exact Below.refl _ _) | (with_reducible assumption) | (with_reducible refine Below.drew ?_) | (with_reducible refine below_drewN ?_ _) | (with_reducible refine Below.alloc ?_ ?_ _) | (with_reducible refine Below.setCell ?_ ?_ _) | (with_reducible refine Below.step (by assumption) ?_ ?_))); all_goals (first | omega | (simp; done) | (simp; omega))
  have hn0 := hn.below hb0
  have hl0 := hl.below hb0
  cases hw : winB ns ls
  · have HR : Hid (wholeB ns ls = false) := Lib.hid (by simp [wholeB, hw])
    have HC := Lib.hid (fun (v : World) (h1 : RP v (.slice An ns.length cn) ns) (h2 : RP v (.slice Al ls.length cl) ls) => iWinOk_at _ _ ns ls _ v h1 h2 hw)
    clear hw
    go_enter Tryz.func39, Tryz.ntmps39
    go_wp2_with fail
    (refine wp_region_quietG (by kernel_rfl) (by kernel_rfl) (fun hG => ?_))
    repeat (go_big_quiet_step ((go_at_call 59; exact quietG (HC.out _ (RS.grw _ hn0) (RS.grw _ hl0)))))
    (refine wpQuiet_nil ?_); (clear hG); (rintro w3 ⟨⟨_, hb3⟩, rfl⟩); (try dsimp only); (first | (with_reducible have hcf3 := bcell_drew hb3) | have hcf3 := bcell hb3); obtain ⟨hc3, hf3⟩ := hcf3; have hz3 := hb3.size; (try simp at hz3); (try have hp3_0 : w.heap.size < w3.heap.size := by omega); (try have hp3_1 : w.heap.size + 1 < w3.heap.size := by omega); (try have hp3_2 : w.heap.size + 1 + 1 < w3.heap.size := by omega); (try have hp3_3 : w.heap.size + 1 + 1 + 1 < w3.heap.size := by omega)
    go_wp2
    go_ret
    exact ⟨ret_bool HR.out.symm, by (repeat' (first | (with_reducible exact Below.refl _ _) | (with_reducible assumption) | (with_reducible refine Below.drew ?_) | (with_reducible refine below_drewN ?_ _) | (with_reducible refine Below.alloc ?_ ?_ _) | (with_reducible refine Below.setCell ?_ ?_ _) | (with_reducible refine Below.step (by assumption) ?_ ?_))); all_goals (first | omega | (simp; done) | (simp; omega))⟩
  · have HC := Lib.hid (fun (v : World) (h1 : RP v (.slice An ns.length cn) ns) (h2 : RP v (.slice Al ls.length cl) ls) => iWinOk_at _ _ ns ls _ v h1 h2 hw)
    by_cases h0 : ls.length = 0
    · have HR : Hid (wholeB ns ls = false) := Lib.hid (by simp [wholeB, hw, h0])
      have e1 : decide ((0 : Int) < (ls.length : Int)) = false := by simp [h0]
      have e2 : ¬ (0 : Int) < (ls.length : Int) := by omega
      have e3 : decide (0 < ls.length) = false := by simp [h0]
      have e4 : ¬ 0 < ls.length := by omega
      clear hw h0
      go_enter Tryz.func39, Tryz.ntmps39
      go_wp2_with fail
      (refine wp_region_quietG (by kernel_rfl) (by kernel_rfl) (fun hG => ?_))
      repeat (go_big_quiet_step ((go_at_call 59; exact quietG (HC.out _ (RS.grw _ hn0) (RS.grw _ hl0)))))
      (refine wpQuiet_nil ?_); (clear hG); (rintro w3 ⟨⟨_, hb3⟩, rfl⟩); (try dsimp only); (first | (with_reducible have hcf3 := bcell_drew hb3) | have hcf3 := bcell hb3); obtain ⟨hc3, hf3⟩ := hcf3; have hz3 := hb3.size; (try simp at hz3); (try have hp3_0 : w.heap.size < w3.heap.size := by omega); (try have hp3_1 : w.heap.size + 1 < w3.heap.size := by omega); (try have hp3_2 : w.heap.size + 1 + 1 < w3.heap.size := by omega); (try have hp3_3 : w.heap.size + 1 + 1 + 1 < w3.heap.size := by omega)
      go_wp2
      go_ret
      exact ⟨ret_bool HR.out.symm, by (repeat' (first | (with_reducible exact Below.refl _ _) | (with_reducible assumption) | (with_reducible refine Below.drew ?_) | (with_reducible refine below_drewN ?_ _) | (with_reducible refine Below.alloc ?_ ?_ _) | (with_reducible refine Below.setCell ?_ ?_ _) | (with_reducible refine Below.step (by assumption) ?_ ?_))); all_goals (first | omega | (simp; done) | (simp; omega))⟩
    · have hok := winB_true.1 hw
      have hld : ∀ j : Nat, j < ls.length → leadB ns (ndI ls j) = true := fun j hj => (hok.2.2.2.2.2 j hj).1
      have hn1 := hok.1
      have hws := whole_set (ends_in hld) hok.1
      have HP := Lib.hid (fun (v : World) (h1 : RP v (.slice An ns.length cn) ns) (h2 : RP v (.slice Al ls.length cl) ls) => iPartOf_any _ _ ns ls 0 v h1 h2 hok.1 hok.2.1 hok.2.2.1 hld)
      have e0 : (2 : Nat) ^ 0 = 1 := rfl
      rw [e0] at HP
      have e2 : (0 : Int) < (ls.length : Int) := by omega
      have e1 : decide ((0 : Int) < (ls.length : Int)) = true := by simp; omega
      have e3 : decide (0 < ls.length) = true := by simp; omega
      have e4 : 0 < ls.length := by omega
      generalize memS (roundsS 1 ls ns.length) ns.length = G at *
      have HR : Hid (wholeB ns ls = ((G.length : Int) == (ns.length : Int))) := Lib.hid (by
        unfold wholeB
        rw [hw]
        have h1 : decide (0 < ls.length) = true := by simp; omega
        rw [h1, Bool.true_and, Bool.true_and]
        cases hq : (partsK ns.length ls ls.length).all (· == 0)
        · have : ¬ G.length = ns.length := fun h => by rw [hws.1 h] at hq; cases hq
          symm; simp; omega
        · have := hws.2 hq
          symm; simp; omega)
      have HN0 := Lib.hid hn0
      have HL0 := Lib.hid hl0
      clear hw h0 hok hld hws hn1 hn0 hl0 e0
      go_enter Tryz.func39, Tryz.ntmps39
      go_wp2_with fail
      go_region_held3 (fun w' => w'.cell? ⟨w.heap.size, 0, none⟩ = some (.slice An ns.length cn) ∧ w'.cell? ⟨w.heap.size, 1, none⟩ = some (.slice Al ls.length cl))
        (go_keep)
        (first | (go_at_call 59; refine (HC.out _ (hn.below (by (repeat' (first | (with_reducible exact Below.refl _ _) | (with_reducible assumption) | (with_reducible refine Below.drew ?_) | (with_reducible refine below_drewN ?_ _) | (with_reducible refine Below.alloc ?_ ?_ _) | (with_reducible refine Below.setCell ?_ ?_ _) | (with_reducible refine Below.step (by assumption) ?_ ?_))); all_goals (first | omega | (simp; done) | (simp; omega)))) (hl.below (by (repeat' (first | (with_reducible exact Below.refl _ _) | (with_reducible assumption) | (with_reducible refine Below.drew ?_) | (with_reducible refine below_drewN ?_ _) | (with_reducible refine Below.alloc ?_ ?_ _) | (with_reducible refine Below.setCell ?_ ?_ _) | (with_reducible refine Below.step (by assumption) ?_ ?_))); all_goals (first | omega | (simp; done) | (simp; omega))))).mono ?_; rintro e w1 ⟨rfl, hb1⟩; (first | (with_reducible have hcf1 := bcell_drew hb1) | have hcf1 := bcell hb1); obtain ⟨hc1, hf1⟩ := hcf1; have hz1 := hb1.size; (try simp at hz1); (try have hp1_0 : w.heap.size < w1.heap.size := by omega); (try have hp1_1 : w.heap.size + 1 < w1.heap.size := by omega); (try have hp1_2 : w.heap.size + 1 + 1 < w1.heap.size := by omega); (try have hp1_3 : w.heap.size + 1 + 1 + 1 < w1.heap.size := by omega); have hbw1 : Below w.heap.size w w1 := (by (repeat' (first | (with_reducible exact Below.refl _ _) | (with_reducible assumption) | (with_reducible refine Below.drew ?_) | (with_reducible refine below_drewN ?_ _) | (with_reducible refine Below.alloc ?_ ?_ _) | (with_reducible refine Below.setCell ?_ ?_ _) | (with_reducible refine Below.step (by assumption) ?_ ?_))); all_goals (first | omega | (simp; done) | (simp; omega)))) | (go_at_call 69; refine (HP.out _ (hn.below (by (repeat' (first | (with_reducible exact Below.refl _ _) | (with_reducible assumption) | (with_reducible refine Below.drew ?_) | (with_reducible refine below_drewN ?_ _) | (with_reducible refine Below.alloc ?_ ?_ _) | (with_reducible refine Below.setCell ?_ ?_ _) | (with_reducible refine Below.step (by assumption) ?_ ?_))); all_goals (first | omega | (simp; done) | (simp; omega)))) (hl.below (by (repeat' (first | (with_reducible exact Below.refl _ _) | (with_reducible assumption) | (with_reducible refine Below.drew ?_) | (with_reducible refine below_drewN ?_ _) | (with_reducible refine Below.alloc ?_ ?_ _) | (with_reducible refine Below.setCell ?_ ?_ _) | (with_reducible refine Below.step (by assumption) ?_ ?_))); all_goals (first | omega | (simp; done) | (simp; omega))))).mono ?_; rintro e w2 ⟨v2, rfl, ho2, hb2⟩; obtain ⟨A2, c2, rfl⟩ := ho2.form; (first | (with_reducible have hcf2 := bcell_drew hb2) | have hcf2 := bcell hb2); obtain ⟨hc2, hf2⟩ := hcf2; have hz2 := hb2.size; (try simp at hz2); (try have hp2_0 : w.heap.size < w2.heap.size := by omega); (try have hp2_1 : w.heap.size + 1 < w2.heap.size := by omega); (try have hp2_2 : w.heap.size + 1 + 1 < w2.heap.size := by omega); (try have hp2_3 : w.heap.size + 1 + 1 + 1 < w2.heap.size := by omega)))
      rw [natI_length]
      go_wp2
      go_ret
      exact ⟨ret_bool HR.out.symm, by (repeat' (first | (with_reducible exact Below.refl _ _) | (with_reducible assumption) | (with_reducible refine Below.drew ?_) | (with_reducible refine below_drewN ?_ _) | (with_reducible refine Below.alloc ?_ ?_ _) | (with_reducible refine Below.setCell ?_ ?_ _) | (with_reducible refine Below.step (by assumption) ?_ ?_))); all_goals (first | omega | (simp; done) | (simp; omega))⟩

end Go.Proofs.YtognjdappchpkaaGreat

namespace Go.Proofs.YtognjdappchpkaaGreat
open Go.RowKit

/-- A row of its own of things of one cell. -/
def OwnE {α : Type} (t : TypeId) (enc : α → Value) (base : Nat) (w : World) (v : Value) (l : List α) : Prop := w.ownsRow base t 1 v l.length (l.map enc)

section
variable {α : Type} {t : TypeId} {enc : α → Value} {base : Nat} {w w' : World} {v : Value} {l : List α} {g n cap : Nat}
theorem OwnE.kept (h : OwnE t enc base w v l) (hb : Below w.heap.size w w') : OwnE t enc base w' v l := own_kept h hb
theorem OwnE.alloc (h : OwnE t enc base w v l) (o : Obj) : OwnE t enc base (w.alloc o) v l := World.ownsRow.alloc h o
theorem OwnE.lt (h : OwnE t enc base w v l) : ∀ k, v.ownBlock = some k → base ≤ k ∧ k < w.heap.size := World.ownsRow.lt h
theorem OwnE.nil (t : TypeId) (enc : α → Value) (base : Nat) (w : World) : OwnE t enc base w (.slice none 0 0) [] := World.ownsRow_nil _ _ _ _
theorem OwnE.form (h : OwnE t enc base w v l) : ∃ A c, v = .slice A l.length c := by
  rcases h.2 with ⟨rfl, hn⟩ | ⟨g, cap, cur, rfl, _⟩
  · exact ⟨none, 0, by rw [hn]⟩
  · exact ⟨_, _, rfl⟩
theorem OwnE.len (h : OwnE t enc base w (.slice (some ⟨g, 0, none⟩) n cap) l) : n = l.length := by
  obtain ⟨A, c, e⟩ := h.form
  cases e; rfl
theorem OwnE.cell (h : OwnE t enc base w (.slice (some ⟨g, 0, none⟩) n cap) l) (d : α) {q : Nat} (hq : q < l.length) : w.cell? ⟨g, q, none⟩ = some (enc (l.getD q d)) := by
  have e := h.len
  subst e
  have ho : w.ownsRow base t 1 (.slice (some ⟨g, 0, none⟩) l.length cap) l.length (l.map enc) := h
  rw [ho.cellAt q (by omega), List.getElem?_map, List.getElem?_eq_getElem hq]
  simp [List.getD, List.getElem?_eq_getElem hq]
theorem OwnE.frz (h : OwnE t enc base w (.slice (some ⟨g, 0, none⟩) n cap) l) (q : Nat) : w.frozen? ⟨g, q, none⟩ = false := by
  have e := h.len
  subst e
  have ho : w.ownsRow base t 1 (.slice (some ⟨g, 0, none⟩) l.length cap) l.length (l.map enc) := h
  exact ho.frozenAt q
theorem OwnE.set_ (h : OwnE t enc base w (.slice (some ⟨g, 0, none⟩) n cap) l) (q : Nat) (x : α) : OwnE t enc base (w.setCell ⟨g, q, none⟩ (enc x)) (.slice (some ⟨g, 0, none⟩) n cap) (l.set q x) := by
  have e := h.len
  subst e
  have ho : w.ownsRow base t 1 (.slice (some ⟨g, 0, none⟩) l.length cap) l.length (l.map enc) := h
  have := (ho.stored q (enc x)).1
  unfold OwnE
  rw [List.length_set, List.map_set]
  exact this
/-- What belongs to a row of another type is left alone. -/
theorem OwnE.other (h : OwnE t enc base w v l) {b2 s2 n2 : Nat} {t2 : TypeId} {u : Value} {xs : List Value} (h2 : w.ownsRow b2 t2 s2 u n2 xs) (hne : t ≠ t2) (hg : w.grownBy w' u.ownBlock) : OwnE t enc base w' v l := by
  refine World.ownsRow.kept h hg ?_
  rcases h.2 with ⟨rfl, hn⟩ | ⟨g, cap, cur, rfl, _, hh, _⟩
  · exact .inl rfl
  · right
    rcases h2.2 with ⟨rfl, _⟩ | ⟨g2, cap2, cur2, rfl, _, hh2, _⟩
    · exact fun e => by cases e
    · intro e
      have e' : g = g2 := by injection e
      subst e'
      rw [hh] at hh2
      injection hh2 with hh2
      injection hh2 with _ hh2 _
      exact hne hh2
end

theorem RS.get {w : World} {v : Value} {n : Nat} {xs : List Value} (h : RS w 1 v n xs) : ∃ A c, v = .slice A n c ∧ n ≤ c ∧ n ≤ maxLen ∧ (0 < n → ∃ b off, A = some ⟨b, off, none⟩ ∧ b < w.heap.size ∧ ∀ k, k < n → w.cell? ⟨b, off + k, none⟩ = some (xs.getD k undef)) := by
  obtain ⟨h0, A, c, h1, h2, h3, h4⟩ := h
  refine ⟨A, c, h1, h2, h3, fun hn => ?_⟩
  obtain ⟨b, off, e1, e2, e3⟩ := h4 hn
  refine ⟨b, off, e1, e2, fun k hk => e3 k _ ?_⟩
  rw [List.getD, List.getElem?_eq_getElem (by omega)]
  rfl

/-- Rows of ints, in memory that the call itself has made. -/
def OwnF (base : Nat) (w : World) (v : Value) (F : List (List Nat)) : Prop := ∃ vs : List Value, vs.length = F.length ∧ w.ownsRow base 28 1 v F.length vs ∧ ∀ k, k < F.length → OwnI base w (vs.getD k undef) (natI (F.getD k []))

/-- v reads as rows of ints. -/
def RF (w : World) (v : Value) (F : List (List Nat)) : Prop := ∃ vs : List Value, RS w 1 v F.length vs ∧ ∀ k, k < F.length → RI w (vs.getD k undef) (natI (F.getD k []))

def RetF (F : List (List Nat)) (w : World) (e : Ending) (w' : World) : Prop := ∃ v, e = .returned v ∧ OwnF w.heap.size w' v F ∧ Below w.heap.size w w'

section
variable {base : Nat} {w w' : World} {v : Value} {F : List (List Nat)}
theorem OwnF.nil (base : Nat) (w : World) : OwnF base w (.slice none 0 0) [] := ⟨[], rfl, World.ownsRow_nil _ _ _ _, fun k hk => absurd hk (by simp)⟩
theorem OwnF.kept (h : OwnF base w v F) (hb : Below w.heap.size w w') : OwnF base w' v F := by
  obtain ⟨vs, h1, h2, h3⟩ := h
  exact ⟨vs, h1, own_kept h2 hb, fun k hk => (h3 k hk).kept hb⟩
theorem OwnF.alloc (h : OwnF base w v F) (o : Obj) : OwnF base (w.alloc o) v F := h.kept ((Below.refl _ _).alloc (Nat.le_refl _) _)
theorem OwnF.far {row : Option Nat} (h : OwnF base w v F) (hg : w.grownBy w' row) (hr : ∀ k, row = some k → k < base) : OwnF base w' v F := by
  obtain ⟨vs, h1, h2, h3⟩ := h
  refine ⟨vs, h1, ?_, fun k hk => (h3 k hk).far hg hr⟩
  refine World.ownsRow.kept h2 hg ?_
  cases hv : v.ownBlock with
  | none => exact .inl rfl
  | some k =>
    right
    rintro rfl
    have := hr k rfl
    have := (World.ownsRow.lt h2 k hv).1
    omega
theorem OwnF.mono {base' : Nat} (h : OwnF base w v F) (hb : base' ≤ base) : OwnF base' w v F := by
  obtain ⟨vs, h1, h2, h3⟩ := h
  refine ⟨vs, h1, ?_, fun k hk => (h3 k hk).mono hb⟩
  obtain ⟨h4, h5⟩ := h2
  refine ⟨h4, ?_⟩
  rcases h5 with h5 | ⟨g, cap, cur, e1, e2, e3⟩
  · exact .inl h5
  · exact .inr ⟨g, cap, cur, e1, Nat.le_trans hb e2, e3⟩
theorem OwnF.form (h : OwnF base w v F) : ∃ A c, v = .slice A F.length c := by
  obtain ⟨vs, h1, h2, h3⟩ := h
  rcases h2.2 with ⟨rfl, hn⟩ | ⟨g, cap, cur, rfl, _⟩
  · exact ⟨none, 0, by rw [hn]⟩
  · exact ⟨_, _, rfl⟩
theorem OwnF.reads (h : OwnF base w v F) : RF w v F := by
  obtain ⟨vs, h1, h2, h3⟩ := h
  exact ⟨vs, own_reads h2, fun k hk => (h3 k hk).reads⟩
theorem OwnF.lt (h : OwnF base w v F) : ∀ k, v.ownBlock = some k → base ≤ k ∧ k < w.heap.size := by
  obtain ⟨vs, h1, h2, h3⟩ := h
  exact World.ownsRow.lt h2
theorem RF.below (h : RF w v F) (hb : Below w.heap.size w w') : RF w' v F := by
  obtain ⟨vs, h1, h2⟩ := h
  exact ⟨vs, RS.below h1 hb, fun k hk => (h2 k hk).below hb⟩
end

theorem ty_ne : 3 ≠ 28 := by decide

/-- A row put behind the others. -/
theorem OwnF.snoc {base n : Nat} {w w' : World} {v v' u : Value} {vs : List Value} {F : List (List Nat)} {f : List Nat} (hv : vs.length = F.length) (h2 : w.ownsRow base 28 1 v n vs) (h3 : ∀ k, k < F.length → OwnI base w (vs.getD k undef) (natI (F.getD k [])))
    (hu : OwnI base w u (natI f)) (hg : w.grownBy w' v.ownBlock) (hw : w'.ownsRow base 28 1 v' (n + 1) (vs ++ [u])) : OwnF base w' v' (F ++ [f]) := by
  have hn : n = F.length := by have := h2.1; omega
  subst hn
  have kp : ∀ x zs, OwnI base w x zs → OwnI base w' x zs := fun x zs hx => OwnE.other (t := 3) (enc := vI) hx h2 ty_ne hg
  refine ⟨vs ++ [u], by simp [hv], by simpa using hw, fun k hk => ?_⟩
  rw [List.length_append, List.length_singleton] at hk
  by_cases he : k = F.length
  · subst he
    rw [List.getD, List.getElem?_append_right (by omega), hv, Nat.sub_self, List.getD, List.getElem?_append_right (Nat.le_refl _), Nat.sub_self]
    exact kp _ _ hu
  · have hlt : k < F.length := by omega
    have e1 : (vs ++ [u]).getD k undef = vs.getD k undef := by rw [List.getD, List.getD, List.getElem?_append_left (by omega)]
    have e2 : (F ++ [f]).getD k [] = F.getD k [] := by rw [List.getD, List.getD, List.getElem?_append_left hlt]
    rw [e1, e2]
    exact kp _ _ (h3 k hlt)

theorem infoRow : (Tryz.prog.info? 28).map (fun i => (i.zero, i.size, i.bytes)) = some (some (.slice none 0 0), 1, 24) := by kernel_rfl

/-- append(rows, row). -/
theorem wpList_append_row {w : World} {ops : Array Oper} {rest : List Oper} {o : Oper} {a : Act} {Q : Exit → Act → World → Prop} (hgd : o.guard = none) (s x : Operand)
    (ho : o.op = .call { callee := .builtin .append, args := #[s, x], argTypes := #[57, 57] })
    (base : Nat) (v u : Value) (F : List (List Nat)) (f : List Nat) (hs : a.eval s = v) (g : Nat) (hx : a.eval x = .slice (some ⟨g, 0, none⟩) 1 1) (hg : w.cell? ⟨g, 0, none⟩ = some u)
    (hown : OwnF base w v F) (hu : OwnI base w u (natI f)) (hlen : F.length ≤ 1048576) (hbase : base ≤ w.heap.size)
    (h : ∀ v' w', OwnF base w' v' (F ++ [f]) → w.grownBy w' v.ownBlock → wpList Tryz.prog ops Q rest (a.put o.dst v') w') : wpList Tryz.prog ops Q (o :: rest) a w := by
  obtain ⟨i, hi, hz, hsize, hby⟩ := info_parts infoRow
  obtain ⟨vs, h1, h2, h3⟩ := hown
  exact wpList_append_own w hgd s x 57 ho base 28 i (.slice none 0 0) 1 24 Tryz.underlying57 hi hz hsize hby rfl (by decide) v F.length _ hs h2 ⟨g, 0, none⟩ 1 1 [u] hx rfl
    (fun j y hj => by
      match j, hj with
      | 0, hj => cases hj; exact hg
      | j + 1, hj => simp at hj)
    (by
      intro y hy
      simp at hy
      subst hy
      obtain ⟨A, c, rfl⟩ := hu.form
      rfl) (by unfold maxLen; omega) (by omega) hbase fun v' w' e1 e2 _ => h v' w' (OwnF.snoc h1 h2 h3 hu e2 e1) e2

/-- The darts that are in faces, and in the first j of one more. -/
def mkS (n : Nat) (F : List (List Nat)) (f : List Nat) (j : Nat) : List Bool := (List.range n).map fun e => seenB F e || (f.take j).contains e
theorem mkS_len (n : Nat) (F : List (List Nat)) (f : List Nat) (j : Nat) : (mkS n F f j).length = n := by simp [mkS]
theorem mkS_zero (n : Nat) (F : List (List Nat)) (f : List Nat) : mkS n F f 0 = (List.range n).map (seenB F) := by simp [mkS]
theorem mkS_start (n : Nat) : (List.range n).map (seenB []) = List.replicate n false := by
  apply List.ext_getElem?
  intro j
  by_cases hj : j < n
  · simp [List.getElem?_map, hj, seenB, List.getElem?_replicate]
  · simp [hj, List.getElem?_replicate]
theorem mkS_all (n : Nat) (F : List (List Nat)) (f : List Nat) : mkS n F f f.length = (List.range n).map (seenB (F ++ [f])) := by
  unfold mkS seenB
  rw [List.take_length]
  simp
theorem mkS_succ (n : Nat) (F : List (List Nat)) (f : List Nat) (j : Nat) (hj : j < f.length) : mkS n F f (j + 1) = (mkS n F f j).set (f.getD j 0) true := by
  have e : f.getD j 0 = f[j] := by simp [List.getD, hj]
  rw [e]
  apply List.ext_getElem?
  intro i
  rw [List.getElem?_set, mkS_len]
  unfold mkS
  by_cases hi : i < n
  · rw [List.getElem?_map, List.getElem?_map, List.getElem?_range hi, Option.map_some, Option.map_some, List.take_succ_eq_append_getElem hj, List.contains_append]
    by_cases he : f[j] = i
    · rw [if_pos he, if_pos (by omega), he]; simp
    · rw [if_neg he]
      have : ([f[j]] : List Nat).contains i = false := by simp; omega
      rw [this, Bool.or_false]
  · have h1 : (List.range n)[i]? = none := by simp; omega
    rw [List.getElem?_map, List.getElem?_map, h1]
    by_cases he : f[j] = i
    · rw [if_pos he, if_neg (by omega)]; rfl
    · rw [if_neg he]; rfl
theorem mkS_get {n : Nat} {F : List (List Nat)} {d : Nat} (h : d < n) : ((List.range n).map (seenB F)).getD d false = seenB F d := by simp [List.getD, h]

theorem madeB (n : Nat) : (madeCells #[.bool false] n).toList = (List.replicate n false).map Value.bool := by
  apply List.ext_getElem?
  intro j
  by_cases hj : j < n
  · simp only [madeCells, Array.toList_map, List.getElem?_map, Array.toList_range, List.getElem?_range hj, List.getElem?_replicate, if_pos hj, Option.map_some]
    congr 1
    show #[Value.bool false][j % 1]! = _
    rw [Nat.mod_one]; rfl
  · simp [madeCells, hj]

theorem infoBool : (Tryz.prog.info? 4).map (fun i => (i.zero, i.size, i.bytes)) = some (some (.bool false), 1, 1) := by kernel_rfl

/-- The faces of a window that is whole, or none. -/
noncomputable def facesW (ns ls : List Pr) : List (List Nat) := if wholeB ns ls then facesD ns ls else []

end Go.Proofs.YtognjdappchpkaaGreat

namespace Go.Proofs.YtognjdappchpkaaGreat
open Go.RowKit

theorem iWhole_at (vn vl : Value) (ns ls : List Pr) (b : Bool) (w : World) (hn : RP w vn ns) (hl : RP w vl ls) (hb : wholeB ns ls = b) :
    Calls Tryz.prog 39 #[.agg #[vn, vl]] w fun e w' => e = .returned (.bool b) ∧ Below w.heap.size w w' := by
  subst hb; exact iWhole_any vn vl ns ls w hn hl

theorem cell_new1 {W : World} {v : Value} {t : TypeId} {g : Nat} (hg : g = W.heap.size) : (W.alloc (.cells #[v] t)).cell? ⟨g, 0, none⟩ = some v := (Blk.newAt hg).cell 0

theorem ty_nb : 3 ≠ 4 := by decide

theorem OwnF.made {base g : Nat} {w : World} (hg : g = w.heap.size) (hb : base ≤ w.heap.size) : OwnF base (w.alloc (.cells #[] 28)) (.slice (some ⟨g, 0, none⟩) 0 0) [] := by
  subst hg
  exact ⟨[], rfl, World.ownsRow_made _ _ _ hb (by simp [maxLen]) (by simp), fun k hk => absurd hk (by simp)⟩

theorem OwnF.grownNone {base : Nat} {w w' : World} {v : Value} {F : List (List Nat)} (h : OwnF base w v F) (hg : w.grownBy w' none) : OwnF base w' v F :=
  h.far hg (fun k hk => by cases hk)

/-- Bools are no rows of ints. -/
theorem OwnF.offType {base b2 : Nat} {w w' : World} {v u : Value} {F : List (List Nat)} {l : List Bool} (h : OwnF base w v F) (hs : OwnE 4 Value.bool b2 w u l) (hg : w.grownBy w' u.ownBlock) : OwnF base w' v F := by
  obtain ⟨vs, h1, h2, h3⟩ := h
  have h2' : OwnE 28 (fun x : Value => x) base w v vs := by
    unfold OwnE
    rw [List.map_id', h1]; exact h2
  refine ⟨vs, h1, ?_, fun k hk => OwnE.other (t := 3) (enc := vI) (h3 k hk) hs ty_nb hg⟩
  have := OwnE.other h2' hs (by decide) hg
  unfold OwnE at this
  rw [List.map_id', h1] at this
  exact this

set_option maxHeartbeats 8000000 in
set_option maxRecDepth 100000 in
theorem iFaces_any (vn vl : Value) (ns ls : List Pr) (w : World) (hn : RP w vn ns) (hl : RP w vl ls) :
    Calls Tryz.prog 41 #[.agg #[vn, vl]] w (RetF (facesW ns ls) w) := by
  obtain ⟨An, cn, rfl, hcn, hmn, _⟩ := hn.formI
  obtain ⟨Al, cl, rfl, hcl, hml, _⟩ := hl.formI
  unfold maxLen at hmn hml
  have hb0 : Below w.heap.size w (w.alloc (.cells #[.slice An ns.length cn, .slice Al ls.length cl] 34)) := by (repeat' (first | (with_reducible exact Below.refl _ _) | (with_reducible assumption) | (with_reducible refine Below.drew ?_) | (with_reducible refine below_drewN ?_ _) | (with_reducible refine Below.alloc ?_ ?_ _) | (with_reducible refine Below.setCell ?_ ?_ _) | (with_reducible refine Below.step (by assumption) ?_ ?_))); all_goals (first | omega | (simp; done) | (simp; omega))
  have hW0 : Blk (w.alloc (.cells #[.slice An ns.length cn, .slice Al ls.length cl] 34)) w.heap.size 34 #[.slice An ns.length cn, .slice Al ls.length cl] := Blk.newAt rfl
  cases hw : wholeB ns ls
  · have HR : Hid (facesW ns ls = []) := Lib.hid (by simp [facesW, hw])
    go_enter Tryz.func41, Tryz.ntmps41
    go_wp2_with fail
    refine (iWhole_at _ _ ns ls _ _ (hn.below hb0) (hl.below hb0) hw).mono ?_
    rintro e w1 ⟨rfl, hb1⟩
    have hbw1 := hb0.trans (hb1.mono hb0.size)
    go_wp2
    go_ret
    exact ⟨_, rfl, by rw [HR.out]; exact OwnF.nil _ _, hbw1⟩
  · have HR : Hid (facesW ns ls = facesK ns ls (2 * ls.length)) := Lib.hid (by simp [facesW, hw]; rfl)
    have hwin := (whole_win hw).1
    have hpos := (whole_win hw).2
    have hm20 := hwin.2.2.1
    have hld : ∀ j : Nat, j < ls.length → leadB ns (ndI ls j) = true := fun j hj => (hwin.2.2.2.2.2 j hj).1
    obtain ⟨i0, hi, iz0, iz1, iz2⟩ := info_parts infoBool
    have HWK := Lib.hid (fun (v : World) (d : Nat) (hv : Below w.heap.size w v) (hd : d < 2 * ls.length) => iWalk_any (.slice An ns.length cn) (.slice Al ls.length cl) ns ls d v (hn.below hv) (hl.below hv) hd hwin)
    have HBD := Lib.hid (fun d hd => walk_bd (ns := ns) hld (d := d) hd)
    have HWL := Lib.hid (fun d hd => walk_len (ns := ns) hld (d := d) hd)
    have HFL := Lib.hid (facesK_len ns ls)
    have HFY := Lib.hid (fun m h => facesK_yes (ns := ns) (ls := ls) (m := m) h)
    have HFN := Lib.hid (fun m h => facesK_no (ns := ns) (ls := ls) (m := m) h)
    have HF0 : Hid (facesK ns ls 0 = []) := Lib.hid rfl
    have e2 : 2 * (ls.length : Int) = ((2 * ls.length : Nat) : Int) := by omega
    clear hwin hld
    go_enter Tryz.func41, Tryz.ntmps41
    go_wp2_with fail
    refine (iWhole_at _ _ ns ls _ _ (hn.below hb0) (hl.below hb0) hw).mono ?_
    rintro e w1 ⟨rfl, hb1⟩
    have hbw1 := hb0.trans (hb1.mono hb0.size)
    have hW1 := hW0.below hb1 hW0.lt
    have hz1 := hW1.lt
    clear hb1 hb0 hW0 hw
    (have a_0 := hW1.cell 0); (have a_1 := hW1.cell 1); simp only [List.getElem?_toArray, List.getElem?_cons_succ, List.getElem?_cons_zero] at a_0 a_1
    generalize hNN : 2 * ls.length = N at *
    have hN40 : N ≤ 40 := by omega
    go_wp2_with (at_make; refine wpList_make_full _ rfl _ _ 82 rfl (w.heap.size + 1) 4 i0 (.bool false) 1 Tryz.underlying82 hi iz0 iz1 .i64 .i64 _ _ N rfl rfl rfl rfl (by rw [iz2]; omega) (by unfold maxLen; omega) (by omega) ?_)
    intro w2 hown1 hgr1
    have hb2 : Below w.heap.size w w2 := hbw1.grown hgr1 hbw1.size (by intro k hk; cases hk)
    have hW2 : Blk w2 w.heap.size 34 #[.slice An ns.length cn, .slice Al ls.length cl] := (hgr1.block _ hz1 (fun e => by cases e)).trans hW1
    have hz2 := hgr1.size
    have hsn : OwnE 4 Value.bool (w.heap.size + 1) w2 (.slice (some ⟨w1.heap.size, 0, none⟩) N N) ((List.range N).map (seenB (facesK ns ls 0))) := by
      unfold OwnE
      rw [HF0.out, mkS_start, List.length_replicate]
      rw [← madeB]; exact hown1
    have hgsz := (hsn.lt _ rfl).2
    have hO0 : OwnF (w1.heap.size + 1) w2 (.slice none 0 0) [] := OwnF.nil _ _
    have hgg := hz1
    generalize w1.heap.size = gs at *
    clear hown1 hgr1 hbw1 hW1 a_0 a_1 hz1 hz2
    (have a_0 := hW2.cell 0); (have a_1 := hW2.cell 1); simp only [List.getElem?_toArray, List.getElem?_cons_succ, List.getElem?_cons_zero] at a_0 a_1
    go_wp2
    go_loopw [4, 19] (fun v x wr => ∃ d : Nat, d ≤ N ∧ x = .int .i64 d ∧ OwnF (gs + 1) wr v (facesK ns ls d) ∧ OwnE 4 Value.bool (w.heap.size + 1) wr (.slice (some ⟨gs, 0, none⟩) N N) ((List.range N).map (seenB (facesK ns ls d))) ∧ Blk wr w.heap.size 34 #[.slice An ns.length cn, .slice Al ls.length cl] ∧ Below w.heap.size w wr) (fun _ x _ => N - (intOf x).toNat)
    case atStart => exact ⟨0, Nat.zero_le _, rfl, by rw [HF0.out]; exact hO0, hsn, hW2, hb2⟩
    case round =>
      clear hsn hW2 hb2 a_0 a_1
      obtain ⟨d, hd, rfl, ho, hsn, hW, hbl⟩ := hrel
      have hsz := hW.lt
      have hgz : gs < wr.heap.size := (hsn.lt gs rfl).2
      by_cases hlt : d < N
      · have hlt1 : (d : Int) < (N : Int) := by omega
        have hx := hsn.cell false (q := d) (by simpa using hlt)
        rw [mkS_get hlt] at hx
        have HY := Lib.hid (HFY.out d)
        have HNo := Lib.hid (HFN.out d)
        have hfl := HFL.out d
        generalize facesK ns ls d = F at *
        (have a_0 := hW.cell 0); (have a_1 := hW.cell 1); simp only [List.getElem?_toArray, List.getElem?_cons_succ, List.getElem?_cons_zero] at a_0 a_1
        cases hs : seenB F d
        · rw [hs] at hx
          have HS := Lib.hid (HNo.out hs)
          clear hs
          go_wp2_with fail
          refine (HWK.out _ d hbl hlt).mono ?_
          rintro e w3 ⟨v3, rfl, ho3, hb3⟩
          have hF3 := ho.kept hb3
          have hS3 := hsn.kept hb3
          have hW3 := hW.below hb3 hsz
          have hbl3 := hbl.trans (hb3.mono hbl.size)
          have hI3 : OwnI (gs + 1) w3 v3 (natI (walkD ns ls d)) := ho3.mono (by omega)
          have HB := Lib.hid (HBD.out d hlt)
          have hwl := HWL.out d hlt
          generalize walkD ns ls d = f at *
          obtain ⟨A3, c3, rfl⟩ := hI3.form
          rw [natI_length] at hI3 ⊢
          rw [← mkS_zero N F f] at hS3
          clear hb3 ho3 ho hsn hW hbl a_0 a_1 hx hsz
          go_wp2
          go_loopw [31] (fun x wr => ∃ j : Nat, j ≤ f.length ∧ x = .int .i64 j ∧ OwnF (gs + 1) wr u4 F ∧ OwnE 4 Value.bool (w.heap.size + 1) wr (.slice (some ⟨gs, 0, none⟩) N N) (mkS N F f j) ∧ OwnI (gs + 1) wr (.slice A3 f.length c3) (natI f) ∧ Blk wr w.heap.size 34 #[.slice An ns.length cn, .slice Al ls.length cl] ∧ Below w.heap.size w wr) (fun x _ => f.length - (intOf x).toNat)
          case atStart => exact ⟨0, Nat.zero_le _, rfl, hF3, hS3, hI3, hW3, hbl3⟩
          case round =>
            clear hF3 hS3 hI3 hW3 hbl3
            obtain ⟨j, hj, rfl, ho, hsn, hI, hW, hbl⟩ := hrel
            have hsz := hW.lt
            by_cases hjl : j < f.length
            · have hjl1 : (j : Int) < (f.length : Int) := by omega
              have ij1 : (0 : Int) ≤ (j : Int) := by omega
              obtain ⟨A4, c4, he4, hc4, hm4, hcell4⟩ := hI.reads.form
              rw [natI_length] at he4
              cases he4
              rw [natI_length] at hcell4
              obtain ⟨b4, off4, rfl, hb4, hcl4⟩ := hcell4 (by omega)
              have hx := hcl4 j hjl
              rw [natI_get] at hx
              have hem : f.getD j 0 < N := HB.out _ (by rw [List.getD, List.getElem?_eq_getElem hjl]; exact List.getElem_mem hjl)
              have HS1 := Lib.hid (mkS_succ N F f j hjl)
              generalize f.getD j 0 = x at *
              have ix1 : (0 : Int) ≤ (x : Int) := by omega
              have ix2 : (x : Int) < (N : Int) := by omega
              have hxs := hsn.cell false (q := x) (by rw [mkS_len]; exact hem)
              obtain ⟨z, hz⟩ : ∃ z, wr.cell? ⟨gs, x, none⟩ = some z := ⟨_, hxs⟩
              have fx := hsn.frz x
              have HSN : Hid (OwnE 4 Value.bool (w.heap.size + 1) (wr.setCell ⟨gs, x, none⟩ (.bool true)) (.slice (some ⟨gs, 0, none⟩) N N) (mkS N F f (j + 1))) := Lib.hid (by rw [HS1.out]; exact hsn.set_ x true)
              have hgw : wr.grownBy (wr.setCell ⟨gs, x, none⟩ (.bool true)) (some gs) := grown_set (grown_refl _ _) x _
              have HOF := Lib.hid (ho.far hgw (fun k hk => by cases hk; omega))
              have HIF := Lib.hid (hI.far hgw (fun k hk => by cases hk; omega))
              have HWF := Lib.hid (hW.far (p := ⟨gs, x, none⟩) (show ¬ w.heap.size = gs by omega) (.bool true))
              have HBF := Lib.hid (hbl.setCell (p := ⟨gs, x, none⟩) (show w.heap.size ≤ gs by omega) (.bool true))
              clear ho hsn hI hW hbl hxs hgw hcl4 hcell4
              go_wp2
              go_roundw
              case rel => exact ⟨j + 1, by omega, by go_num, HOF.out, HSN.out, HIF.out, HWF.out, HBF.out⟩
              case measure => simp [intOf]; omega
            · have hjj : j = f.length := by omega
              subst hjj
              have HSN : Hid (OwnE 4 Value.bool (w.heap.size + 1) wr (.slice (some ⟨gs, 0, none⟩) N N) ((List.range N).map (seenB (F ++ [f])))) := Lib.hid (by rw [← mkS_all]; exact hsn)
              have hgz4 : gs < wr.heap.size := (hsn.lt gs rfl).2
              clear hsn
              go_wp2_with (at_builtin; refine wpList_append_row rfl _ _ rfl (gs + 1) _ (.slice A3 f.length c3) F f rfl wr.heap.size rfl (cell_new1 (by simp)) (ho.alloc _) (hI.alloc _) (by omega) (by simp; omega) ?_)
              intro v4 w4 hF4 hg4
              have hrb : ∀ k, (u4 : Value).ownBlock = some k → gs + 1 ≤ k ∧ k < wr.heap.size := fun k hk => ho.lt k hk
              have hbl4 : Below w.heap.size w w4 := (hbl.alloc hbl.size (.cells #[.slice A3 f.length c3] 28)).grown hg4 (by simp; have := hbl.size; omega) (fun k hk => by have := (hrb k hk).1; omega)
              have hW4 : Blk w4 w.heap.size 34 #[.slice An ns.length cn, .slice Al ls.length cl] := (hg4.block _ (by simp; omega) (fun e => by have := (hrb _ e.symm).1; omega)).trans (hW.alloc _)
              have hS4 : OwnE 4 Value.bool (w.heap.size + 1) w4 (.slice (some ⟨gs, 0, none⟩) N N) ((List.range N).map (seenB (F ++ [f]))) := by
                obtain ⟨vs, g1, g2, g3⟩ := ho.alloc (.cells #[.slice A3 f.length c3] 28)
                exact OwnE.other (HSN.out.alloc _) g2 (by decide) hg4
              clear ho hI hW hbl hg4 hrb
              go_wp2
              go_roundw
              case rel => exact ⟨d + 1, by omega, by go_num, by rw [HS.out]; exact hF4, by rw [HS.out]; exact hS4, hW4, hbl4⟩
              case measure => simp [intOf]; omega
        · rw [hs] at hx
          have HS := Lib.hid (HY.out hs)
          clear hs
          go_wp2
          go_roundw
          case rel => exact ⟨d + 1, by omega, by go_num, by rw [HS.out]; exact ho, by rw [HS.out]; exact hsn, hW, hbl⟩
          case measure => simp [intOf]; omega
      · have hdd : d = N := by omega
        subst hdd
        have HN := Lib.hid hNN
        go_wp2
        go_ret
        exact ⟨_, rfl, by rw [HR.out]; exact ho.mono (by omega), hbl⟩

set_option maxHeartbeats 8000000 in
set_option maxRecDepth 100000 in
theorem sFaces_any (vn vl : Value) (ns ls : List Pr) (w : World) (hn : RP w vn ns) (hl : RP w vl ls) :
    Calls Tryz.prog 31 #[.agg #[vn, vl]] w (RetF (facesW ns ls) w) := by
  obtain ⟨An, cn, rfl, hcn, hmn, _⟩ := hn.formI
  obtain ⟨Al, cl, rfl, hcl, hml, _⟩ := hl.formI
  unfold maxLen at hmn hml
  have hb0 : Below w.heap.size w ((w.alloc (.cells #[.slice An ns.length cn, .slice Al ls.length cl] 34)).alloc (.cells #[] 28)) := by (repeat' (first | (with_reducible exact Below.refl _ _) | (with_reducible assumption) | (with_reducible refine Below.drew ?_) | (with_reducible refine below_drewN ?_ _) | (with_reducible refine Below.alloc ?_ ?_ _) | (with_reducible refine Below.setCell ?_ ?_ _) | (with_reducible refine Below.step (by assumption) ?_ ?_))); all_goals (first | omega | (simp; done) | (simp; omega))
  have hW0 : Blk ((w.alloc (.cells #[.slice An ns.length cn, .slice Al ls.length cl] 34)).alloc (.cells #[] 28)) w.heap.size 34 #[.slice An ns.length cn, .slice Al ls.length cl] := (Blk.newAt rfl).alloc _
  have hOz : OwnF (w.heap.size + 1) ((w.alloc (.cells #[.slice An ns.length cn, .slice Al ls.length cl] 34)).alloc (.cells #[] 28)) (.slice (some ⟨w.heap.size + 1, 0, none⟩) 0 0) [] := OwnF.made (by simp) (by simp)
  cases hw : wholeB ns ls
  · have HR : Hid (facesW ns ls = []) := Lib.hid (by simp [facesW, hw])
    go_enter Tryz.func31, Tryz.ntmps31
    go_wp2_with fail
    refine (sWhole_at _ _ ns ls _ _ (hn.below hb0) (hl.below hb0) hw).mono ?_
    rintro e w1 ⟨rfl, hb1⟩
    have hbw1 := hb0.trans (hb1.mono hb0.size)
    have hOz1 := hOz.kept hb1
    go_wp2
    go_ret
    exact ⟨_, rfl, by rw [HR.out]; exact hOz1.mono (by omega), hbw1⟩
  · have HR : Hid (facesW ns ls = facesK ns ls (2 * ls.length)) := Lib.hid (by simp [facesW, hw]; rfl)
    have hwin := (whole_win hw).1
    have hpos := (whole_win hw).2
    have hm20 := hwin.2.2.1
    have hld : ∀ j : Nat, j < ls.length → leadB ns (ndI ls j) = true := fun j hj => (hwin.2.2.2.2.2 j hj).1
    obtain ⟨i0, hi, iz0, iz1, iz2⟩ := info_parts infoBool
    have HWK := Lib.hid (fun (v : World) (d : Nat) (hv : Below w.heap.size w v) (hd : d < 2 * ls.length) => sWalk_any (.slice An ns.length cn) (.slice Al ls.length cl) ns ls d v (hn.below hv) (hl.below hv) hd hwin)
    have HBD := Lib.hid (fun d hd => walk_bd (ns := ns) hld (d := d) hd)
    have HWL := Lib.hid (fun d hd => walk_len (ns := ns) hld (d := d) hd)
    have HFL := Lib.hid (facesK_len ns ls)
    have HFY := Lib.hid (fun m h => facesK_yes (ns := ns) (ls := ls) (m := m) h)
    have HFN := Lib.hid (fun m h => facesK_no (ns := ns) (ls := ls) (m := m) h)
    have HF0 : Hid (facesK ns ls 0 = []) := Lib.hid rfl
    have e2 : 2 * (ls.length : Int) = ((2 * ls.length : Nat) : Int) := by omega
    clear hwin hld
    go_enter Tryz.func31, Tryz.ntmps31
    go_wp2_with fail
    refine (sWhole_at _ _ ns ls _ _ (hn.below hb0) (hl.below hb0) hw).mono ?_
    rintro e w1 ⟨rfl, hb1⟩
    have hbw1 := hb0.trans (hb1.mono hb0.size)
    have hW1 := hW0.below hb1 hW0.lt
    have hOz1 := hOz.kept hb1
    have hz1 := hW1.lt
    clear hb1 hb0 hW0 hw
    (have a_0 := hW1.cell 0); (have a_1 := hW1.cell 1); simp only [List.getElem?_toArray, List.getElem?_cons_succ, List.getElem?_cons_zero] at a_0 a_1
    generalize hNN : 2 * ls.length = N at *
    have hN40 : N ≤ 40 := by omega
    go_wp2_with (at_make; refine wpList_make_full _ rfl _ _ 82 rfl (w.heap.size + 1) 4 i0 (.bool false) 1 Tryz.underlying82 hi iz0 iz1 .i64 .i64 _ _ N rfl rfl rfl rfl (by rw [iz2]; omega) (by unfold maxLen; omega) (by omega) ?_)
    intro w2 hown1 hgr1
    have hb2 : Below w.heap.size w w2 := hbw1.grown hgr1 hbw1.size (by intro k hk; cases hk)
    have hW2 : Blk w2 w.heap.size 34 #[.slice An ns.length cn, .slice Al ls.length cl] := (hgr1.block _ hz1 (fun e => by cases e)).trans hW1
    have hz2 := hgr1.size
    have hsn : OwnE 4 Value.bool (w.heap.size + 1) w2 (.slice (some ⟨w1.heap.size, 0, none⟩) N N) ((List.range N).map (seenB (facesK ns ls 0))) := by
      unfold OwnE
      rw [HF0.out, mkS_start, List.length_replicate]
      rw [← madeB]; exact hown1
    have hgsz := (hsn.lt _ rfl).2
    have hO0 : OwnF (w.heap.size + 1) w2 (.slice (some ⟨w.heap.size + 1, 0, none⟩) 0 0) [] := hOz1.grownNone hgr1
    clear hOz hOz1
    have hgg := hz1
    generalize w1.heap.size = gs at *
    clear hown1 hgr1 hbw1 hW1 a_0 a_1 hz1 hz2
    (have a_0 := hW2.cell 0); (have a_1 := hW2.cell 1); simp only [List.getElem?_toArray, List.getElem?_cons_succ, List.getElem?_cons_zero] at a_0 a_1
    go_wp2
    go_loopw [3, 5] (fun v x wr => ∃ d : Nat, d ≤ N ∧ x = .int .i64 d ∧ OwnF (w.heap.size + 1) wr v (facesK ns ls d) ∧ OwnE 4 Value.bool (w.heap.size + 1) wr (.slice (some ⟨gs, 0, none⟩) N N) ((List.range N).map (seenB (facesK ns ls d))) ∧ Blk wr w.heap.size 34 #[.slice An ns.length cn, .slice Al ls.length cl] ∧ Below w.heap.size w wr) (fun _ x _ => N - (intOf x).toNat)
    case atStart => exact ⟨0, Nat.zero_le _, rfl, by rw [HF0.out]; exact hO0, hsn, hW2, hb2⟩
    case round =>
      clear hsn hW2 hb2 a_0 a_1
      obtain ⟨d, hd, rfl, ho, hsn, hW, hbl⟩ := hrel
      have hsz := hW.lt
      have hgz : gs < wr.heap.size := (hsn.lt gs rfl).2
      by_cases hlt : d < N
      · have hlt1 : (d : Int) < (N : Int) := by omega
        have hx := hsn.cell false (q := d) (by simpa using hlt)
        rw [mkS_get hlt] at hx
        have HY := Lib.hid (HFY.out d)
        have HNo := Lib.hid (HFN.out d)
        have hfl := HFL.out d
        generalize facesK ns ls d = F at *
        (have a_0 := hW.cell 0); (have a_1 := hW.cell 1); simp only [List.getElem?_toArray, List.getElem?_cons_succ, List.getElem?_cons_zero] at a_0 a_1
        cases hs : seenB F d
        · rw [hs] at hx
          have HS := Lib.hid (HNo.out hs)
          clear hs
          go_wp2_with fail
          refine (HWK.out _ d hbl hlt).mono ?_
          rintro e w3 ⟨v3, rfl, ho3, hb3⟩
          have hF3 := ho.kept hb3
          have hS3 := hsn.kept hb3
          have hW3 := hW.below hb3 hsz
          have hbl3 := hbl.trans (hb3.mono hbl.size)
          have hI3 : OwnI (w.heap.size + 1) w3 v3 (natI (walkD ns ls d)) := ho3.mono (by omega)
          have HB := Lib.hid (HBD.out d hlt)
          have hwl := HWL.out d hlt
          generalize walkD ns ls d = f at *
          obtain ⟨A3, c3, rfl⟩ := hI3.form
          rw [natI_length] at hI3 ⊢
          rw [← mkS_zero N F f] at hS3
          clear hb3 ho3 ho hsn hW hbl a_0 a_1 hx hsz
          go_wp2
          go_loopw [7] (fun x wr => ∃ j : Nat, j ≤ f.length ∧ x = .int .i64 j ∧ OwnF (w.heap.size + 1) wr u3 F ∧ OwnE 4 Value.bool (w.heap.size + 1) wr (.slice (some ⟨gs, 0, none⟩) N N) (mkS N F f j) ∧ OwnI (w.heap.size + 1) wr (.slice A3 f.length c3) (natI f) ∧ Blk wr w.heap.size 34 #[.slice An ns.length cn, .slice Al ls.length cl] ∧ Below w.heap.size w wr) (fun x _ => f.length - (intOf x).toNat)
          case atStart => exact ⟨0, Nat.zero_le _, rfl, hF3, hS3, hI3, hW3, hbl3⟩
          case round =>
            clear hF3 hS3 hI3 hW3 hbl3
            obtain ⟨j, hj, rfl, ho, hsn, hI, hW, hbl⟩ := hrel
            have hsz := hW.lt
            by_cases hjl : j < f.length
            · have hjl1 : (j : Int) < (f.length : Int) := by omega
              have ij1 : (0 : Int) ≤ (j : Int) := by omega
              obtain ⟨A4, c4, he4, hc4, hm4, hcell4⟩ := hI.reads.form
              rw [natI_length] at he4
              cases he4
              rw [natI_length] at hcell4
              obtain ⟨b4, off4, rfl, hb4, hcl4⟩ := hcell4 (by omega)
              have hx := hcl4 j hjl
              rw [natI_get] at hx
              have hem : f.getD j 0 < N := HB.out _ (by rw [List.getD, List.getElem?_eq_getElem hjl]; exact List.getElem_mem hjl)
              have HS1 := Lib.hid (mkS_succ N F f j hjl)
              generalize f.getD j 0 = x at *
              have ix1 : (0 : Int) ≤ (x : Int) := by omega
              have ix2 : (x : Int) < (N : Int) := by omega
              have hxs := hsn.cell false (q := x) (by rw [mkS_len]; exact hem)
              obtain ⟨z, hz⟩ : ∃ z, wr.cell? ⟨gs, x, none⟩ = some z := ⟨_, hxs⟩
              have fx := hsn.frz x
              have HSN : Hid (OwnE 4 Value.bool (w.heap.size + 1) (wr.setCell ⟨gs, x, none⟩ (.bool true)) (.slice (some ⟨gs, 0, none⟩) N N) (mkS N F f (j + 1))) := Lib.hid (by rw [HS1.out]; exact hsn.set_ x true)
              have hgw : wr.grownBy (wr.setCell ⟨gs, x, none⟩ (.bool true)) (some gs) := grown_set (grown_refl _ _) x _
              have HOF := Lib.hid (ho.offType hsn hgw)
              have HIF := Lib.hid (OwnE.other (t := 3) (enc := vI) hI hsn ty_nb hgw)
              have HWF := Lib.hid (hW.far (p := ⟨gs, x, none⟩) (show ¬ w.heap.size = gs by omega) (.bool true))
              have HBF := Lib.hid (hbl.setCell (p := ⟨gs, x, none⟩) (show w.heap.size ≤ gs by omega) (.bool true))
              clear ho hsn hI hW hbl hxs hgw hcl4 hcell4
              go_wp2
              go_roundw
              case rel => exact ⟨j + 1, by omega, by go_num, HOF.out, HSN.out, HIF.out, HWF.out, HBF.out⟩
              case measure => simp [intOf]; omega
            · have hjj : j = f.length := by omega
              subst hjj
              have HSN : Hid (OwnE 4 Value.bool (w.heap.size + 1) wr (.slice (some ⟨gs, 0, none⟩) N N) ((List.range N).map (seenB (F ++ [f])))) := Lib.hid (by rw [← mkS_all]; exact hsn)
              have hgz4 : gs < wr.heap.size := (hsn.lt gs rfl).2
              clear hsn
              go_wp2_with (at_builtin; refine wpList_append_row rfl _ _ rfl (w.heap.size + 1) _ (.slice A3 f.length c3) F f rfl wr.heap.size rfl (cell_new1 (by simp)) (ho.alloc _) (hI.alloc _) (by omega) (by simp; omega) ?_)
              intro v4 w4 hF4 hg4
              have hrb : ∀ k, (u3 : Value).ownBlock = some k → w.heap.size + 1 ≤ k ∧ k < wr.heap.size := fun k hk => ho.lt k hk
              have hbl4 : Below w.heap.size w w4 := (hbl.alloc hbl.size (.cells #[.slice A3 f.length c3] 28)).grown hg4 (by simp; have := hbl.size; omega) (fun k hk => by have := (hrb k hk).1; omega)
              have hW4 : Blk w4 w.heap.size 34 #[.slice An ns.length cn, .slice Al ls.length cl] := (hg4.block _ (by simp; omega) (fun e => by have := (hrb _ e.symm).1; omega)).trans (hW.alloc _)
              have hS4 : OwnE 4 Value.bool (w.heap.size + 1) w4 (.slice (some ⟨gs, 0, none⟩) N N) ((List.range N).map (seenB (F ++ [f]))) := by
                obtain ⟨vs, g1, g2, g3⟩ := ho.alloc (.cells #[.slice A3 f.length c3] 28)
                exact OwnE.other (HSN.out.alloc _) g2 (by decide) hg4
              clear ho hI hW hbl hg4 hrb
              go_wp2
              go_roundw
              case rel => exact ⟨d + 1, by omega, by go_num, by rw [HS.out]; exact hF4, by rw [HS.out]; exact hS4, hW4, hbl4⟩
              case measure => simp [intOf]; omega
        · rw [hs] at hx
          have HS := Lib.hid (HY.out hs)
          clear hs
          go_wp2
          go_roundw
          case rel => exact ⟨d + 1, by omega, by go_num, by rw [HS.out]; exact ho, by rw [HS.out]; exact hsn, hW, hbl⟩
          case measure => simp [intOf]; omega
      · have hdd : d = N := by omega
        subst hdd
        have HN := Lib.hid hNN
        go_wp2
        go_ret
        exact ⟨_, rfl, by rw [HR.out]; exact ho.mono (by omega), hbl⟩

end Go.Proofs.YtognjdappchpkaaGreat

namespace Go.Proofs.YtognjdappchpkaaGreat
open Go.RowKit

/-- The greatest number whose square is at most n. -/
def rootN : Nat → Nat
  | 0 => 0
  | n + 1 => if (rootN n + 1) * (rootN n + 1) ≤ n + 1 then rootN n + 1 else rootN n

theorem rootN_spec : ∀ n, rootN n * rootN n ≤ n ∧ n < (rootN n + 1) * (rootN n + 1)
  | 0 => by simp [rootN]
  | n + 1 => by
    obtain ⟨h1, h2⟩ := rootN_spec n
    unfold rootN
    split
    · rename_i h
      refine ⟨h, ?_⟩
      generalize rootN n = r at *
      have e : (r + 1 + 1) * (r + 1 + 1) = (r + 1) * (r + 1) + 2 * (r + 1) + 1 := by
        rw [Nat.add_mul, Nat.mul_add, Nat.mul_one, Nat.one_mul]; omega
      omega
    · rename_i h
      exact ⟨by omega, by omega⟩

theorem rootN_eq {n k : Nat} (h1 : k * k ≤ n) (h2 : n < (k + 1) * (k + 1)) : rootN n = k := by
  obtain ⟨g1, g2⟩ := rootN_spec n
  apply Nat.le_antisymm
  · apply Nat.le_of_lt_succ
    apply Classical.byContradiction
    intro h
    have h' : k + 1 ≤ rootN n := by omega
    have := Nat.mul_le_mul h' h'
    omega
  · apply Nat.le_of_lt_succ
    apply Classical.byContradiction
    intro h
    have h' : rootN n + 1 ≤ k := by omega
    have := Nat.mul_le_mul h' h'
    omega

theorem rootN_le (n : Nat) : rootN n ≤ n := by
  obtain ⟨g1, _⟩ := rootN_spec n
  rcases Nat.eq_zero_or_pos (rootN n) with h | h
  · omega
  · have := Nat.le_mul_of_pos_left (rootN n) h
    omega

/-- The square of the length between two nodes, or -1. -/
def sqP (a b : Pr) : Int := if nodeP a && nodeP b then (a.1 - b.1) * (a.1 - b.1) + (a.2 - b.2) * (a.2 - b.2) else -1

theorem sqP_bd (a b : Pr) (ha : nodeP a = true) (hb : nodeP b = true) : ∃ n : Nat, sqP a b = n ∧ n ≤ 800 := by
  unfold sqP
  rw [ha, hb]
  unfold nodeP at ha hb
  obtain ⟨a0, a1, a2, a3⟩ := nodeB_bd ha
  obtain ⟨b0, b1, b2, b3⟩ := nodeB_bd hb
  have sq : ∀ x : Int, -20 ≤ x → x ≤ 20 → 0 ≤ x * x ∧ x * x ≤ 400 := by
    intro x h1 h2
    have e : x * x = ((x.natAbs * x.natAbs : Nat) : Int) := by rw [Int.natAbs_mul_self]
    have h3 : x.natAbs ≤ 20 := by omega
    have h4 := Nat.mul_le_mul h3 h3
    omega
  have s1 := sq (a.1 - b.1) (by omega) (by omega)
  have s2 := sq (a.2 - b.2) (by omega) (by omega)
  refine ⟨((a.1 - b.1) * (a.1 - b.1) + (a.2 - b.2) * (a.2 - b.2)).toNat, ?_, ?_⟩
  · simp only [Bool.and_self, if_true]; omega
  · omega

/-- The length of the first k leads. -/
def lenK (ns ls : List Pr) : Nat → Nat
  | 0 => 0
  | k + 1 => lenK ns ls k + rootN (sqP (ndI ns (ndI ls k).1) (ndI ns (ndI ls k).2)).toNat

theorem lenK_bd {ns ls : List Pr} (hld : ∀ j : Nat, j < ls.length → leadB ns (ndI ls j) = true) : ∀ k, k ≤ ls.length → lenK ns ls k ≤ 800 * k
  | 0, _ => by simp [lenK]
  | k + 1, h => by
    have ih := lenK_bd hld k (by omega)
    obtain ⟨_, _, _, h4, h5, _⟩ := leadB_iff.1 (hld k (by omega))
    obtain ⟨n, h6, h7⟩ := sqP_bd _ _ h4 h5
    have := rootN_le n
    unfold lenK
    rw [h6, Int.toNat_natCast]
    omega

/-- All leads of a valid window, or -1. -/
noncomputable def lenW (ns ls : List Pr) : Int := if winB ns ls then (lenK ns ls ls.length : Int) else -1

/-- A list ascends in a range: the first k. -/
def riseK (zs : List Int) (n : Int) (k : Nat) : Prop := ∀ j, j < k → (0 ≤ zs.getD j 0 ∧ zs.getD j 0 ≤ n) ∧ (0 < j → zs.getD (j - 1) 0 < zs.getD j 0)
noncomputable def riseB (zs : List Int) (n : Int) : Bool := @decide (riseK zs n zs.length) (Classical.propDecidable _)
theorem riseB_true {zs : List Int} {n : Int} : riseB zs n = true ↔ riseK zs n zs.length := by simp [riseB]
theorem riseB_false {zs : List Int} {n : Int} : riseB zs n = false ↔ ¬ riseK zs n zs.length := by simp [riseB]
theorem riseK_zero (zs : List Int) (n : Int) : riseK zs n 0 := fun j hj => absurd hj (by omega)
theorem riseK_succ {zs : List Int} {n : Int} {k : Nat} (h : riseK zs n k) (h1 : 0 ≤ zs.getD k 0 ∧ zs.getD k 0 ≤ n) (h2 : 0 < k → zs.getD (k - 1) 0 < zs.getD k 0) : riseK zs n (k + 1) := by
  intro j hj
  rcases Nat.lt_succ_iff_lt_or_eq.1 hj with h3 | h3
  · exact h j h3
  · subst h3; exact ⟨h1, h2⟩
theorem rise_bad1 {zs : List Int} {n : Int} {k : Nat} (hk : k < zs.length) (h1 : ¬ (0 ≤ zs.getD k 0 ∧ zs.getD k 0 ≤ n)) : riseB zs n = false := riseB_false.2 (fun h => h1 (h k hk).1)
theorem rise_bad2 {zs : List Int} {n : Int} {k : Nat} (hk : k < zs.length) (h0 : 0 < k) (h1 : ¬ zs.getD (k - 1) 0 < zs.getD k 0) : riseB zs n = false := riseB_false.2 (fun h => h1 ((h k hk).2 h0))

/-- A list that ascends within n is not longer than n + 1. -/
theorem rise_len {zs : List Int} {n : Int} : ∀ k, k ≤ zs.length → riseK zs n k → 0 < k → (k : Int) ≤ zs.getD (k - 1) 0 + 1
  | 0, _, _, h => absurd h (by omega)
  | 1, hk, h, _ => by
    have := (h 0 (by omega)).1
    show ((1 : Nat) : Int) ≤ zs.getD 0 0 + 1
    omega
  | k + 2, hk, h, _ => by
    have ih := rise_len (k + 1) (by omega) (fun j hj => h j (by omega)) (by omega)
    have := (h (k + 1) (by omega)).2 (by omega)
    simp only [Nat.add_sub_cancel] at ih this ⊢
    rw [show k + 2 - 1 = k + 1 by omega]
    omega

end Go.Proofs.YtognjdappchpkaaGreat

namespace Go.Proofs.YtognjdappchpkaaGreat
open Go.RowKit

theorem RF.get {w : World} {v : Value} {F : List (List Nat)} (h : RF w v F) : ∃ A c, v = .slice A F.length c ∧ F.length ≤ c ∧ F.length ≤ maxLen ∧ (0 < F.length → ∃ b off, A = some ⟨b, off, none⟩ ∧ b < w.heap.size ∧ ∀ k, k < F.length → ∃ u, w.cell? ⟨b, off + k, none⟩ = some u ∧ RI w u (natI (F.getD k []))) := by
  obtain ⟨vs, h1, h2⟩ := h
  obtain ⟨A, c, e1, e2, e3, e4⟩ := h1.get
  refine ⟨A, c, e1, e2, e3, fun hn => ?_⟩
  obtain ⟨b, off, g1, g2, g3⟩ := e4 hn
  exact ⟨b, off, g1, g2, fun k hk => ⟨_, g3 k hk, h2 k hk⟩⟩

theorem areaK_succ (ns ls : List Pr) (f : List Nat) (k : Nat) : areaK ns ls f (k + 1) = areaK ns ls f k + crossD ns ls (f.getD k 0) := rfl

set_option maxHeartbeats 8000000 in
set_option maxRecDepth 100000 in
theorem iAreaOf_any (vn vl u : Value) (ns ls : List Pr) (f : List Nat) (w : World) (hn : RP w vn ns) (hl : RP w vl ls) (hu : RI w u (natI f)) (hf : ∀ e ∈ f, e < 2 * ls.length) (hfl : f.length ≤ 40) (hwin : WinOk ns ls) :
    Calls Tryz.prog 71 #[.agg #[vn, vl], u] w fun e w' => e = .returned (.int .i64 (areaF ns ls f)) ∧ Below w.heap.size w w' := by
  have hm20 := hwin.2.2.1
  have hld : ∀ j : Nat, j < ls.length → leadB ns (ndI ls j) = true := fun j hj => (hwin.2.2.2.2.2 j hj).1
  obtain ⟨An, cn, rfl, hcn, hmn, hcelln⟩ := hn.formI
  obtain ⟨bn, offn, rfl, hbn, hcc⟩ := hcelln (by have := hwin.1; omega)
  obtain ⟨Au, cu, rfl, hcu, hmu, hcellu⟩ := hu.form
  rw [natI_length] at hcu hmu hcellu hu ⊢
  unfold maxLen at hmn hmu
  have HBD := Lib.hid (fun k hk => areaK_bd hwin hf k hk)
  have HTO := Lib.hid (fun d (hd : d < 2 * ls.length) => dTo_nat hld hd)
  have HFR := Lib.hid (fun d (hd : d < 2 * ls.length) => dFrom_nat hld hd)
  have HND := Lib.hid (fun t ht => nodesB_at hwin.2.2.2.1 t ht)
  have HAS := Lib.hid (areaK_succ ns ls f)
  have HA0 : Hid (areaK ns ls f 0 = 0) := Lib.hid rfl
  have HCC := Lib.hid hcc
  have HCU := Lib.hid hcellu
  have HTX := Lib.hid (fun (e : Nat) (he : e < 2 * ls.length) => twin_xor_int e (by omega))
  have HFM := Lib.hid hf
  clear hcelln hcc hcellu hwin hld hf
  go_enter Tryz.func71, Tryz.ntmps71
  go_wp2
  go_loopw [5, 12] (fun n x wr => ∃ k : Nat, k ≤ f.length ∧ x = .int .i64 k ∧ n = .int .i64 (areaK ns ls f k) ∧ Blk wr w.heap.size 34 #[.slice (some ⟨bn, offn, none⟩) ns.length cn, vl] ∧ Below w.heap.size w wr) (fun _ x _ => f.length - (intOf x).toNat)
  case atStart => exact ⟨0, Nat.zero_le _, rfl, by rw [HA0.out], Blk.newAt rfl, by (repeat' (first | (with_reducible exact Below.refl _ _) | (with_reducible assumption) | (with_reducible refine Below.drew ?_) | (with_reducible refine below_drewN ?_ _) | (with_reducible refine Below.alloc ?_ ?_ _) | (with_reducible refine Below.setCell ?_ ?_ _) | (with_reducible refine Below.step (by assumption) ?_ ?_))); all_goals (first | omega | (simp; done) | (simp; omega))⟩
  case round =>
    obtain ⟨k, hk, rfl, rfl, hW, hbl⟩ := hrel
    have hsz := hW.lt
    by_cases hlt : k < f.length
    · have hlt1 : (k : Int) < (f.length : Int) := by omega
      have ik1 : (0 : Int) ≤ (k : Int) := by omega
      obtain ⟨b4, off4, rfl, hb4, hcl4⟩ := HCU.out (by omega)
      have hx0 := hcl4 k hlt
      rw [natI_get] at hx0
      have hx := (hbl.cell (p := ⟨b4, off4 + k, none⟩) hb4).trans hx0
      have hem : f.getD k 0 < 2 * ls.length := HFM.out _ (by rw [List.getD, List.getElem?_eq_getElem hlt]; exact List.getElem_mem hlt)
      have HSU := Lib.hid (HAS.out k)
      have hbd := HBD.out k hk
      generalize f.getD k 0 = d at *
      obtain ⟨u, hu', hun⟩ := HTO.out d hem
      obtain ⟨t, ht', htn⟩ := HFR.out d hem
      (have a_0 := hW.cell 0); (have a_1 := hW.cell 1); simp only [List.getElem?_toArray, List.getElem?_cons_succ, List.getElem?_cons_zero] at a_0 a_1
      have X2 := Lib.hid (HTX.out d hem)
      have hpt := twin_lt hem
      have U0 := dFrom_twin ls d
      rw [hu'] at U0
      obtain ⟨t0, t1⟩ := HCC.out t htn
      obtain ⟨u0, u1⟩ := HCC.out u hun
      have HS0 : Hid (∀ v : World, Below wr.heap.size wr v → v.cell? ⟨w.heap.size, 0, none⟩ = some (.slice (some ⟨bn, offn, none⟩) ns.length cn) ∧ v.cell? ⟨w.heap.size, 1, none⟩ = some vl) := Lib.hid (fun v hv => ⟨(hv.cell (p := ⟨w.heap.size, 0, none⟩) hsz).trans a_0, (hv.cell (p := ⟨w.heap.size, 1, none⟩) hsz).trans a_1⟩)
      go_wp2_with fail
      refine region_E (n := 18) (S := fun v => v.cell? ⟨w.heap.size, 0, none⟩ = some (.slice (some ⟨bn, offn, none⟩) ns.length cn) ∧ v.cell? ⟨w.heap.size, 1, none⟩ = some vl) (by kernel_rfl) (HS0.out _ (Below.refl _ _).drew) (fun hS => ?_)
      (refine E_take (i := 0) (v := ?_) rfl rfl (by kernel_rfl) (by kernel_rfl) (by kernel_rfl) (by kernel_rfl) (by kernel_rfl) (fun _ _ _ h => h) (Or.inl ⟨by rfl, ?_⟩) (by assumption) ?_); rotate_left; (focus (intro w' hSw; (try dsimp only at hSw); go_simp; (try with_reducible rfl))); (try simp only [Act.put, List.setIfInBounds_toArray, List.set_cons_zero, List.set_cons_succ])
      (refine E_take (i := 1) (v := ?_) rfl rfl (by kernel_rfl) (by kernel_rfl) (by kernel_rfl) (by kernel_rfl) (by kernel_rfl) (fun _ _ _ h => h) (Or.inl ⟨by rfl, ?_⟩) (by assumption) ?_); rotate_left; (focus (intro w' hSw; (try dsimp only at hSw); go_simp; (try with_reducible rfl))); (try simp only [Act.put, List.setIfInBounds_toArray, List.set_cons_zero, List.set_cons_succ])
      (refine E_take (i := 2) (v := ?_) rfl rfl (by kernel_rfl) (by kernel_rfl) (by kernel_rfl) (by kernel_rfl) (by kernel_rfl) (fun _ _ _ h => h) (Or.inl ⟨by rfl, ?_⟩) (by assumption) ?_); rotate_left; (focus (intro w' hSw; (try dsimp only at hSw); go_simp; (try with_reducible rfl))); (try simp only [Act.put, List.setIfInBounds_toArray, List.set_cons_zero, List.set_cons_succ])
      (refine E_take (i := 3) (v := ?_) rfl rfl (by kernel_rfl) (by kernel_rfl) (by kernel_rfl) (by kernel_rfl) (by kernel_rfl) (fun _ _ _ h => h) (Or.inl ⟨by rfl, ?_⟩) (by assumption) ?_); rotate_left; (focus (intro w' hSw; (try dsimp only at hSw); go_simp; (try with_reducible rfl))); (try simp only [Act.put, List.setIfInBounds_toArray, List.set_cons_zero, List.set_cons_succ])
      (refine E_take (i := 7) (v := ?_) rfl rfl (by kernel_rfl) (by kernel_rfl) (by kernel_rfl) (by kernel_rfl) (by kernel_rfl) (fun _ _ _ h => h) (Or.inl ⟨by rfl, ?_⟩) (by assumption) ?_); rotate_left; (focus (intro w' hSw; (try dsimp only at hSw); go_simp; (try with_reducible rfl))); (try simp only [Act.put, List.setIfInBounds_toArray, List.set_cons_zero, List.set_cons_succ])
      (refine E_take (i := 8) (v := ?_) rfl rfl (by kernel_rfl) (by kernel_rfl) (by kernel_rfl) (by kernel_rfl) (by kernel_rfl) (fun _ _ _ h => h) (Or.inl ⟨by rfl, ?_⟩) (by assumption) ?_); rotate_left; (focus (intro w' hSw; (try dsimp only at hSw); go_simp; (try with_reducible rfl))); (try simp only [Act.put, List.setIfInBounds_toArray, List.set_cons_zero, List.set_cons_succ])
      (refine E_take (i := 9) (v := ?_) rfl rfl (by kernel_rfl) (by kernel_rfl) (by kernel_rfl) (by kernel_rfl) (by kernel_rfl) (fun _ _ _ h => h) (Or.inl ⟨by rfl, ?_⟩) (by assumption) ?_); rotate_left; (focus (intro w' hSw; (try dsimp only at hSw); go_simp; (try with_reducible rfl))); (try simp only [Act.put, List.setIfInBounds_toArray, List.set_cons_zero, List.set_cons_succ])
      (refine E_take (i := 10) (v := ?_) rfl rfl (by kernel_rfl) (by kernel_rfl) (by kernel_rfl) (by kernel_rfl) (by kernel_rfl) (fun _ _ _ h => h) (Or.inl ⟨by rfl, ?_⟩) (by assumption) ?_); rotate_left; (focus (intro w' hSw; (try dsimp only at hSw); go_simp; (try with_reducible rfl))); (try simp only [Act.put, List.setIfInBounds_toArray, List.set_cons_zero, List.set_cons_succ])
      (refine E_take (i := 11) (v := ?_) rfl rfl (by kernel_rfl) (by kernel_rfl) (by kernel_rfl) (by kernel_rfl) (by kernel_rfl) (fun _ _ _ h => h) (Or.inl ⟨by rfl, ?_⟩) (by assumption) ?_); rotate_left; (focus (intro w' hSw; (try dsimp only at hSw); go_simp; (try with_reducible rfl))); (try simp only [Act.put, List.setIfInBounds_toArray, List.set_cons_zero, List.set_cons_succ])
      rw [X2.out]
      have HC := Lib.hid (fun (v : World) (hb : Below wr.heap.size wr v) => iFrom_any (.slice (some ⟨bn, offn, none⟩) ns.length cn) vl ls d v (hl.below (hbl.trans (hb.mono hbl.size))) hem)
      have HD := Lib.hid (fun (v : World) (hb : Below wr.heap.size wr v) => iFrom_any (.slice (some ⟨bn, offn, none⟩) ns.length cn) vl ls (twin d) v (hl.below (hbl.trans (hb.mono hbl.size))) hpt)
      rw [ht'] at HC
      rw [U0] at HD
      have hbn2 : bn < wr.heap.size := Nat.lt_of_lt_of_le hbn hbl.size
      have HT : Hid (∀ v : World, Below wr.heap.size wr v → v.cell? ⟨bn, offn + t * 2, none⟩ = some (.int .i64 (ndI ns t).1) ∧ v.cell? ⟨bn, offn + t * 2 + 1, none⟩ = some (.int .i64 (ndI ns t).2)) := Lib.hid (fun v hv => ⟨(hv.cell (p := ⟨bn, offn + t * 2, none⟩) hbn2).trans ((hbl.cell (p := ⟨bn, offn + t * 2, none⟩) hbn).trans t0), (hv.cell (p := ⟨bn, offn + t * 2 + 1, none⟩) hbn2).trans ((hbl.cell (p := ⟨bn, offn + t * 2 + 1, none⟩) hbn).trans t1)⟩)
      have HU : Hid (∀ v : World, Below wr.heap.size wr v → v.cell? ⟨bn, offn + u * 2, none⟩ = some (.int .i64 (ndI ns u).1) ∧ v.cell? ⟨bn, offn + u * 2 + 1, none⟩ = some (.int .i64 (ndI ns u).2)) := Lib.hid (fun v hv => ⟨(hv.cell (p := ⟨bn, offn + u * 2, none⟩) hbn2).trans ((hbl.cell (p := ⟨bn, offn + u * 2, none⟩) hbn).trans u0), (hv.cell (p := ⟨bn, offn + u * 2 + 1, none⟩) hbn2).trans ((hbl.cell (p := ⟨bn, offn + u * 2 + 1, none⟩) hbn).trans u1)⟩)
      have HS : Hid (∀ v : World, Below wr.heap.size wr v → v.cell? ⟨w.heap.size, 0, none⟩ = some (.slice (some ⟨bn, offn, none⟩) ns.length cn) ∧ v.cell? ⟨w.heap.size, 1, none⟩ = some vl) := HS0
      have HCR : Hid (crossD ns ls d = (ndI ns t).1 * (ndI ns u).2 - (ndI ns t).2 * (ndI ns u).1) := Lib.hid (by unfold crossD; rw [ht', hu'])
      obtain ⟨p0, p1, p2, p3⟩ := nodeB_bd (HND.out t htn)
      obtain ⟨q0, q1, q2, q3⟩ := nodeB_bd (HND.out u hun)
      have it1 : (0 : Int) ≤ (t : Int) := by omega
      have it2 : (t : Int) < (ns.length : Int) := by omega
      have iu1 : (0 : Int) ≤ (u : Int) := by omega
      have iu2 : (u : Int) < (ns.length : Int) := by omega
      generalize twin d = pe at *
      clear HS0 t0 t1 u0 u1 ht' hu' U0
      refine E_phase (n := 18) (Inv := fun L a v => ∃ v8 v9 v20 v21 v22 v28 v29 v30, a = {
          tmps := #[.agg #[.slice (some ⟨bn, offn, none⟩) ns.length cn, vl], .slice (some ⟨b4, off4, none⟩) f.length cu, .pointer (some ⟨w.heap.size, 0, none⟩), undef, .int .i64 0, .int .i64 (areaK ns ls f k), undef, .int .i64 d, v8, v9,
            .slice (some ⟨b4, off4, none⟩) f.length cu, .int .i64 f.length, .int .i64 k, .bool true, .pointer (some ⟨b4, off4 + k, none⟩), .int .i64 d, .pointer (some ⟨w.heap.size, 0, none⟩), .slice (some ⟨bn, offn, none⟩) ns.length cn, .agg #[.slice (some ⟨bn, offn, none⟩) ns.length cn, vl], .int .i64 d, v20, v21, v22,
            .pointer (some ⟨w.heap.size, 0, none⟩), .slice (some ⟨bn, offn, none⟩) ns.length cn, .agg #[.slice (some ⟨bn, offn, none⟩) ns.length cn, vl], .int .i64 d, .int .i64 pe, v28, v29, v30,
            u31, u32, u33, u34, u35, u36, u37, u38, u39, u40, u41, u42, u43, u44, undef], defers := [] } ∧
          Below wr.heap.size wr v ∧ (∀ j ∈ [0, 1, 2, 3, 7, 8, 9, 10, 11], tk L j = true) ∧
          Aft L 4 (v20 = .int .i64 t) ∧ Aft L 5 (v21 = .pointer (some ⟨bn, offn + t * 2, none⟩)) ∧ Aft L 6 (v22 = .agg #[.int .i64 (ndI ns t).1, .int .i64 (ndI ns t).2]) ∧
          Aft L 12 (v28 = .int .i64 u) ∧ Aft L 13 (v29 = .pointer (some ⟨bn, offn + u * 2, none⟩)) ∧ Aft L 14 (v30 = .agg #[.int .i64 (ndI ns u).1, .int .i64 (ndI ns u).2]) ∧
          One L 15 17 wr.heap.size 78 #[.int .i64 0, .int .i64 0] #[.int .i64 (ndI ns t).1, .int .i64 (ndI ns t).2] v8 v ∧
          One L 16 18 wr.heap.size 78 #[.int .i64 0, .int .i64 0] #[.int .i64 (ndI ns u).1, .int .i64 (ndI ns u).2] v9 v ∧
          Apart2 L 15 16 v8 v9) (by decide) (by kernel_rfl) (by kernel_rfl) ?_ ?_ 10 _ _ _ rfl ?_ (by kernel_rfl) ?_
      · intro L a v hI i hi hr
        obtain ⟨v8, v9, v20, v21, v22, v28, v29, v30, rfl, hb, hpre, f4, f5, f6, f12, f13, f14, o8, o9, p89⟩ := hI
        have hun := ready_un hr
        have hsv := HS.out v hb
        rcases (show i = 4 ∨ i = 5 ∨ i = 6 ∨ i = 12 ∨ i = 13 ∨ i = 14 ∨ i = 15 ∨ i = 16 ∨ i = 17 ∨ i ∈ [0, 1, 2, 3, 7, 8, 9, 10, 11] by simp only [List.mem_cons, List.mem_nil_iff, or_false]; omega) with rfl | rfl | rfl | rfl | rfl | rfl | rfl | rfl | rfl | hm
        · -- 4
          refine wp_step rfl (fun K hK => ?_)
          rw [if_pos (by rfl)]
          go_simp
          go_at_call 98
          refine (HC.out _ hb).mono ?_
          rintro en w1 ⟨rfl, hb1⟩
          go_wp2_with fail
          have hbw := hb.trans (hb1.mono hb.size)
          exact ⟨HS.out _ hbw, _, _, _, _, _, _, _, _, rfl, hbw, preS hpre, Aft.new rfl, f5.keep (by decide), f6.keep (by decide), f12.keep (by decide), f13.keep (by decide), f14.keep (by decide), o8.step (by decide) (by decide) hb1, o9.step (by decide) (by decide) hb1, p89.step (by decide) (by decide)⟩
        · -- 5
          obtain rfl := f4 (ready_tk hr rfl (by kernel_rfl))
          refine wp_step rfl (fun K hK => ?_)
          rw [if_pos (by rfl)]
          go_simp
          exact hK _ _ ⟨hsv, _, _, _, _, _, _, _, _, rfl, hb, preS hpre, f4.keep (by decide), Aft.new rfl, f6.keep (by decide), f12.keep (by decide), f13.keep (by decide), f14.keep (by decide), o8.step (by decide) (by decide) (Below.refl _ _), o9.step (by decide) (by decide) (Below.refl _ _), p89.step (by decide) (by decide)⟩
        · -- 6
          obtain rfl := f5 (ready_tk hr rfl (by kernel_rfl))
          obtain ⟨c0, c1⟩ := HT.out v hb
          refine wp_step rfl (fun K hK => ?_)
          rw [if_pos (by rfl)]
          go_simp
          exact hK _ _ ⟨hsv, _, _, _, _, _, _, _, _, rfl, hb, preS hpre, f4.keep (by decide), f5.keep (by decide), Aft.new rfl, f12.keep (by decide), f13.keep (by decide), f14.keep (by decide), o8.step (by decide) (by decide) (Below.refl _ _), o9.step (by decide) (by decide) (Below.refl _ _), p89.step (by decide) (by decide)⟩
        · -- 12
          refine wp_step rfl (fun K hK => ?_)
          rw [if_pos (by rfl)]
          go_simp
          go_at_call 98
          refine (HD.out _ hb).mono ?_
          rintro en w1 ⟨rfl, hb1⟩
          go_wp2_with fail
          have hbw := hb.trans (hb1.mono hb.size)
          exact ⟨HS.out _ hbw, _, _, _, _, _, _, _, _, rfl, hbw, preS hpre, f4.keep (by decide), f5.keep (by decide), f6.keep (by decide), Aft.new rfl, f13.keep (by decide), f14.keep (by decide), o8.step (by decide) (by decide) hb1, o9.step (by decide) (by decide) hb1, p89.step (by decide) (by decide)⟩
        · -- 13
          obtain rfl := f12 (ready_tk hr rfl (by kernel_rfl))
          refine wp_step rfl (fun K hK => ?_)
          rw [if_pos (by rfl)]
          go_simp
          exact hK _ _ ⟨hsv, _, _, _, _, _, _, _, _, rfl, hb, preS hpre, f4.keep (by decide), f5.keep (by decide), f6.keep (by decide), f12.keep (by decide), Aft.new rfl, f14.keep (by decide), o8.step (by decide) (by decide) (Below.refl _ _), o9.step (by decide) (by decide) (Below.refl _ _), p89.step (by decide) (by decide)⟩
        · -- 14
          obtain rfl := f13 (ready_tk hr rfl (by kernel_rfl))
          obtain ⟨c0, c1⟩ := HU.out v hb
          refine wp_step rfl (fun K hK => ?_)
          rw [if_pos (by rfl)]
          go_simp
          exact hK _ _ ⟨hsv, _, _, _, _, _, _, _, _, rfl, hb, preS hpre, f4.keep (by decide), f5.keep (by decide), f6.keep (by decide), f12.keep (by decide), f13.keep (by decide), Aft.new rfl, o8.step (by decide) (by decide) (Below.refl _ _), o9.step (by decide) (by decide) (Below.refl _ _), p89.step (by decide) (by decide)⟩
        · -- 15
          refine wp_step rfl (fun K hK => ?_)
          rw [if_pos (by rfl)]
          go_simp
          have hb1 : Below v.heap.size v (v.alloc (.cells #[.int .i64 0, .int .i64 0] 78)) := (Below.refl _ _).alloc (Nat.le_refl _) _
          have hbw := hb.trans (hb1.mono hb.size)
          exact hK _ _ ⟨HS.out _ hbw, _, _, _, _, _, _, _, _, rfl, hbw, preS hpre, f4.keep (by decide), f5.keep (by decide), f6.keep (by decide), f12.keep (by decide), f13.keep (by decide), f14.keep (by decide), o8.lay hun (by decide) hb.size, o9.step (by decide) (by decide) hb1, Apart2.newL o9 (by decide)⟩
        · -- 16
          refine wp_step rfl (fun K hK => ?_)
          rw [if_pos (by rfl)]
          go_simp
          have hb1 : Below v.heap.size v (v.alloc (.cells #[.int .i64 0, .int .i64 0] 78)) := (Below.refl _ _).alloc (Nat.le_refl _) _
          have hbw := hb.trans (hb1.mono hb.size)
          exact hK _ _ ⟨HS.out _ hbw, _, _, _, _, _, _, _, _, rfl, hbw, preS hpre, f4.keep (by decide), f5.keep (by decide), f6.keep (by decide), f12.keep (by decide), f13.keep (by decide), f14.keep (by decide), o8.step (by decide) (by decide) hb1, o9.lay hun (by decide) hb.size, Apart2.newR o8 (by decide)⟩
        · -- 17
          have h15 := ready_tk (j := 15) hr rfl (by kernel_rfl)
          obtain ⟨g, rfl, hg, hB⟩ := o8.zero h15 hun
          obtain rfl := f6 (ready_tk hr rfl (by kernel_rfl))
          (have b_0 := hB.cell 0); (have b_1 := hB.cell 1); simp only [List.getElem?_toArray, List.getElem?_cons_succ, List.getElem?_cons_zero] at b_0 b_1; (have b_f0 := hB.frozen 0); (have b_f1 := hB.frozen 1)
          refine wp_step rfl (fun K hK => ?_)
          rw [if_pos (by rfl)]
          go_simp
          have hbw := (hb.setCell (p := ⟨g, 0, none⟩) hg (.int .i64 (ndI ns t).1)).setCell (p := ⟨g, 1, none⟩) hg (.int .i64 (ndI ns t).2)
          exact hK _ _ ⟨HS.out _ hbw, _, _, _, _, _, _, _, _, rfl, hbw, preS hpre, f4.keep (by decide), f5.keep (by decide), f6.keep (by decide), f12.keep (by decide), f13.keep (by decide), f14.keep (by decide), o8.fill h15 hun rfl (by decide), o9.far (by decide) (by decide) (fun h => (p89 h15 h).symm) 0 1 _ _, p89.step (by decide) (by decide)⟩
        · rw [hpre i hm] at hun; cases hun
      · intro a v hI
        obtain ⟨v8, v9, v20, v21, v22, v28, v29, v30, rfl, hb, hpre, f4, f5, f6, f12, f13, f14, o8, o9, p89⟩ := hI
        obtain rfl := f14 (by kernel_rfl)
        obtain ⟨g9, rfl, hg9, hB⟩ := o9.zero (by kernel_rfl) (by kernel_rfl)
        obtain ⟨g8, rfl, hg8, hB8⟩ := o8.full (by kernel_rfl)
        have n8 : g8 ≠ g9 := fun h => p89 (by kernel_rfl) (by kernel_rfl) (by rw [h])
        (have b_0 := hB.cell 0); (have b_1 := hB.cell 1); simp only [List.getElem?_toArray, List.getElem?_cons_succ, List.getElem?_cons_zero] at b_0 b_1; (have b_f0 := hB.frozen 0); (have b_f1 := hB.frozen 1)
        refine E_step (fuel := 0) (n := 18) (i := 18) rfl (by kernel_rfl) (fun K hK => ?_)
        rw [if_pos (by rfl)]
        go_simp
        refine hK _ _ (fun h => absurd h (by decide)) (fun _ => ?_)
        clear hK K
        refine E_done (by kernel_rfl) ?_ _
        have hbw := (hb.setCell (p := ⟨g9, 0, none⟩) hg9 (.int .i64 (ndI ns u).1)).setCell (p := ⟨g9, 1, none⟩) hg9 (.int .i64 (ndI ns u).2)
        have hB9 : Blk ((v.setCell ⟨g9, 0, none⟩ (.int .i64 (ndI ns u).1)).setCell ⟨g9, 1, none⟩ (.int .i64 (ndI ns u).2)) g9 78 #[.int .i64 (ndI ns u).1, .int .i64 (ndI ns u).2] := by
          have := (hB.set_ 0 (.int .i64 (ndI ns u).1)).set_ 1 (.int .i64 (ndI ns u).2)
          simpa using this
        have hB8' := (hB8.far (p := ⟨g9, 0, none⟩) n8 (.int .i64 (ndI ns u).1)).far (p := ⟨g9, 1, none⟩) n8 (.int .i64 (ndI ns u).2)
        generalize ((v.setCell ⟨g9, 0, none⟩ (.int .i64 (ndI ns u).1)).setCell ⟨g9, 1, none⟩ (.int .i64 (ndI ns u).2)) = w3 at *
        have hWW := hW.below hbw hsz
        have hbb := hbl.trans (hbw.mono hbl.size)
        clear hB hB8 b_0 b_1 b_f0 b_f1 hb o8 o9 p89 f4 f5 f6 f12 f13 f14 hpre HC HD HT HU HS hW hbl hS a_0 a_1
        (have c_0 := hB8'.cell 0); (have c_1 := hB8'.cell 1); simp only [List.getElem?_toArray, List.getElem?_cons_succ, List.getElem?_cons_zero] at c_0 c_1; (have c_f0 := hB8'.frozen 0); (have c_f1 := hB8'.frozen 1)
        (have e_0 := hB9.cell 0); (have e_1 := hB9.cell 1); simp only [List.getElem?_toArray, List.getElem?_cons_succ, List.getElem?_cons_zero] at e_0 e_1; (have e_f0 := hB9.frozen 0); (have e_f1 := hB9.frozen 1)
        generalize (ndI ns t).1 = X at *
        generalize (ndI ns t).2 = Y at *
        generalize (ndI ns u).1 = U at *
        generalize (ndI ns u).2 = V at *
        have m1 := mul_bd (u := X) (v := V) (by omega) (by omega) (by omega) (by omega)
        have m2 := mul_bd (u := Y) (v := U) (by omega) (by omega) (by omega) (by omega)
        obtain ⟨m1a, m1b⟩ := m1
        obtain ⟨m2a, m2b⟩ := m2
        obtain ⟨ba, bb⟩ := hbd
        go_wp2
        go_roundw
        case rel =>
          have hrl : ∃ k' : Nat, k' ≤ f.length ∧ Value.int .i64 ((k : Int) + 1) = .int .i64 k' ∧ Value.int .i64 (areaK ns ls f k + (X * V - Y * U)) = .int .i64 (areaK ns ls f k') ∧ Blk w3 w.heap.size 34 #[.slice (some ⟨bn, offn, none⟩) ns.length cn, vl] ∧ Below w.heap.size w w3 := ⟨k + 1, by omega, by go_num, by rw [HSU.out, HCR.out], hWW, hbb⟩
          first | exact hrl | ((repeat apply Exists.intro); exact ⟨hrl, rfl⟩)
        case measure => simp [intOf]; omega
      · intro j h1 h2
        have : j = 18 := by
          have h3 : j < 19 := h2
          omega
        subst this
        rfl
      · refine ⟨_, _, _, _, _, _, _, _, rfl, (Below.refl _ _).drew, by decide, Aft.no rfl, Aft.no rfl, Aft.no rfl, Aft.no rfl, Aft.no rfl, Aft.no rfl, One.start rfl rfl, One.start rfl rfl, Apart2.start rfl⟩
    · have hkk : k = f.length := by omega
      subst hkk
      have HR : Hid (areaF ns ls f = areaK ns ls f f.length) := Lib.hid rfl
      go_wp2
      go_ret
      exact ⟨ret_int HR.out.symm, hbl⟩

end Go.Proofs.YtognjdappchpkaaGreat

namespace Go.Proofs.YtognjdappchpkaaGreat
open Go.RowKit

attribute [local go_sem ↓] run_mn2 run_mx2

set_option maxHeartbeats 8000000 in
set_option maxRecDepth 100000 in
theorem sAreaOf_any (vn vl u : Value) (ns ls : List Pr) (f : List Nat) (w : World) (hn : RP w vn ns) (hl : RP w vl ls) (hu : RI w u (natI f)) (hf : ∀ e ∈ f, e < 2 * ls.length) (hfl : f.length ≤ 40) (hwin : WinOk ns ls) :
    Calls Tryz.prog 55 #[.agg #[vn, vl], u] w fun e w' => e = .returned (.int .i64 (areaF ns ls f)) ∧ Below w.heap.size w w' := by
  have hm20 := hwin.2.2.1
  have hld : ∀ j : Nat, j < ls.length → leadB ns (ndI ls j) = true := fun j hj => (hwin.2.2.2.2.2 j hj).1
  obtain ⟨An, cn, rfl, hcn, hmn, hcelln⟩ := hn.formI
  obtain ⟨bn, offn, rfl, hbn, hcc⟩ := hcelln (by have := hwin.1; omega)
  obtain ⟨Au, cu, rfl, hcu, hmu, hcellu⟩ := hu.form
  rw [natI_length] at hcu hmu hcellu hu ⊢
  unfold maxLen at hmn hmu
  have HBD := Lib.hid (fun k hk => areaK_bd hwin hf k hk)
  have HTO := Lib.hid (fun d (hd : d < 2 * ls.length) => dTo_nat hld hd)
  have HFR := Lib.hid (fun d (hd : d < 2 * ls.length) => dFrom_nat hld hd)
  have HND := Lib.hid (fun t ht => nodesB_at hwin.2.2.2.1 t ht)
  have HAS := Lib.hid (areaK_succ ns ls f)
  have HA0 : Hid (areaK ns ls f 0 = 0) := Lib.hid rfl
  have HCC := Lib.hid hcc
  have HCU := Lib.hid hcellu
  have HFM := Lib.hid hf
  clear hcelln hcc hcellu hwin hld hf
  go_enter Tryz.func55, Tryz.ntmps55
  go_wp2
  go_loopw [5, 6] (fun n x wr => ∃ k : Nat, k ≤ f.length ∧ x = .int .i64 k ∧ n = .int .i64 (areaK ns ls f k) ∧ Blk wr w.heap.size 34 #[.slice (some ⟨bn, offn, none⟩) ns.length cn, vl] ∧ Below w.heap.size w wr) (fun _ x _ => f.length - (intOf x).toNat)
  case atStart => exact ⟨0, Nat.zero_le _, rfl, by rw [HA0.out], Blk.newAt rfl, by (repeat' (first | (with_reducible exact Below.refl _ _) | (with_reducible assumption) | (with_reducible refine Below.drew ?_) | (with_reducible refine below_drewN ?_ _) | (with_reducible refine Below.alloc ?_ ?_ _) | (with_reducible refine Below.setCell ?_ ?_ _) | (with_reducible refine Below.step (by assumption) ?_ ?_))); all_goals (first | omega | (simp; done) | (simp; omega))⟩
  case round =>
    obtain ⟨k, hk, rfl, rfl, hW, hbl⟩ := hrel
    have hsz := hW.lt
    by_cases hlt : k < f.length
    · have hlt1 : (k : Int) < (f.length : Int) := by omega
      have ik1 : (0 : Int) ≤ (k : Int) := by omega
      obtain ⟨b4, off4, rfl, hb4, hcl4⟩ := HCU.out (by omega)
      have hx0 := hcl4 k hlt
      rw [natI_get] at hx0
      have hx := (hbl.cell (p := ⟨b4, off4 + k, none⟩) hb4).trans hx0
      have hem : f.getD k 0 < 2 * ls.length := HFM.out _ (by rw [List.getD, List.getElem?_eq_getElem hlt]; exact List.getElem_mem hlt)
      have HSU := Lib.hid (HAS.out k)
      have hbd := HBD.out k hk
      generalize f.getD k 0 = d at *
      obtain ⟨u, hu', hun⟩ := HTO.out d hem
      obtain ⟨t, ht', htn⟩ := HFR.out d hem
      (have a_0 := hW.cell 0); (have a_1 := hW.cell 1); simp only [List.getElem?_toArray, List.getElem?_cons_succ, List.getElem?_cons_zero] at a_0 a_1
      have hlr : RP wr vl ls := hl.below hbl
      have hb42 : b4 < wr.heap.size := Nat.lt_of_lt_of_le hb4 hbl.size
      go_wp2_with fail
      (refine wp_region_quietG (by kernel_rfl) (by kernel_rfl) (fun hG => ?_))
      repeat (go_big_quiet_step ((go_at_call 81; exact quietG (sEnds_any _ _ ls d _ (RS.grw _ hlr) hem))))
      refine wpQuiet_nil ?_
      clear hG
      rintro w3 ⟨⟨_, hb3⟩, rfl⟩
      have hW3 := hW.below hb3 hsz
      have hbl3 := hbl.trans (hb3.mono hbl.size)
      have HCR : Hid (crossD ns ls d = (ndI ns t).1 * (ndI ns u).2 - (ndI ns t).2 * (ndI ns u).1) := Lib.hid (by unfold crossD; rw [ht', hu'])
      obtain ⟨p0, p1, p2, p3⟩ := nodeB_bd (HND.out t htn)
      obtain ⟨q0, q1, q2, q3⟩ := nodeB_bd (HND.out u hun)
      have hbn3 : bn < w3.heap.size := Nat.lt_of_lt_of_le hbn hbl3.size
      have hs3 := hW3.lt
      have it1 : (0 : Int) ≤ (t : Int) := by omega
      have it2 : (t : Int) < (ns.length : Int) := by omega
      have iu1 : (0 : Int) ≤ (u : Int) := by omega
      have iu2 : (u : Int) < (ns.length : Int) := by omega
      obtain ⟨t0, t1⟩ := HCC.out t htn
      obtain ⟨u0, u1⟩ := HCC.out u hun
      have c0 := (hbl3.cell (p := ⟨bn, offn + t * 2, none⟩) hbn).trans t0
      have c1 := (hbl3.cell (p := ⟨bn, offn + t * 2 + 1, none⟩) hbn).trans t1
      have c2 := (hbl3.cell (p := ⟨bn, offn + u * 2, none⟩) hbn).trans u0
      have c3 := (hbl3.cell (p := ⟨bn, offn + u * 2 + 1, none⟩) hbn).trans u1
      rw [hu', ht']
      clear hW hbl a_0 a_1 hb3 hlr hx t0 t1 u0 u1 hu' ht'
      (have a_0 := hW3.cell 0); (have a_1 := hW3.cell 1); simp only [List.getElem?_toArray, List.getElem?_cons_succ, List.getElem?_cons_zero] at a_0 a_1
      generalize (ndI ns t).1 = X at *
      generalize (ndI ns t).2 = Y at *
      generalize (ndI ns u).1 = U at *
      generalize (ndI ns u).2 = V at *
      obtain ⟨m1a, m1b⟩ := mul_bd (u := X) (v := V) (by omega) (by omega) (by omega) (by omega)
      obtain ⟨m2a, m2b⟩ := mul_bd (u := Y) (v := U) (by omega) (by omega) (by omega) (by omega)
      obtain ⟨ba, bb⟩ := hbd
      go_wp2_with fail
      (refine wp_region_quietG (by kernel_rfl) (by kernel_rfl) (fun hG => ?_))
      repeat (go_big_quiet_step (fail))
      refine wpQuiet_nil ?_
      clear hG
      rintro w4 ⟨⟨_, hb4'⟩, rfl⟩
      have hW4 := Lib.hid (hW3.below hb4' hW3.lt)
      have hbl4 := Lib.hid (hbl3.trans (hb4'.mono hbl3.size))
      clear hW3 hbl3 hb4' a_0 a_1 c0 c1 c2 c3
      go_wp2
      go_roundw
      case rel => exact ⟨k + 1, by omega, by go_num, by rw [HSU.out, HCR.out]; congr 1; omega, hW4.out, hbl4.out⟩
      case measure => simp [intOf]; omega
    · have hkk : k = f.length := by omega
      subst hkk
      have HR : Hid (areaF ns ls f = areaK ns ls f f.length) := Lib.hid rfl
      go_wp2
      go_ret
      exact ⟨ret_int HR.out.symm, hbl⟩

theorem facesW_at {ns ls : List Pr} {k : Nat} (hk : k < (facesW ns ls).length) : WinOk ns ls ∧ (∀ e ∈ (facesW ns ls).getD k [], e < 2 * ls.length) ∧ 0 < ((facesW ns ls).getD k []).length ∧ ((facesW ns ls).getD k []).length ≤ 40 := by
  cases hw : wholeB ns ls
  · simp [facesW, hw] at hk
  · have hwin := (whole_win hw).1
    have hld : ∀ j : Nat, j < ls.length → leadB ns (ndI ls j) = true := fun j hj => (hwin.2.2.2.2.2 j hj).1
    have hm20 := hwin.2.2.1
    have hF : facesW ns ls = facesK ns ls (2 * ls.length) := by simp [facesW, hw]; rfl
    rw [hF] at hk ⊢
    have hm : (facesK ns ls (2 * ls.length)).getD k [] ∈ facesK ns ls (2 * ls.length) := by rw [List.getD, List.getElem?_eq_getElem hk]; exact List.getElem_mem hk
    obtain ⟨h1, h2, h3⟩ := facesK_bd hld (2 * ls.length) (Nat.le_refl _) _ hm
    exact ⟨hwin, h1, h2, by omega⟩

theorem facesW_len (ns ls : List Pr) : (facesW ns ls).length ≤ 40 := by
  cases hw : wholeB ns ls
  · simp [facesW, hw]
  · have hm20 := (whole_win hw).1.2.2.1
    have hF : facesW ns ls = facesK ns ls (2 * ls.length) := by simp [facesW, hw]; rfl
    rw [hF]
    have := facesK_len ns ls (2 * ls.length)
    omega

/-- The outer face, or -1. -/
noncomputable def outerW (ns ls : List Pr) : Int := outerF ns ls (facesW ns ls)
/-- Twice the area of a face, or -1. -/
noncomputable def areaW (ns ls : List Pr) (f : Int) : Int := if inB f 0 (((facesW ns ls).length : Int) - 1) then ((areaF ns ls ((facesW ns ls).getD f.toNat [])).natAbs : Int) else -1
noncomputable def totalW (ns ls : List Pr) : Int := areaW ns ls (outerW ns ls)

theorem outerK_yes {ns ls : List Pr} {F : List (List Nat)} {m k : Nat} (h : areaF ns ls (F.getD k []) ≤ 0) : outerK ns ls F (m + 1) k = k := by simp only [outerK]; rw [if_pos h]
theorem outerK_no {ns ls : List Pr} {F : List (List Nat)} {m k : Nat} (h : ¬ areaF ns ls (F.getD k []) ≤ 0) : outerK ns ls F (m + 1) k = outerK ns ls F m (k + 1) := by simp only [outerK]; rw [if_neg h]

theorem areaF_bd {ns ls : List Pr} (h : WinOk ns ls) {f : List Nat} (hf : ∀ e ∈ f, e < 2 * ls.length) (hl : f.length ≤ 40) : -16000 ≤ areaF ns ls f ∧ areaF ns ls f ≤ 16000 := by
  have := areaK_bd h hf f.length (Nat.le_refl _)
  unfold areaF
  omega

set_option maxHeartbeats 4000000 in
set_option maxRecDepth 100000 in
theorem iOuter_any (vn vl : Value) (ns ls : List Pr) (w : World) (hn : RP w vn ns) (hl : RP w vl ls) :
    Calls Tryz.prog 43 #[.agg #[vn, vl]] w fun e w' => e = .returned (.int .i64 (outerW ns ls)) ∧ Below w.heap.size w w' := by
  have hb0 : Below w.heap.size w (w.alloc (.cells #[vn, vl] 34)) := by (repeat' (first | (with_reducible exact Below.refl _ _) | (with_reducible assumption) | (with_reducible refine Below.drew ?_) | (with_reducible refine below_drewN ?_ _) | (with_reducible refine Below.alloc ?_ ?_ _) | (with_reducible refine Below.setCell ?_ ?_ _) | (with_reducible refine Below.step (by assumption) ?_ ?_))); all_goals (first | omega | (simp; done) | (simp; omega))
  have hW0 : Blk (w.alloc (.cells #[vn, vl] 34)) w.heap.size 34 #[vn, vl] := Blk.newAt rfl
  have HAT := Lib.hid (fun k hk => facesW_at (ns := ns) (ls := ls) (k := k) hk)
  have hfl := facesW_len ns ls
  have HR : Hid (outerW ns ls = outerK ns ls (facesW ns ls) (facesW ns ls).length 0) := Lib.hid rfl
  have HOY := Lib.hid (fun m k h => outerK_yes (ns := ns) (ls := ls) (F := facesW ns ls) (m := m) (k := k) h)
  have HON := Lib.hid (fun m k h => outerK_no (ns := ns) (ls := ls) (F := facesW ns ls) (m := m) (k := k) h)
  have HOZ : Hid (∀ k, outerK ns ls (facesW ns ls) 0 k = -1) := Lib.hid (fun _ => rfl)
  go_enter Tryz.func43, Tryz.ntmps43
  go_wp2_with fail
  refine (iFaces_any vn vl ns ls _ (hn.below hb0) (hl.below hb0)).mono ?_
  rintro e w1 ⟨v1, rfl, ho1, hb1⟩
  have hbw1 := hb0.trans (hb1.mono hb0.size)
  have hW1 := hW0.below hb1 hW0.lt
  have hF1 := ho1.reads
  generalize facesW ns ls = F at *
  obtain ⟨A1, c1, rfl, hc1, hm1, hcell1⟩ := hF1.get
  unfold maxLen at hm1
  clear hb1 hb0 hW0 ho1 hcell1
  (have a_0 := hW1.cell 0); (have a_1 := hW1.cell 1); simp only [List.getElem?_toArray, List.getElem?_cons_succ, List.getElem?_cons_zero] at a_0 a_1
  go_wp2
  go_loopw [8] (fun x wr => ∃ k : Nat, k ≤ F.length ∧ x = .int .i64 k ∧ Hid (outerK ns ls F F.length 0 = outerK ns ls F (F.length - k) k) ∧ RF wr (.slice A1 F.length c1) F ∧ Blk wr w.heap.size 34 #[vn, vl] ∧ Below w.heap.size w wr) (fun x _ => F.length - (intOf x).toNat)
  case atStart => exact ⟨0, Nat.zero_le _, rfl, Lib.hid rfl, hF1, hW1, hbw1⟩
  case round =>
    clear hF1 hW1 hbw1 a_0 a_1
    obtain ⟨k, hk, rfl, HK, hF, hW, hbl⟩ := hrel
    have hsz := hW.lt
    by_cases hlt : k < F.length
    · have hlt1 : (k : Int) < (F.length : Int) := by omega
      have ik1 : (0 : Int) ≤ (k : Int) := by omega
      obtain ⟨A2, c2, he2, _, _, hcell⟩ := hF.get
      cases he2
      obtain ⟨b4, off4, rfl, hb4, hcl4⟩ := hcell (by omega)
      obtain ⟨rr, hcr, hrr⟩ := hcl4 k hlt
      obtain ⟨hwin, hfe, hf0, hf40⟩ := HAT.out k hlt
      have HAR := Lib.hid (fun (v : World) (u : Value) (hb : Below w.heap.size w v) (hu : RI v u (natI (F.getD k []))) => iAreaOf_any vn vl u ns ls (F.getD k []) v (hn.below hb) (hl.below hb) hu hfe hf40 hwin)
      have HY := Lib.hid (fun h => HOY.out (F.length - (k + 1)) k h)
      have HNo := Lib.hid (fun h => HON.out (F.length - (k + 1)) k h)
      rw [show F.length - (k + 1) + 1 = F.length - k by omega] at HY HNo
      generalize areaF ns ls (F.getD k []) = z at *
      clear hcl4 hcell hwin hfe
      (have a_0 := hW.cell 0); (have a_1 := hW.cell 1); simp only [List.getElem?_toArray, List.getElem?_cons_succ, List.getElem?_cons_zero] at a_0 a_1
      go_wp2_with fail
      refine (HAR.out wr rr hbl hrr).mono ?_
      rintro e w5 ⟨rfl, hb5⟩
      have hW5 := hW.below hb5 hsz
      have hF5 := hF.below hb5
      have hbl5 := hbl.trans (hb5.mono hbl.size)
      clear hb5 hW hF hbl a_0 a_1 hcr hrr
      by_cases hz : z ≤ 0
      · have HX := Lib.hid (HY.out hz)
        go_wp2
        go_ret
        exact ⟨ret_int (by rw [HR.out, HK.out, HX.out]), hbl5⟩
      · have HX := Lib.hid (HNo.out (by omega))
        go_wp2
        go_roundw
        case rel => exact ⟨k + 1, by omega, by go_num, Lib.hid (by rw [HK.out, HX.out]), hF5, hW5, hbl5⟩
        case measure => simp [intOf]; omega
    · have hkk : k = F.length := by omega
      have HX : Hid (outerK ns ls F (F.length - k) k = -1) := Lib.hid (by rw [hkk, Nat.sub_self]; exact HOZ.out _)
      clear hkk
      go_wp2
      go_ret
      exact ⟨ret_int (by rw [HR.out, HK.out, HX.out]), hbl⟩

set_option maxHeartbeats 4000000 in
set_option maxRecDepth 100000 in
theorem sOuter_any (vn vl : Value) (ns ls : List Pr) (w : World) (hn : RP w vn ns) (hl : RP w vl ls) :
    Calls Tryz.prog 35 #[.agg #[vn, vl]] w fun e w' => e = .returned (.int .i64 (outerW ns ls)) ∧ Below w.heap.size w w' := by
  have hb0 : Below w.heap.size w (w.alloc (.cells #[vn, vl] 34)) := by (repeat' (first | (with_reducible exact Below.refl _ _) | (with_reducible assumption) | (with_reducible refine Below.drew ?_) | (with_reducible refine below_drewN ?_ _) | (with_reducible refine Below.alloc ?_ ?_ _) | (with_reducible refine Below.setCell ?_ ?_ _) | (with_reducible refine Below.step (by assumption) ?_ ?_))); all_goals (first | omega | (simp; done) | (simp; omega))
  have hW0 : Blk (w.alloc (.cells #[vn, vl] 34)) w.heap.size 34 #[vn, vl] := Blk.newAt rfl
  have HAT := Lib.hid (fun k hk => facesW_at (ns := ns) (ls := ls) (k := k) hk)
  have hfl := facesW_len ns ls
  have HR : Hid (outerW ns ls = outerK ns ls (facesW ns ls) (facesW ns ls).length 0) := Lib.hid rfl
  have HOY := Lib.hid (fun m k h => outerK_yes (ns := ns) (ls := ls) (F := facesW ns ls) (m := m) (k := k) h)
  have HON := Lib.hid (fun m k h => outerK_no (ns := ns) (ls := ls) (F := facesW ns ls) (m := m) (k := k) h)
  have HOZ : Hid (∀ k, outerK ns ls (facesW ns ls) 0 k = -1) := Lib.hid (fun _ => rfl)
  go_enter Tryz.func35, Tryz.ntmps35
  go_wp2_with fail
  refine (sFaces_any vn vl ns ls _ (hn.below hb0) (hl.below hb0)).mono ?_
  rintro e w1 ⟨v1, rfl, ho1, hb1⟩
  have hbw1 := hb0.trans (hb1.mono hb0.size)
  have hW1 := hW0.below hb1 hW0.lt
  have hF1 := ho1.reads
  generalize facesW ns ls = F at *
  obtain ⟨A1, c1, rfl, hc1, hm1, hcell1⟩ := hF1.get
  unfold maxLen at hm1
  clear hb1 hb0 hW0 ho1 hcell1
  (have a_0 := hW1.cell 0); (have a_1 := hW1.cell 1); simp only [List.getElem?_toArray, List.getElem?_cons_succ, List.getElem?_cons_zero] at a_0 a_1
  go_wp2
  go_loopw [4] (fun x wr => ∃ k : Nat, k ≤ F.length ∧ x = .int .i64 k ∧ Hid (outerK ns ls F F.length 0 = outerK ns ls F (F.length - k) k) ∧ RF wr (.slice A1 F.length c1) F ∧ Blk wr w.heap.size 34 #[vn, vl] ∧ Below w.heap.size w wr) (fun x _ => F.length - (intOf x).toNat)
  case atStart => exact ⟨0, Nat.zero_le _, rfl, Lib.hid rfl, hF1, hW1, hbw1⟩
  case round =>
    clear hF1 hW1 hbw1 a_0 a_1
    obtain ⟨k, hk, rfl, HK, hF, hW, hbl⟩ := hrel
    have hsz := hW.lt
    by_cases hlt : k < F.length
    · have hlt1 : (k : Int) < (F.length : Int) := by omega
      have ik1 : (0 : Int) ≤ (k : Int) := by omega
      obtain ⟨A2, c2, he2, _, _, hcell⟩ := hF.get
      cases he2
      obtain ⟨b4, off4, rfl, hb4, hcl4⟩ := hcell (by omega)
      obtain ⟨rr, hcr, hrr⟩ := hcl4 k hlt
      obtain ⟨hwin, hfe, hf0, hf40⟩ := HAT.out k hlt
      have HAR := Lib.hid (fun (v : World) (u : Value) (hb : Below w.heap.size w v) (hu : RI v u (natI (F.getD k []))) => sAreaOf_any vn vl u ns ls (F.getD k []) v (hn.below hb) (hl.below hb) hu hfe hf40 hwin)
      have HY := Lib.hid (fun h => HOY.out (F.length - (k + 1)) k h)
      have HNo := Lib.hid (fun h => HON.out (F.length - (k + 1)) k h)
      rw [show F.length - (k + 1) + 1 = F.length - k by omega] at HY HNo
      generalize areaF ns ls (F.getD k []) = z at *
      clear hcl4 hcell hwin hfe
      (have a_0 := hW.cell 0); (have a_1 := hW.cell 1); simp only [List.getElem?_toArray, List.getElem?_cons_succ, List.getElem?_cons_zero] at a_0 a_1
      go_wp2_with fail
      (refine wp_region_quietG (by kernel_rfl) (by kernel_rfl) (fun hG => ?_))
      repeat (go_big_quiet_step ((go_at_call 55; exact quietG (HAR.out _ rr (hbl.trans (Below.mono (Grw.below _) hbl.size)) (RS.grw _ hrr)))))
      refine wpQuiet_nil ?_
      clear hG
      rintro w5 ⟨⟨_, hb5⟩, rfl⟩
      have hW5 := hW.below hb5 hsz
      have hF5 := hF.below hb5
      have hbl5 := hbl.trans (hb5.mono hbl.size)
      clear hb5 hW hF hbl a_0 a_1 hcr hrr
      by_cases hz : z ≤ 0
      · have HX := Lib.hid (HY.out hz)
        go_wp2
        go_ret
        exact ⟨ret_int (by rw [HR.out, HK.out, HX.out]), hbl5⟩
      · have HX := Lib.hid (HNo.out (by omega))
        go_wp2
        go_roundw
        case rel => exact ⟨k + 1, by omega, by go_num, Lib.hid (by rw [HK.out, HX.out]), hF5, hW5, hbl5⟩
        case measure => simp [intOf]; omega
    · have hkk : k = F.length := by omega
      have HX : Hid (outerK ns ls F (F.length - k) k = -1) := Lib.hid (by rw [hkk, Nat.sub_self]; exact HOZ.out _)
      clear hkk
      go_wp2
      go_ret
      exact ⟨ret_int (by rw [HR.out, HK.out, HX.out]), hbl⟩

theorem iOuter_at (vn vl : Value) (ns ls : List Pr) (z : Int) (w : World) (hn : RP w vn ns) (hl : RP w vl ls) (hz : outerW ns ls = z) :
    Calls Tryz.prog 43 #[.agg #[vn, vl]] w fun e w' => e = .returned (.int .i64 z) ∧ Below w.heap.size w w' := by
  subst hz; exact iOuter_any vn vl ns ls w hn hl

theorem sOuter_at (vn vl : Value) (ns ls : List Pr) (z : Int) (w : World) (hn : RP w vn ns) (hl : RP w vl ls) (hz : outerW ns ls = z) :
    Calls Tryz.prog 35 #[.agg #[vn, vl]] w fun e w' => e = .returned (.int .i64 z) ∧ Below w.heap.size w w' := by
  subst hz; exact sOuter_any vn vl ns ls w hn hl

set_option maxHeartbeats 4000000 in
set_option maxRecDepth 100000 in
theorem iArea_any (vn vl : Value) (ns ls : List Pr) (f : Int) (w : World) (hn : RP w vn ns) (hl : RP w vl ls) :
    Calls Tryz.prog 44 #[.agg #[vn, vl], .int .i64 f] w fun e w' => e = .returned (.int .i64 (areaW ns ls f)) ∧ Below w.heap.size w w' := by
  have hb0 : Below w.heap.size w (w.alloc (.cells #[vn, vl] 34)) := by (repeat' (first | (with_reducible exact Below.refl _ _) | (with_reducible assumption) | (with_reducible refine Below.drew ?_) | (with_reducible refine below_drewN ?_ _) | (with_reducible refine Below.alloc ?_ ?_ _) | (with_reducible refine Below.setCell ?_ ?_ _) | (with_reducible refine Below.step (by assumption) ?_ ?_))); all_goals (first | omega | (simp; done) | (simp; omega))
  have hW0 : Blk (w.alloc (.cells #[vn, vl] 34)) w.heap.size 34 #[vn, vl] := Blk.newAt rfl
  have HAT := Lib.hid (fun k hk => facesW_at (ns := ns) (ls := ls) (k := k) hk)
  have hfl := facesW_len ns ls
  have HFA := Lib.hid (fun (v : World) (hb : Below w.heap.size w v) => iFaces_any vn vl ns ls v (hn.below hb) (hl.below hb))
  have HRR : Hid (areaW ns ls f = if inB f 0 (((facesW ns ls).length : Int) - 1) then ((areaF ns ls ((facesW ns ls).getD f.toNat [])).natAbs : Int) else -1) := Lib.hid rfl
  generalize facesW ns ls = F at *
  cases hin : inB f 0 ((F.length : Int) - 1)
  · have HR : Hid (areaW ns ls f = -1) := Lib.hid (by rw [HRR.out, hin]; rfl)
    have HIN := Lib.hid hin
    clear hin
    go_enter Tryz.func44, Tryz.ntmps44
    go_wp2_with fail
    refine (HFA.out _ hb0).mono ?_
    rintro e w1 ⟨v1, rfl, ho1, hb1⟩
    obtain ⟨A1, c1, rfl⟩ := ho1.form
    have hbw1 := hb0.trans (hb1.mono hb0.size)
    go_wp2_with fail
    refine (within_any _ _ _ _).mono ?_
    rintro e w' ⟨rfl, rfl⟩
    rw [HIN.out]
    go_wp2
    go_ret
    exact ⟨ret_int HR.out.symm, hbw1⟩
  · obtain ⟨k, rfl⟩ : ∃ k : Nat, f = k := ⟨f.toNat, by have := inB_true.1 hin; omega⟩
    have hk : k < F.length := by have := inB_true.1 hin; omega
    have HR : Hid (areaW ns ls k = ((areaF ns ls (F.getD k [])).natAbs : Int)) := Lib.hid (by rw [HRR.out, hin]; rfl)
    obtain ⟨hwin, hfe, hf0, hf40⟩ := HAT.out k hk
    have hbd := areaF_bd hwin hfe hf40
    have HAR := Lib.hid (fun (v : World) (u : Value) (hb : Below w.heap.size w v) (hu : RI v u (natI (F.getD k []))) => iAreaOf_any vn vl u ns ls (F.getD k []) v (hn.below hb) (hl.below hb) hu hfe hf40 hwin)
    generalize areaF ns ls (F.getD k []) = z at *
    obtain ⟨z1, z2⟩ := hbd
    have HIN := Lib.hid hin
    have hk1 : (k : Int) < (F.length : Int) := by omega
    have ik1 : (0 : Int) ≤ (k : Int) := by omega
    clear hin hwin hfe
    go_enter Tryz.func44, Tryz.ntmps44
    go_wp2_with fail
    refine (HFA.out _ hb0).mono ?_
    rintro e w1 ⟨v1, rfl, ho1, hb1⟩
    have hF1 := ho1.reads
    have hbw1 := hb0.trans (hb1.mono hb0.size)
    have hW1 := hW0.below hb1 hW0.lt
    obtain ⟨A1, c1, rfl, hc1, hm1, hcell1⟩ := hF1.get
    unfold maxLen at hm1
    obtain ⟨b4, off4, rfl, hb4, hcl4⟩ := hcell1 (by omega)
    obtain ⟨rr, hcr, hrr⟩ := hcl4 k hk
    clear hb1 hb0 hW0 ho1 hcell1 hcl4
    (have a_0 := hW1.cell 0); (have a_1 := hW1.cell 1); simp only [List.getElem?_toArray, List.getElem?_cons_succ, List.getElem?_cons_zero] at a_0 a_1
    have hs1 := hW1.lt
    go_wp2_with fail
    refine (within_any _ _ _ _).mono ?_
    rintro e w' ⟨rfl, rfl⟩
    rw [HIN.out]
    go_wp2_with fail
    (refine wp_region_quietG (by kernel_rfl) (by kernel_rfl) (fun hG => ?_))
    repeat (go_big_quiet_step (first | (go_at_call 71; exact quietG (HAR.out _ rr (hbw1.trans (Below.mono (Grw.below _) hbw1.size)) (RS.grw _ hrr))) | (go_at_call 72; exact quietS (size_any z _ (by omega) (by omega)))))
    refine wpQuiet_nil ?_
    clear hG
    rintro w5 ⟨⟨_, hb5⟩, rfl⟩
    go_wp2
    go_ret
    exact ⟨ret_int HR.out.symm, hbw1.trans (hb5.mono hbw1.size)⟩

set_option maxHeartbeats 4000000 in
set_option maxRecDepth 100000 in
theorem sArea_any (vn vl : Value) (ns ls : List Pr) (f : Int) (w : World) (hn : RP w vn ns) (hl : RP w vl ls) :
    Calls Tryz.prog 20 #[.agg #[vn, vl], .int .i64 f] w fun e w' => e = .returned (.int .i64 (areaW ns ls f)) ∧ Below w.heap.size w w' := by
  have hb0 : Below w.heap.size w (w.alloc (.cells #[vn, vl] 34)) := by (repeat' (first | (with_reducible exact Below.refl _ _) | (with_reducible assumption) | (with_reducible refine Below.drew ?_) | (with_reducible refine below_drewN ?_ _) | (with_reducible refine Below.alloc ?_ ?_ _) | (with_reducible refine Below.setCell ?_ ?_ _) | (with_reducible refine Below.step (by assumption) ?_ ?_))); all_goals (first | omega | (simp; done) | (simp; omega))
  have hW0 : Blk (w.alloc (.cells #[vn, vl] 34)) w.heap.size 34 #[vn, vl] := Blk.newAt rfl
  have HAT := Lib.hid (fun k hk => facesW_at (ns := ns) (ls := ls) (k := k) hk)
  have hfl := facesW_len ns ls
  have HFA := Lib.hid (fun (v : World) (hb : Below w.heap.size w v) => sFaces_any vn vl ns ls v (hn.below hb) (hl.below hb))
  have HRR : Hid (areaW ns ls f = if inB f 0 (((facesW ns ls).length : Int) - 1) then ((areaF ns ls ((facesW ns ls).getD f.toNat [])).natAbs : Int) else -1) := Lib.hid rfl
  generalize facesW ns ls = F at *
  cases hin : inB f 0 ((F.length : Int) - 1)
  · have HR : Hid (areaW ns ls f = -1) := Lib.hid (by rw [HRR.out, hin]; rfl)
    have HIN := Lib.hid hin
    clear hin
    go_enter Tryz.func20, Tryz.ntmps20
    go_wp2_with fail
    refine (HFA.out _ hb0).mono ?_
    rintro e w1 ⟨v1, rfl, ho1, hb1⟩
    obtain ⟨A1, c1, rfl⟩ := ho1.form
    have hbw1 := hb0.trans (hb1.mono hb0.size)
    go_wp2_with fail
    refine (l01In_any _ _ _ _).mono ?_
    rintro e w' ⟨rfl, rfl⟩
    rw [HIN.out]
    go_wp2
    go_ret
    exact ⟨ret_int HR.out.symm, hbw1⟩
  · obtain ⟨k, rfl⟩ : ∃ k : Nat, f = k := ⟨f.toNat, by have := inB_true.1 hin; omega⟩
    have hk : k < F.length := by have := inB_true.1 hin; omega
    have HR : Hid (areaW ns ls k = ((areaF ns ls (F.getD k [])).natAbs : Int)) := Lib.hid (by rw [HRR.out, hin]; rfl)
    obtain ⟨hwin, hfe, hf0, hf40⟩ := HAT.out k hk
    have hbd := areaF_bd hwin hfe hf40
    have HAR := Lib.hid (fun (v : World) (u : Value) (hb : Below w.heap.size w v) (hu : RI v u (natI (F.getD k []))) => sAreaOf_any vn vl u ns ls (F.getD k []) v (hn.below hb) (hl.below hb) hu hfe hf40 hwin)
    generalize areaF ns ls (F.getD k []) = z at *
    obtain ⟨z1, z2⟩ := hbd
    have HIN := Lib.hid hin
    have hk1 : (k : Int) < (F.length : Int) := by omega
    have ik1 : (0 : Int) ≤ (k : Int) := by omega
    clear hin hwin hfe
    go_enter Tryz.func20, Tryz.ntmps20
    go_wp2_with fail
    refine (HFA.out _ hb0).mono ?_
    rintro e w1 ⟨v1, rfl, ho1, hb1⟩
    have hF1 := ho1.reads
    have hbw1 := hb0.trans (hb1.mono hb0.size)
    have hW1 := hW0.below hb1 hW0.lt
    obtain ⟨A1, c1, rfl, hc1, hm1, hcell1⟩ := hF1.get
    unfold maxLen at hm1
    obtain ⟨b4, off4, rfl, hb4, hcl4⟩ := hcell1 (by omega)
    obtain ⟨rr, hcr, hrr⟩ := hcl4 k hk
    clear hb1 hb0 hW0 ho1 hcell1 hcl4
    (have a_0 := hW1.cell 0); (have a_1 := hW1.cell 1); simp only [List.getElem?_toArray, List.getElem?_cons_succ, List.getElem?_cons_zero] at a_0 a_1
    have hs1 := hW1.lt
    go_wp2_with fail
    refine (l01In_any _ _ _ _).mono ?_
    rintro e w' ⟨rfl, rfl⟩
    rw [HIN.out]
    have e9 : mx2 z (-z) = (z.natAbs : Int) := by rw [mx2_eq]; omega
    go_wp2_with fail
    (refine wp_region_quietG (by kernel_rfl) (by kernel_rfl) (fun hG => ?_))
    repeat (go_big_quiet_step ((go_at_call 55; exact quietG (HAR.out _ rr (hbw1.trans (Below.mono (Grw.below _) hbw1.size)) (RS.grw _ hrr)))))
    refine wpQuiet_nil ?_
    clear hG
    rintro w5 ⟨⟨_, hb5⟩, rfl⟩
    go_wp2
    go_ret
    exact ⟨ret_int HR.out.symm, hbw1.trans (hb5.mono hbw1.size)⟩

set_option maxHeartbeats 4000000 in
set_option maxRecDepth 100000 in
theorem iTotal_any (vn vl : Value) (ns ls : List Pr) (w : World) (hn : RP w vn ns) (hl : RP w vl ls) :
    Calls Tryz.prog 45 #[.agg #[vn, vl]] w fun e w' => e = .returned (.int .i64 (totalW ns ls)) ∧ Below w.heap.size w w' := by
  have hb0 : Below w.heap.size w (w.alloc (.cells #[vn, vl] 34)) := by (repeat' (first | (with_reducible exact Below.refl _ _) | (with_reducible assumption) | (with_reducible refine Below.drew ?_) | (with_reducible refine below_drewN ?_ _) | (with_reducible refine Below.alloc ?_ ?_ _) | (with_reducible refine Below.setCell ?_ ?_ _) | (with_reducible refine Below.step (by assumption) ?_ ?_))); all_goals (first | omega | (simp; done) | (simp; omega))
  have hn0 := hn.below hb0
  have hl0 := hl.below hb0
  have HR : Hid (totalW ns ls = areaW ns ls (outerW ns ls)) := Lib.hid rfl
  generalize hz : outerW ns ls = z at *
  have HZ := Lib.hid hz
  clear hz
  go_enter Tryz.func45, Tryz.ntmps45
  go_wp2_with fail
  (refine wp_region_quietG (by kernel_rfl) (by kernel_rfl) (fun hG => ?_))
  repeat (go_big_quiet_step (first | (go_at_call 43; exact quietG (iOuter_at vn vl ns ls z _ (RS.grw _ hn0) (RS.grw _ hl0) HZ.out)) | (go_at_call 44; exact quietG (iArea_any vn vl ns ls z _ (RS.grw _ hn0) (RS.grw _ hl0)))))
  refine wpQuiet_nil ?_
  clear hG
  rintro w5 ⟨⟨_, hb5⟩, rfl⟩
  go_wp2
  go_ret
  exact ⟨ret_int HR.out.symm, hb0.trans (hb5.mono hb0.size)⟩

set_option maxHeartbeats 4000000 in
set_option maxRecDepth 100000 in
theorem sTotal_any (vn vl : Value) (ns ls : List Pr) (w : World) (hn : RP w vn ns) (hl : RP w vl ls) :
    Calls Tryz.prog 21 #[.agg #[vn, vl]] w fun e w' => e = .returned (.int .i64 (totalW ns ls)) ∧ Below w.heap.size w w' := by
  have hb0 : Below w.heap.size w (w.alloc (.cells #[vn, vl] 34)) := by (repeat' (first | (with_reducible exact Below.refl _ _) | (with_reducible assumption) | (with_reducible refine Below.drew ?_) | (with_reducible refine below_drewN ?_ _) | (with_reducible refine Below.alloc ?_ ?_ _) | (with_reducible refine Below.setCell ?_ ?_ _) | (with_reducible refine Below.step (by assumption) ?_ ?_))); all_goals (first | omega | (simp; done) | (simp; omega))
  have hn0 := hn.below hb0
  have hl0 := hl.below hb0
  have HR : Hid (totalW ns ls = areaW ns ls (outerW ns ls)) := Lib.hid rfl
  generalize hz : outerW ns ls = z at *
  have HZ := Lib.hid hz
  clear hz
  go_enter Tryz.func21, Tryz.ntmps21
  go_wp2_with fail
  (refine wp_region_quietG (by kernel_rfl) (by kernel_rfl) (fun hG => ?_))
  repeat (go_big_quiet_step (first | (go_at_call 35; exact quietG (sOuter_at vn vl ns ls z _ (RS.grw _ hn0) (RS.grw _ hl0) HZ.out)) | (go_at_call 20; exact quietG (sArea_any vn vl ns ls z _ (RS.grw _ hn0) (RS.grw _ hl0)))))
  refine wpQuiet_nil ?_
  clear hG
  rintro w5 ⟨⟨_, hb5⟩, rfl⟩
  go_wp2
  go_ret
  exact ⟨ret_int HR.out.symm, hb0.trans (hb5.mono hb0.size)⟩

end Go.Proofs.YtognjdappchpkaaGreat

namespace Go.Proofs.YtognjdappchpkaaGreat
open Go.RowKit

theorem OwnF.get {base : Nat} {w : World} {v : Value} {F : List (List Nat)} (h : OwnF base w v F) {k : Nat} (hk : k < F.length) : ∃ g c u, v = .slice (some ⟨g, 0, none⟩) F.length c ∧ F.length ≤ c ∧ base ≤ g ∧ g < w.heap.size ∧ w.cell? ⟨g, k, none⟩ = some u ∧ OwnI base w u (natI (F.getD k [])) := by
  obtain ⟨vs, h1, h2, h3⟩ := h
  rcases h2.2 with ⟨_, hn⟩ | ⟨g, cap, cur, rfl, hb, hh, hc, _⟩
  · omega
  · refine ⟨g, cap, vs.getD k undef, rfl, hc, hb, (World.ownsRow.lt h2 g rfl).2, ?_, h3 k hk⟩
    rw [h2.cellAt k (by omega), List.getD, List.getElem?_eq_getElem (by omega)]
    rfl

theorem OwnI.blk {base : Nat} {w : World} {u : Value} {zs : List Int} (h : OwnI base w u zs) (h0 : 0 < zs.length) : ∃ g c, u = .slice (some ⟨g, 0, none⟩) zs.length c ∧ zs.length ≤ c ∧ base ≤ g ∧ g < w.heap.size ∧ ∀ q, q < zs.length → w.cell? ⟨g, q, none⟩ = some (.int .i64 (zs.getD q 0)) := by
  rcases h.2 with ⟨_, hn⟩ | ⟨g, cap, cur, rfl, hb, hh, hc, _⟩
  · omega
  · exact ⟨g, cap, rfl, hc, hb, (h.lt g rfl).2, fun q hq => h.cell hq⟩

/-- append(ints, x), told where it lies. -/
theorem wpList_append_i {w : World} {ops : Array Oper} {rest : List Oper} {o : Oper} {a : Act} {Q : Exit → Act → World → Prop} (hgd : o.guard = none) (s x : Operand)
    (ho : o.op = .call { callee := .builtin .append, args := #[s, x], argTypes := #[28, 28] })
    (base : Nat) (v : Value) (zs : List Int) (z : Int) (hs : a.eval s = v) (g : Nat) (hx : a.eval x = .slice (some ⟨g, 0, none⟩) 1 1) (hg : w.cell? ⟨g, 0, none⟩ = some (.int .i64 z))
    (hown : OwnI base w v zs) (hlen : zs.length ≤ 1048576) (hbase : base ≤ w.heap.size)
    (h : ∀ v' w', OwnI base w' v' (zs ++ [z]) → w.grownBy w' v.ownBlock → (v'.ownBlock = v.ownBlock ∨ v'.ownBlock = some w.heap.size) → wpList Tryz.prog ops Q rest (a.put o.dst v') w') : wpList Tryz.prog ops Q (o :: rest) a w := by
  obtain ⟨i, hi, hz, hsize, hby⟩ := info_parts infoInt
  exact wpList_append_own_at w hgd s x 28 ho base 3 i (.int .i64 0) 1 8 Tryz.underlying28 hi hz hsize hby rfl (by decide) v zs.length _ hs hown ⟨g, 0, none⟩ 1 1 [.int .i64 z] hx rfl
    (fun j y hj => by
      match j, hj with
      | 0, hj => cases hj; exact hg
      | j + 1, hj => simp at hj)
    (by intro y hy; simp at hy; subst hy; rfl) (by unfold maxLen; omega) (by omega) hbase fun v' w' e1 e2 _ e3 => h v' w' (OwnI.snoc e1) e2 e3

/-- The nodes at which the first k darts of a face begin. -/
def nodK (ls : List Pr) (f : List Nat) (k : Nat) : List Int := (f.take k).map (dFrom ls)
theorem nodK_succ {ls : List Pr} {f : List Nat} {k : Nat} (h : k < f.length) : nodK ls f (k + 1) = nodK ls f k ++ [dFrom ls (f.getD k 0)] := by
  unfold nodK
  rw [List.take_succ_eq_append_getElem h, List.map_append, show f.getD k 0 = f[k] by simp [List.getD, h]]
  rfl
theorem nodK_len {ls : List Pr} {f : List Nat} {k : Nat} (h : k ≤ f.length) : (nodK ls f k).length = k := by simp [nodK]; omega
def nodF (ls : List Pr) (f : List Nat) : List Int := nodK ls f f.length
theorem nodF_len (ls : List Pr) (f : List Nat) : (nodF ls f).length = f.length := nodK_len (Nat.le_refl _)

/-- The nodes of a face of a window, or none. -/
noncomputable def paneN (ns ls : List Pr) (f : Int) : List Int := if inB f 0 (((facesW ns ls).length : Int) - 1) then nodF ls ((facesW ns ls).getD f.toNat []) else []

/-- A face that is a pane. -/
noncomputable def paneB (ns ls : List Pr) (f : Int) : Bool := decide (0 < (paneN ns ls f).length) && (@decide ((paneN ns ls f).Nodup) (Classical.propDecidable _) && !(decide (f = outerW ns ls)))

theorem paneN_no {ns ls : List Pr} {f : Int} (h : inB f 0 (((facesW ns ls).length : Int) - 1) = false) : paneN ns ls f = [] := by simp [paneN, h]
theorem paneN_yes {ns ls : List Pr} {k : Nat} (h : k < (facesW ns ls).length) : paneN ns ls k = nodF ls ((facesW ns ls).getD k []) := by
  unfold paneN
  rw [if_pos (inB_true.2 (by omega)), Int.toNat_natCast]
theorem paneN_len (ns ls : List Pr) (f : Int) : (paneN ns ls f).length ≤ 40 := by
  cases h : inB f 0 (((facesW ns ls).length : Int) - 1)
  · rw [paneN_no h]; simp
  · obtain ⟨k, rfl⟩ : ∃ k : Nat, f = k := ⟨f.toNat, by have := inB_true.1 h; omega⟩
    have hk : k < (facesW ns ls).length := by have := inB_true.1 h; omega
    rw [paneN_yes hk, nodF_len]
    exact (facesW_at hk).2.2.2

set_option maxHeartbeats 8000000 in
set_option maxRecDepth 100000 in
theorem sPaneN_any (vn vl : Value) (ns ls : List Pr) (f : Int) (w : World) (hn : RP w vn ns) (hl : RP w vl ls) :
    Calls Tryz.prog 80 #[.agg #[vn, vl], .int .i64 f] w (RetI (paneN ns ls f) w) := by
  have hba : Below w.heap.size w ((w.alloc (.cells #[vn, vl] 34)).alloc (.cells #[] 3)) := by (repeat' (first | (with_reducible exact Below.refl _ _) | (with_reducible assumption) | (with_reducible refine Below.drew ?_) | (with_reducible refine below_drewN ?_ _) | (with_reducible refine Below.alloc ?_ ?_ _) | (with_reducible refine Below.setCell ?_ ?_ _) | (with_reducible refine Below.step (by assumption) ?_ ?_))); all_goals (first | omega | (simp; done) | (simp; omega))
  have hWA : Blk ((w.alloc (.cells #[vn, vl] 34)).alloc (.cells #[] 3)) w.heap.size 34 #[vn, vl] := (Blk.newAt rfl).alloc _
  have hOA : OwnI (w.heap.size + 1) ((w.alloc (.cells #[vn, vl] 34)).alloc (.cells #[] 3)) (.slice (some ⟨w.heap.size + 1, 0, none⟩) 0 0) [] := OwnI.made (by simp) (by simp)
  have hfl := facesW_len ns ls
  have HFA := Lib.hid (fun (v : World) (hb : Below w.heap.size w v) => sFaces_any vn vl ns ls v (hn.below hb) (hl.below hb))
  obtain ⟨i0, hi, iz0, iz1, iz2⟩ := info_parts infoInt
  cases hin : inB f 0 (((facesW ns ls).length : Int) - 1)
  · have HR := Lib.hid (paneN_no (f := f) hin)
    generalize facesW ns ls = F at *
    have HIN := Lib.hid hin
    clear hin
    go_enter Tryz.func80, Tryz.ntmps80
    go_wp2_with fail
    refine (HFA.out _ hba).mono ?_
    rintro e w1 ⟨v1, rfl, ho1, hb1⟩
    obtain ⟨A1, c1, rfl⟩ := ho1.form
    have hO1 := hOA.kept hb1
    have hbw1 := hba.trans (hb1.mono hba.size)
    go_wp2_with fail
    refine (l01In_any _ _ _ _).mono ?_
    rintro e w' ⟨rfl, rfl⟩
    rw [HIN.out]
    go_wp2
    go_ret
    exact ⟨_, rfl, by rw [HR.out]; exact hO1.mono (by omega), hbw1⟩
  · obtain ⟨k, rfl⟩ : ∃ k : Nat, f = k := ⟨f.toNat, by have := inB_true.1 hin; omega⟩
    have hk : k < (facesW ns ls).length := by have := inB_true.1 hin; omega
    have HR := Lib.hid (paneN_yes hk)
    obtain ⟨hwin, hfe, hf0, hf40⟩ := facesW_at hk
    have hm20 := hwin.2.2.1
    generalize facesW ns ls = F at *
    generalize hff : F.getD k [] = ff at *
    have HFF := Lib.hid hff
    have HFE := Lib.hid hfe
    have HNS := Lib.hid (fun j hj => nodK_succ (ls := ls) (f := ff) (k := j) hj)
    have HNL := Lib.hid (fun j hj => nodK_len (ls := ls) (f := ff) (k := j) hj)
    have HN0 : Hid (nodK ls ff 0 = []) := Lib.hid rfl
    have HNF : Hid (nodF ls ff = nodK ls ff ff.length) := Lib.hid rfl
    have HIN := Lib.hid hin
    have hk1 : (k : Int) < (F.length : Int) := by omega
    have ik1 : (0 : Int) ≤ (k : Int) := by omega
    clear hin hwin hfe hff
    go_enter Tryz.func80, Tryz.ntmps80
    go_wp2_with fail
    refine (HFA.out _ hba).mono ?_
    rintro e w1 ⟨v1, rfl, ho1, hb1⟩
    have hbw1 := hba.trans (hb1.mono hba.size)
    have hW1 := hWA.below hb1 hWA.lt
    have hO1 := hOA.kept hb1
    obtain ⟨b4, c1, rr, rfl, hc1, hB4, hb4, hcr, hrr⟩ := ho1.get hk
    rw [HFF.out] at hrr
    have hnl := natI_length ff
    obtain ⟨b5, c2, rfl, hc2, hB5, hb5, hcl5⟩ := hrr.blk (by omega)
    rw [hnl] at hcl5 hcr hc2
    have HCL5 := Lib.hid hcl5
    have hap4 : w.heap.size + 1 ≠ b4 := by simp at hB4; omega
    have hap5 : w.heap.size + 1 ≠ b5 := by simp at hB5; omega
    clear hb1 hba hWA hOA ho1 hcl5 hrr hB4 hB5 hnl
    go_wp2_with fail
    refine (l01In_any _ _ _ _).mono ?_
    rintro e w' ⟨rfl, rfl⟩
    rw [HIN.out]
    go_wp2
    go_loopw [5, 7] (fun v x wr => ∃ j : Nat, j ≤ ff.length ∧ x = .int .i64 j ∧ OwnI (w.heap.size + 1) wr v (nodK ls ff j) ∧ Blk wr w.heap.size 34 #[vn, vl] ∧ Below w.heap.size w wr ∧ wr.cell? ⟨b4, k, none⟩ = some (.slice (some ⟨b5, 0, none⟩) ff.length c2) ∧ w1.heap.size ≤ wr.heap.size ∧ (∀ q, v.ownBlock = some q → q ≠ b4 ∧ q ≠ b5) ∧ Hid (∀ q, q < ff.length → wr.cell? ⟨b5, q, none⟩ = some (.int .i64 ((natI ff).getD q 0)))) (fun _ x _ => ff.length - (intOf x).toNat)
    case atStart => exact ⟨0, Nat.zero_le _, rfl, by rw [HN0.out]; exact hO1, hW1, hbw1, hcr, Nat.le_refl _, fun q hq => (by cases hq; exact ⟨hap4, hap5⟩), HCL5⟩
    case round =>
      clear hO1 hW1 hbw1 hcr
      obtain ⟨j, hj, rfl, ho, hW, hbl, hcr, hzz, hap, HCL⟩ := hrel
      have hsz := hW.lt
      have hb42 : b4 < wr.heap.size := by omega
      have hb52 : b5 < wr.heap.size := by omega
      (have a_0 := hW.cell 0); (have a_1 := hW.cell 1); simp only [List.getElem?_toArray, List.getElem?_cons_succ, List.getElem?_cons_zero] at a_0 a_1
      by_cases hlt : j < ff.length
      · have hlt1 : (j : Int) < (ff.length : Int) := by omega
        have ij1 : (0 : Int) ≤ (j : Int) := by omega
        have hx := HCL.out j hlt
        rw [natI_get] at hx
        have hem : ff.getD j 0 < 2 * ls.length := HFE.out _ (by rw [List.getD, List.getElem?_eq_getElem hlt]; exact List.getElem_mem hlt)
        have HS := Lib.hid (HNS.out j hlt)
        have hgl := HNL.out j hj
        generalize ff.getD j 0 = d at *
        have hlr : RP wr vl ls := hl.below hbl
        go_wp2_with fail
        (refine wp_region_quietG (by kernel_rfl) (by kernel_rfl) (fun hG => ?_))
        repeat (go_big_quiet_step ((go_at_call 81; exact quietG (sEnds_any _ _ ls d _ (RS.grw _ hlr) hem))))
        refine wpQuiet_nil ?_
        clear hG
        rintro w3 ⟨⟨_, hb3⟩, rfl⟩
        have ho3 := ho.kept hb3
        have hW3 := hW.below hb3 hsz
        have hbl3 := hbl.trans (hb3.mono hbl.size)
        have hcr3 := (hb3.cell (p := ⟨b4, k, none⟩) hb42).trans hcr
        have HCL3 : Hid (∀ q, q < ff.length → w3.cell? ⟨b5, q, none⟩ = some (.int .i64 ((natI ff).getD q 0))) := Lib.hid (fun q hq => (hb3.cell (p := ⟨b5, q, none⟩) hb52).trans (HCL.out q hq))
        have hz3 := hb3.size
        generalize dFrom ls d = z at *
        generalize nodK ls ff j = G at *
        clear hb3 ho hW hbl hcr HCL hx hlr a_0 a_1
        go_wp2_with (at_builtin; refine wpList_append_i rfl _ _ rfl (w.heap.size + 1) _ G z rfl w3.heap.size rfl (cell_new1 rfl) (ho3.alloc _) (by omega) (by simp; omega) ?_)
        intro v2 w2 ho2 hg2 hw2
        have hbl2 : Below w.heap.size w w2 := (hbl3.alloc hbl3.size (.cells #[.int .i64 z] 3)).grown hg2 (by simp; omega) (fun q hq => by have := (ho3.lt q hq).1; omega)
        have hW2 : Blk w2 w.heap.size 34 #[vn, vl] := (hg2.block _ (by simp; omega) (fun e => by have := (ho3.lt _ e.symm).1; omega)).trans (hW3.alloc _)
        have hc4 : w2.cell? ⟨b4, k, none⟩ = some (.slice (some ⟨b5, 0, none⟩) ff.length c2) := by
          rw [World.cell?_of_block (hg2.block b4 (by simp; omega) (fun e => (hap b4 e.symm).1 rfl))]
          exact (((Below.refl w3.heap.size w3).alloc (Nat.le_refl _) _).cell (p := ⟨b4, k, none⟩) (show b4 < w3.heap.size by omega)).trans hcr3
        have HC5 : Hid (∀ q, q < ff.length → w2.cell? ⟨b5, q, none⟩ = some (.int .i64 ((natI ff).getD q 0))) := Lib.hid (fun q hq => by
          rw [World.cell?_of_block (hg2.block b5 (by simp; omega) (fun e => (hap b5 e.symm).2 rfl))]
          exact (((Below.refl w3.heap.size w3).alloc (Nat.le_refl _) _).cell (p := ⟨b5, q, none⟩) (show b5 < w3.heap.size by omega)).trans (HCL3.out q hq))
        have hz2 := hg2.size
        simp at hz2
        have hap2 : ∀ q, v2.ownBlock = some q → q ≠ b4 ∧ q ≠ b5 := by
          intro q hq
          rcases hw2 with h | h
          · rw [h] at hq; exact hap q hq
          · rw [h] at hq
            simp at hq
            omega
        clear hg2 hw2 ho3 hW3 hbl3 hcr3 HCL3 hap
        go_wp2
        go_roundw
        case rel => exact ⟨j + 1, by omega, by go_num, by rw [HS.out]; exact ho2, hW2, hbl2, hc4, by omega, hap2, HC5⟩
        case measure => simp [intOf]; omega
      · have hjj : j = ff.length := by omega
        subst hjj
        go_wp2
        go_ret
        exact ⟨_, rfl, by rw [HR.out, HNF.out]; exact ho.mono (by omega), hbl⟩

/-- The first k numbers of a list are apart. -/
def disK (G : List Int) (k : Nat) : Prop := ∀ i j, i < j → j < k → G.getD i 0 ≠ G.getD j 0
theorem disK_zero (G : List Int) : disK G 0 := fun i j _ h => absurd h (by omega)
theorem disK_succ {G : List Int} {k : Nat} (h : disK G k) (h2 : ∀ i, i < k → G.getD i 0 ≠ G.getD k 0) : disK G (k + 1) := by
  intro i j h3 h4
  rcases Nat.lt_succ_iff_lt_or_eq.1 h4 with h5 | h5
  · exact h i j h3 h5
  · subst h5; exact h2 i h3
theorem disK_nodup {G : List Int} : disK G G.length ↔ G.Nodup := by
  rw [List.nodup_iff_pairwise_ne, List.pairwise_iff_getElem]
  constructor
  · intro h i j hi hj hij
    have := h i j hij hj
    simpa [List.getD, hi, hj] using this
  · intro h i j hij hj
    have := h i j (by omega) hj hij
    simpa [List.getD, hj, show i < G.length by omega] using this

theorem pane_no0 {ns ls : List Pr} {f : Int} (h : (paneN ns ls f).length = 0) : paneB ns ls f = false := by simp [paneB, h]
theorem pane_no1 {ns ls : List Pr} {f : Int} {i j : Nat} (hij : i < j) (hj : j < (paneN ns ls f).length) (h : (paneN ns ls f).getD i 0 = (paneN ns ls f).getD j 0) : paneB ns ls f = false := by
  have : ¬ (paneN ns ls f).Nodup := fun hn => disK_nodup.2 hn i j hij hj h
  unfold paneB
  simp [this]
theorem pane_yes {ns ls : List Pr} {f : Int} (h0 : 0 < (paneN ns ls f).length) (h : disK (paneN ns ls f) (paneN ns ls f).length) : paneB ns ls f = !(decide (f = outerW ns ls)) := by
  have h1 := disK_nodup.1 h
  have h2 : decide (0 < (paneN ns ls f).length) = true := by simp; omega
  have h3 : @decide ((paneN ns ls f).Nodup) (Classical.propDecidable _) = true := by simp [h1]
  unfold paneB
  rw [h2, h3, Bool.true_and, Bool.true_and]

set_option maxHeartbeats 8000000 in
set_option maxRecDepth 100000 in
theorem sIsPane_any (vn vl : Value) (ns ls : List Pr) (f : Int) (w : World) (hn : RP w vn ns) (hl : RP w vl ls) :
    Calls Tryz.prog 53 #[.agg #[vn, vl], .int .i64 f] w fun e w' => e = .returned (.bool (paneB ns ls f)) ∧ Below w.heap.size w w' := by
  have hba : Below w.heap.size w (w.alloc (.cells #[vn, vl] 34)) := by (repeat' (first | (with_reducible exact Below.refl _ _) | (with_reducible assumption) | (with_reducible refine Below.drew ?_) | (with_reducible refine below_drewN ?_ _) | (with_reducible refine Below.alloc ?_ ?_ _) | (with_reducible refine Below.setCell ?_ ?_ _) | (with_reducible refine Below.step (by assumption) ?_ ?_))); all_goals (first | omega | (simp; done) | (simp; omega))
  have hWA : Blk (w.alloc (.cells #[vn, vl] 34)) w.heap.size 34 #[vn, vl] := Blk.newAt rfl
  have hle := paneN_len ns ls f
  have HN0 := Lib.hid (fun h => pane_no0 (ns := ns) (ls := ls) (f := f) h)
  have HN1 := Lib.hid (fun i j h1 h2 h3 => pane_no1 (ns := ns) (ls := ls) (f := f) (i := i) (j := j) h1 h2 h3)
  have HY := Lib.hid (fun h0 h => pane_yes (ns := ns) (ls := ls) (f := f) h0 h)
  have HPN := Lib.hid (fun (v : World) (hb : Below w.heap.size w v) => sPaneN_any vn vl ns ls f v (hn.below hb) (hl.below hb))
  have HOT := Lib.hid (fun (v : World) (hb : Below w.heap.size w v) => sOuter_any vn vl ns ls v (hn.below hb) (hl.below hb))
  generalize paneN ns ls f = G at *
  generalize outerW ns ls = o at *
  go_enter Tryz.func53, Tryz.ntmps53
  go_wp2_with fail
  refine (HPN.out _ hba).mono ?_
  rintro e w1 ⟨v1, rfl, ho1, hb1⟩
  have hbw1 := hba.trans (hb1.mono hba.size)
  have hW1 := hWA.below hb1 hWA.lt
  obtain ⟨A1, c1, rfl, hc1, hm1, hcell⟩ := ho1.reads.form
  have HCE := Lib.hid hcell
  unfold maxLen at hm1
  clear hb1 hba hWA ho1 hcell
  (have a_0 := hW1.cell 0); (have a_1 := hW1.cell 1); simp only [List.getElem?_toArray, List.getElem?_cons_succ, List.getElem?_cons_zero] at a_0 a_1
  go_wp2
  go_loopw [6] (fun x wr => ∃ k : Nat, k ≤ G.length ∧ x = .int .i64 k ∧ Hid (disK G k) ∧ Blk wr w.heap.size 34 #[vn, vl] ∧ Below w.heap.size w wr ∧ Below w1.heap.size w1 wr) (fun x _ => G.length - (intOf x).toNat)
  case atStart => exact ⟨0, Nat.zero_le _, rfl, Lib.hid (disK_zero G), hW1, hbw1, Below.refl _ _⟩
  case round =>
    clear hW1 hbw1 a_0 a_1
    obtain ⟨k, hk, rfl, HK, hW, hbl, hb1⟩ := hrel
    have hsz := hW.lt
    by_cases hlt : k < G.length
    · have hlt1 : (k : Int) < (G.length : Int) := by omega
      have ik1 : (0 : Int) ≤ (k : Int) := by omega
      go_wp2
      go_loopw [7] (fun x wr => ∃ i : Nat, i ≤ k ∧ x = .int .i64 i ∧ Hid (∀ q, q < i → G.getD q 0 ≠ G.getD k 0) ∧ Blk wr w.heap.size 34 #[vn, vl] ∧ Below w.heap.size w wr ∧ Below w1.heap.size w1 wr) (fun x _ => k - (intOf x).toNat)
      case atStart => exact ⟨0, Nat.zero_le _, rfl, Lib.hid (fun q hq => absurd hq (by omega)), hW, hbl, hb1⟩
      case round =>
        clear hW hbl hb1 hsz
        obtain ⟨i, hi, rfl, HI, hW, hbl, hb1⟩ := hrel
        have hsz := hW.lt
        by_cases hik : i < k
        · have hik1 : (i : Int) < (k : Int) := by omega
          have ii1 : (0 : Int) ≤ (i : Int) := by omega
          have ii2 : (i : Int) < (G.length : Int) := by omega
          obtain ⟨b4, off4, rfl, hb4, hcl4⟩ := HCE.out (by omega)
          have q0 := (hb1.cell (p := ⟨b4, off4 + i, none⟩) hb4).trans (hcl4 i (by omega))
          have q1 := (hb1.cell (p := ⟨b4, off4 + k, none⟩) hb4).trans (hcl4 k hlt)
          have hb42 : b4 < wr.heap.size := Nat.lt_of_lt_of_le hb4 hb1.size
          have HX := Lib.hid (fun h => HN1.out i k hik hlt h)
          have HNE : Hid (G.getD i 0 ≠ G.getD k 0 → ∀ q, q < i + 1 → G.getD q 0 ≠ G.getD k 0) := Lib.hid (fun h q hq => by
            rcases Nat.lt_succ_iff_lt_or_eq.1 hq with h1 | h1
            · exact HI.out q h1
            · subst h1; exact h)
          generalize hy : G.getD i 0 = y at *
          generalize hz : G.getD k 0 = z at *
          have HZZ := Lib.hid hz
          clear hcl4 hy hz
          by_cases he : y = z
          · have e1 : (y == z) = true := by simp [he]
            have HR := Lib.hid (HX.out he)
            clear he
            go_wp2_with fail
            (refine wp_region_quietG (by kernel_rfl) (by kernel_rfl) (fun hG => ?_))
            repeat (go_big_quiet_step (fail))
            refine wpQuiet_nil ?_
            clear hG
            rintro w3 ⟨⟨_, hb3⟩, rfl⟩
            go_wp2
            go_ret
            exact ⟨ret_bool HR.out.symm, hbl.trans (hb3.mono hbl.size)⟩
          · have e1 : (y == z) = false := by simp [he]
            have HNE2 := Lib.hid (HNE.out he)
            clear he
            go_wp2_with fail
            (refine wp_region_quietG (by kernel_rfl) (by kernel_rfl) (fun hG => ?_))
            repeat (go_big_quiet_step (fail))
            refine wpQuiet_nil ?_
            clear hG
            rintro w3 ⟨⟨_, hb3⟩, rfl⟩
            have hW3 := hW.below hb3 hsz
            have hbl3 := hbl.trans (hb3.mono hbl.size)
            have hb13 := hb1.trans (hb3.mono hb1.size)
            clear hW hbl hb1 hb3 q0 q1
            go_wp2
            go_roundw
            case rel => exact ⟨i + 1, by omega, by go_num, HNE2, hW3, hbl3, hb13⟩
            case measure => simp [intOf]; omega
        · have hii : i = k := by omega
          subst hii
          have HD := Lib.hid (disK_succ HK.out HI.out)
          go_wp2
          go_roundw
          case rel => exact ⟨i + 1, by omega, by go_num, HD, hW, hbl, hb1⟩
          case measure => simp [intOf]; omega
    · have hkk : k = G.length := by omega
      subst hkk
      by_cases h0 : G.length = 0
      · have HR := Lib.hid (HN0.out h0)
        have e1 : ¬ (0 : Int) < (G.length : Int) := by omega
        have e2 : ¬ 0 < G.length := by omega
        go_wp2
        go_ret
        exact ⟨ret_bool HR.out.symm, hbl⟩
      · have HR := Lib.hid (HY.out (by omega) HK.out)
        have e1 : (0 : Int) < (G.length : Int) := by omega
        have e2 : 0 < G.length := by omega
        (have a_0 := hW.cell 0); (have a_1 := hW.cell 1); simp only [List.getElem?_toArray, List.getElem?_cons_succ, List.getElem?_cons_zero] at a_0 a_1
        go_wp2_with fail
        refine (HOT.out _ hbl).mono ?_
        rintro e w5 ⟨rfl, hb5⟩
        go_wp2
        go_ret
        refine ⟨ret_bool ?_, hbl.trans (hb5.mono hbl.size)⟩
        rw [HR.out]
        by_cases hfo : f = o
        · simp [hfo]
        · simp [hfo]

theorem sIsPane_at (vn vl : Value) (ns ls : List Pr) (f : Int) (b : Bool) (w : World) (hn : RP w vn ns) (hl : RP w vl ls) (hb : paneB ns ls f = b) :
    Calls Tryz.prog 53 #[.agg #[vn, vl], .int .i64 f] w fun e w' => e = .returned (.bool b) ∧ Below w.heap.size w w' := by
  subst hb; exact sIsPane_any vn vl ns ls f w hn hl

/-- The panes among the first k faces. -/
noncomputable def panK (ns ls : List Pr) : Nat → List Int
  | 0 => []
  | k + 1 => if paneB ns ls k then panK ns ls k ++ [(k : Int)] else panK ns ls k
theorem panK_yes {ns ls : List Pr} {k : Nat} (h : paneB ns ls k = true) : panK ns ls (k + 1) = panK ns ls k ++ [(k : Int)] := by simp [panK, h]
theorem panK_no {ns ls : List Pr} {k : Nat} (h : paneB ns ls k = false) : panK ns ls (k + 1) = panK ns ls k := by simp [panK, h]
theorem panK_len (ns ls : List Pr) : ∀ k, (panK ns ls k).length ≤ k
  | 0 => by simp [panK]
  | k + 1 => by
    have := panK_len ns ls k
    cases h : paneB ns ls k
    · rw [panK_no h]; omega
    · rw [panK_yes h]; simp; omega

set_option maxHeartbeats 4000000 in
set_option maxRecDepth 100000 in
theorem sPanes_any (vn vl : Value) (ns ls : List Pr) (w : World) (hn : RP w vn ns) (hl : RP w vl ls) :
    Calls Tryz.prog 19 #[.agg #[vn, vl]] w (RetI (panK ns ls (facesW ns ls).length) w) := by
  have hba : Below w.heap.size w ((w.alloc (.cells #[vn, vl] 34)).alloc (.cells #[] 3)) := by (repeat' (first | (with_reducible exact Below.refl _ _) | (with_reducible assumption) | (with_reducible refine Below.drew ?_) | (with_reducible refine below_drewN ?_ _) | (with_reducible refine Below.alloc ?_ ?_ _) | (with_reducible refine Below.setCell ?_ ?_ _) | (with_reducible refine Below.step (by assumption) ?_ ?_))); all_goals (first | omega | (simp; done) | (simp; omega))
  have hWA : Blk ((w.alloc (.cells #[vn, vl] 34)).alloc (.cells #[] 3)) w.heap.size 34 #[vn, vl] := (Blk.newAt rfl).alloc _
  have hOA : OwnI (w.heap.size + 1) ((w.alloc (.cells #[vn, vl] 34)).alloc (.cells #[] 3)) (.slice (some ⟨w.heap.size + 1, 0, none⟩) 0 0) [] := OwnI.made (by simp) (by simp)
  have hfl := facesW_len ns ls
  have HFA := Lib.hid (fun (v : World) (hb : Below w.heap.size w v) => sFaces_any vn vl ns ls v (hn.below hb) (hl.below hb))
  have HIP := Lib.hid (fun (v : World) (f : Int) (b : Bool) (hb : Below w.heap.size w v) (h : paneB ns ls f = b) => sIsPane_at vn vl ns ls f b v (hn.below hb) (hl.below hb) h)
  have HPL := Lib.hid (panK_len ns ls)
  have HP0 : Hid (panK ns ls 0 = []) := Lib.hid rfl
  generalize facesW ns ls = F at *
  go_enter Tryz.func19, Tryz.ntmps19
  go_wp2_with fail
  refine (HFA.out _ hba).mono ?_
  rintro e w1 ⟨v1, rfl, ho1, hb1⟩
  obtain ⟨A1, c1, rfl⟩ := ho1.form
  have hbw1 := hba.trans (hb1.mono hba.size)
  have hW1 := hWA.below hb1 hWA.lt
  have hO1 := hOA.kept hb1
  clear hb1 hba hWA hOA ho1
  go_wp2
  go_loopw [3, 5] (fun v x wr => ∃ k : Nat, k ≤ F.length ∧ x = .int .i64 k ∧ OwnI (w.heap.size + 1) wr v (panK ns ls k) ∧ Blk wr w.heap.size 34 #[vn, vl] ∧ Below w.heap.size w wr) (fun _ x _ => F.length - (intOf x).toNat)
  case atStart => exact ⟨0, Nat.zero_le _, rfl, by rw [HP0.out]; exact hO1, hW1, hbw1⟩
  case round =>
    clear hO1 hW1 hbw1
    obtain ⟨k, hk, rfl, ho, hW, hbl⟩ := hrel
    have hsz := hW.lt
    (have a_0 := hW.cell 0); (have a_1 := hW.cell 1); simp only [List.getElem?_toArray, List.getElem?_cons_succ, List.getElem?_cons_zero] at a_0 a_1
    by_cases hlt : k < F.length
    · have hlt1 : (k : Int) < (F.length : Int) := by omega
      cases hp : paneB ns ls k
      · have HC := Lib.hid (fun (v : World) (hb : Below w.heap.size w v) => HIP.out v k _ hb hp)
        have HS := Lib.hid (panK_no hp)
        clear hp
        go_wp2_with fail
        refine (HC.out _ hbl).mono ?_
        rintro e w3 ⟨rfl, hb3⟩
        have ho3 := ho.kept hb3
        have hW3 := hW.below hb3 hsz
        have hbl3 := hbl.trans (hb3.mono hbl.size)
        clear ho hW hbl hb3 a_0 a_1
        go_wp2
        go_roundw
        case rel => exact ⟨k + 1, by omega, by go_num, by rw [HS.out]; exact ho3, hW3, hbl3⟩
        case measure => simp [intOf]; omega
      · have HC := Lib.hid (fun (v : World) (hb : Below w.heap.size w v) => HIP.out v k _ hb hp)
        have HS := Lib.hid (panK_yes hp)
        have hgl := HPL.out k
        clear hp
        go_wp2_with fail
        refine (HC.out _ hbl).mono ?_
        rintro e w3 ⟨rfl, hb3⟩
        have ho3 := ho.kept hb3
        have hW3 := hW.below hb3 hsz
        have hbl3 := hbl.trans (hb3.mono hbl.size)
        have hz3 := hb3.size
        clear ho hW hbl hb3 a_0 a_1
        generalize panK ns ls k = G at *
        go_wp2_with (at_builtin; refine wpList_append_i rfl _ _ rfl (w.heap.size + 1) _ G (k : Int) rfl w3.heap.size rfl (cell_new1 rfl) (ho3.alloc _) (by omega) (by simp; omega) ?_)
        intro v2 w2 ho2 hg2 hw2
        have hbl2 : Below w.heap.size w w2 := (hbl3.alloc hbl3.size (.cells #[.int .i64 (k : Int)] 3)).grown hg2 (by simp; omega) (fun q hq => by have := (ho3.lt q hq).1; omega)
        have hW2 : Blk w2 w.heap.size 34 #[vn, vl] := (hg2.block _ (by simp; omega) (fun e => by have := (ho3.lt _ e.symm).1; omega)).trans (hW3.alloc _)
        clear hg2 hw2 ho3 hW3 hbl3
        go_wp2
        go_roundw
        case rel => exact ⟨k + 1, by omega, by go_num, by rw [HS.out]; exact ho2, hW2, hbl2⟩
        case measure => simp [intOf]; omega
    · have hkk : k = F.length := by omega
      subst hkk
      go_wp2
      go_ret
      exact ⟨_, rfl, ho.mono (by omega), hbl⟩

end Go.Proofs.YtognjdappchpkaaGreat

namespace Go.Proofs.YtognjdappchpkaaGreat
open Go.RowKit

theorem mem_take_no {zs : List Int} {x : Int} {k : Nat} (hk : k < zs.length) (h : x ∉ zs.take k) (hne : zs.getD k 0 ≠ x) : x ∉ zs.take (k + 1) := by
  rw [List.take_succ_eq_append_getElem hk, List.mem_append, List.mem_singleton]
  rintro (h2 | h2)
  · exact h h2
  · exact hne (by rw [h2]; simp [List.getD, hk])

theorem mem_at {zs : List Int} {k : Nat} (hk : k < zs.length) : zs.getD k 0 ∈ zs := by
  rw [List.getD, List.getElem?_eq_getElem hk]; exact List.getElem_mem hk

set_option maxHeartbeats 2000000 in
set_option maxRecDepth 100000 in
theorem iHas_any (v : Value) (zs : List Int) (x : Int) (w : World) (h : RI w v zs) :
    Calls Tryz.prog 42 #[v, .int .i64 x] w fun e w' => e = .returned (.bool (decide (x ∈ zs))) ∧ w = w' := by
  obtain ⟨A, c, rfl, hc, hm, hcell⟩ := h.form
  unfold maxLen at hm
  clear h
  go_enter Tryz.func42, Tryz.ntmps42
  go_wp2
  go_loop [9] (fun i => ∃ k : Nat, k ≤ zs.length ∧ i = .int .i64 k ∧ Hid (x ∉ zs.take k)) (fun i => zs.length - (intOf i).toNat)
  case atStart => exact ⟨0, Nat.zero_le _, rfl, Lib.hid (by simp)⟩
  case round =>
    obtain ⟨k, hk, rfl, HT⟩ := hrel
    by_cases hlt : k < zs.length
    · obtain ⟨b, off, rfl, hb, hcl⟩ := hcell (by omega)
      have hck := hcl k hlt
      have hlt1 : (k : Int) < (zs.length : Int) := by omega
      have ik1 : (0 : Int) ≤ (k : Int) := by omega
      have HM := Lib.hid (mem_at hlt)
      have HS := Lib.hid (fun hne => mem_take_no hlt HT.out hne)
      clear hcl hcell
      generalize zs.getD k 0 = y at *
      by_cases he : y = x
      · have e1 : (y == x) = true := by simp [he]
        have HX : Hid (decide (x ∈ zs) = true) := Lib.hid (by rw [← he]; simpa using HM.out)
        clear he
        go_wp2
        go_ret
        exact ⟨ret_bool HX.out.symm, rfl⟩
      · have e1 : (y == x) = false := by simp [he]
        have HX := Lib.hid (HS.out he)
        clear he
        go_wp2
        go_round
        case rel => exact ⟨k + 1, by omega, by go_num, HX⟩
        case measure => simp [intOf]; omega
    · have hkk : zs.length ≤ k := by omega
      have h := HT.out
      rw [List.take_of_length_le hkk] at h
      have HX : Hid (decide (x ∈ zs) = false) := Lib.hid (by simpa using h)
      clear h hcell
      go_wp2
      go_ret
      exact ⟨ret_bool HX.out.symm, rfl⟩

set_option maxHeartbeats 2000000 in
set_option maxRecDepth 100000 in
theorem sHas_any (v : Value) (zs : List Int) (x : Int) (w : World) (h : RI w v zs) :
    Calls Tryz.prog 34 #[v, .int .i64 x] w fun e w' => e = .returned (.bool (decide (x ∈ zs))) ∧ w = w' := by
  obtain ⟨A, c, rfl, hc, hm, hcell⟩ := h.form
  unfold maxLen at hm
  clear h
  go_enter Tryz.func34, Tryz.ntmps34
  go_wp2
  go_loop [5] (fun i => ∃ k : Nat, k ≤ zs.length ∧ i = .int .i64 k ∧ Hid (x ∉ zs.take k)) (fun i => zs.length - (intOf i).toNat)
  case atStart => exact ⟨0, Nat.zero_le _, rfl, Lib.hid (by simp)⟩
  case round =>
    obtain ⟨k, hk, rfl, HT⟩ := hrel
    by_cases hlt : k < zs.length
    · obtain ⟨b, off, rfl, hb, hcl⟩ := hcell (by omega)
      have hck := hcl k hlt
      have hlt1 : (k : Int) < (zs.length : Int) := by omega
      have ik1 : (0 : Int) ≤ (k : Int) := by omega
      have HM := Lib.hid (mem_at hlt)
      have HS := Lib.hid (fun hne => mem_take_no hlt HT.out hne)
      clear hcl hcell
      generalize zs.getD k 0 = y at *
      by_cases he : y = x
      · have e1 : (y == x) = true := by simp [he]
        have HX : Hid (decide (x ∈ zs) = true) := Lib.hid (by rw [← he]; simpa using HM.out)
        clear he
        go_wp2
        go_ret
        exact ⟨ret_bool HX.out.symm, rfl⟩
      · have e1 : (y == x) = false := by simp [he]
        have HX := Lib.hid (HS.out he)
        clear he
        go_wp2
        go_round
        case rel => exact ⟨k + 1, by omega, by go_num, HX⟩
        case measure => simp [intOf]; omega
    · have hkk : zs.length ≤ k := by omega
      have h := HT.out
      rw [List.take_of_length_le hkk] at h
      have HX : Hid (decide (x ∈ zs) = false) := Lib.hid (by simpa using h)
      clear h hcell
      go_wp2
      go_ret
      exact ⟨ret_bool HX.out.symm, rfl⟩

set_option maxHeartbeats 4000000 in
set_option maxRecDepth 100000 in
theorem iRise_any (v : Value) (zs : List Int) (n : Int) (w : World) (h : RI w v zs) (hn0 : 0 ≤ n) (hn1 : n ≤ 1000) :
    Calls Tryz.prog 40 #[v, .int .i64 0, .int .i64 (n - 1)] w fun e w' => e = .returned (.bool (riseB zs (n - 1))) ∧ Below w.heap.size w w' := by
  obtain ⟨A, c, rfl, hc, hm, hcell⟩ := h.form
  unfold maxLen at hm
  clear h
  go_enter Tryz.func40, Tryz.ntmps40
  go_wp2
  go_loopw [11] (fun i wr => ∃ k : Nat, k ≤ zs.length ∧ i = .int .i64 k ∧ Hid (riseK zs (n - 1) k) ∧ Below w.heap.size w wr) (fun i _ => zs.length - (intOf i).toNat)
  case atStart => exact ⟨0, Nat.zero_le _, rfl, Lib.hid (riseK_zero _ _), by (repeat' (first | (with_reducible exact Below.refl _ _) | (with_reducible assumption) | (with_reducible refine Below.drew ?_) | (with_reducible refine below_drewN ?_ _) | (with_reducible refine Below.alloc ?_ ?_ _) | (with_reducible refine Below.setCell ?_ ?_ _) | (with_reducible refine Below.step (by assumption) ?_ ?_))); all_goals (first | omega | (simp; done) | (simp; omega))⟩
  case round =>
    obtain ⟨k, hk, rfl, HT, hbl⟩ := hrel
    by_cases hlt : k < zs.length
    · obtain ⟨b, off, rfl, hb, hcl⟩ := hcell (by omega)
      have hck := (hbl.cell (p := ⟨b, off + k, none⟩) hb).trans (hcl k hlt)
      have hb2 : b < wr.heap.size := Nat.lt_of_lt_of_le hb hbl.size
      have hlt1 : (k : Int) < (zs.length : Int) := by omega
      have ik1 : (0 : Int) ≤ (k : Int) := by omega
      have HB1 := Lib.hid (fun h => rise_bad1 (n := n - 1) hlt h)
      have HS := Lib.hid (fun h1 h2 => riseK_succ (n := n - 1) (k := k) HT.out h1 h2)
      cases hq : inB (zs.getD k 0) 0 (n - 1)
      · have HQ := Lib.hid hq
        have HX := Lib.hid (HB1.out (inB_false.1 hq))
        clear hq hcl hcell HS HB1
        generalize zs.getD k 0 = y at *
        go_wp2_with (go_at_call 63; refine (within_any _ _ _ _).mono ?_; rintro e w' ⟨rfl, rfl⟩; rw [HQ.out])
        go_ret
        exact ⟨ret_bool HX.out.symm, hbl⟩
      · have HQ := Lib.hid hq
        have HI := Lib.hid (inB_true.1 hq)
        clear hq
        by_cases hk0 : 0 < k
        · obtain ⟨r, rfl⟩ : ∃ r, k = r + 1 := ⟨k - 1, by omega⟩
          have hcr := (hbl.cell (p := ⟨b, off + r, none⟩) hb).trans (hcl r (by omega))
          have hs1 : ((r + 1 : Nat) : Int) - 1 = (r : Int) := by omega
          have ir1 : (0 : Int) ≤ (r : Int) := by omega
          have ir2 : (r : Int) < (zs.length : Int) := by omega
          have k1 : (0 : Int) < ((r + 1 : Nat) : Int) := by omega
          have k2 : decide ((0 : Int) < ((r + 1 : Nat) : Int)) = true := decide_eq_true k1
          have HB2 := Lib.hid (fun h => rise_bad2 (n := n - 1) hlt hk0 h)
          rw [show r + 1 - 1 = r by omega] at HB2 HS
          generalize zs.getD (r + 1) 0 = y at *
          generalize zs.getD r 0 = z at *
          clear hcl hcell
          by_cases hzy : z < y
          · have e1 : decide (y ≤ z) = false := by simp; omega
            have e2 : ¬ y ≤ z := by omega
            have HX := Lib.hid (HS.out HI.out (fun _ => hzy))
            go_wp2_with (go_at_call 63; refine (within_any _ _ _ _).mono ?_; rintro e w' ⟨rfl, rfl⟩; rw [HQ.out])
            go_roundw
            case rel => exact ⟨r + 1 + 1, by omega, by go_num, HX, hbl⟩
            case measure => simp [intOf]; omega
          · have e1 : decide (y ≤ z) = true := by simp; omega
            have e2 : y ≤ z := by omega
            have HX := Lib.hid (HB2.out hzy)
            go_wp2_with (go_at_call 63; refine (within_any _ _ _ _).mono ?_; rintro e w' ⟨rfl, rfl⟩; rw [HQ.out])
            go_ret
            exact ⟨ret_bool HX.out.symm, hbl⟩
        · have hk00 : k = 0 := by omega
          subst hk00
          rw [Nat.add_zero] at hck
          have k1 : ¬ (0 : Int) < ((0 : Nat) : Int) := by omega
          have HX := Lib.hid (HS.out HI.out (fun h => absurd h (by omega)))
          clear hcl hcell
          generalize zs.getD 0 0 = y at *
          go_wp2_with (go_at_call 63; refine (within_any _ _ _ _).mono ?_; rintro e w' ⟨rfl, rfl⟩; rw [HQ.out])
          go_roundw
          case rel => exact ⟨0 + 1, by omega, by go_num, HX, hbl⟩
          case measure => simp [intOf]; omega
    · have hkk : k = zs.length := by omega
      subst hkk
      have HX : Hid (riseB zs (n - 1) = true) := Lib.hid (riseB_true.2 HT.out)
      clear hcell
      go_wp2
      go_ret
      exact ⟨ret_bool HX.out.symm, hbl⟩

set_option maxHeartbeats 4000000 in
set_option maxRecDepth 100000 in
theorem sRise_any (v : Value) (zs : List Int) (n : Int) (w : World) (h : RI w v zs) (hn0 : 0 ≤ n) (hn1 : n ≤ 1000) :
    Calls Tryz.prog 33 #[.int .i64 n, v] w fun e w' => e = .returned (.bool (riseB zs (n - 1))) ∧ Below w.heap.size w w' := by
  obtain ⟨A, c, rfl, hc, hm, hcell⟩ := h.form
  unfold maxLen at hm
  clear h
  go_enter Tryz.func33, Tryz.ntmps33
  go_wp2
  go_loopw [5] (fun i wr => ∃ k : Nat, k ≤ zs.length ∧ i = .int .i64 k ∧ Hid (riseK zs (n - 1) k) ∧ Below w.heap.size w wr) (fun i _ => zs.length - (intOf i).toNat)
  case atStart => exact ⟨0, Nat.zero_le _, rfl, Lib.hid (riseK_zero _ _), by (repeat' (first | (with_reducible exact Below.refl _ _) | (with_reducible assumption) | (with_reducible refine Below.drew ?_) | (with_reducible refine below_drewN ?_ _) | (with_reducible refine Below.alloc ?_ ?_ _) | (with_reducible refine Below.setCell ?_ ?_ _) | (with_reducible refine Below.step (by assumption) ?_ ?_))); all_goals (first | omega | (simp; done) | (simp; omega))⟩
  case round =>
    obtain ⟨k, hk, rfl, HT, hbl⟩ := hrel
    by_cases hlt : k < zs.length
    · obtain ⟨b, off, rfl, hb, hcl⟩ := hcell (by omega)
      have hck := (hbl.cell (p := ⟨b, off + k, none⟩) hb).trans (hcl k hlt)
      have hb2 : b < wr.heap.size := Nat.lt_of_lt_of_le hb hbl.size
      have hlt1 : (k : Int) < (zs.length : Int) := by omega
      have ik1 : (0 : Int) ≤ (k : Int) := by omega
      have HB1 := Lib.hid (fun h => rise_bad1 (n := n - 1) hlt h)
      have HS := Lib.hid (fun h1 h2 => riseK_succ (n := n - 1) (k := k) HT.out h1 h2)
      cases hq : inB (zs.getD k 0) 0 (n - 1)
      · have HQ := Lib.hid hq
        have HX := Lib.hid (HB1.out (inB_false.1 hq))
        clear hq hcl hcell HS HB1
        generalize zs.getD k 0 = y at *
        go_wp2_with fail
        (refine wp_region_quietG (by kernel_rfl) (by kernel_rfl) (fun hG => ?_))
        repeat (go_big_quiet_step ((go_at_call 54; exact quietS (l01In_at _ _ _ _ _ HQ.out))))
        refine wpQuiet_nil ?_
        clear hG
        rintro w3 ⟨⟨_, hb3⟩, rfl⟩
        go_wp2
        go_ret
        exact ⟨ret_bool HX.out.symm, hbl.trans (hb3.mono hbl.size)⟩
      · have HQ := Lib.hid hq
        have HI := Lib.hid (inB_true.1 hq)
        clear hq
        by_cases hk0 : 0 < k
        · obtain ⟨r, rfl⟩ : ∃ r, k = r + 1 := ⟨k - 1, by omega⟩
          have hcr := (hbl.cell (p := ⟨b, off + r, none⟩) hb).trans (hcl r (by omega))
          have hs1 : ((r + 1 : Nat) : Int) - 1 = (r : Int) := by omega
          have ir1 : (0 : Int) ≤ (r : Int) := by omega
          have ir2 : (r : Int) < (zs.length : Int) := by omega
          have k1 : (0 : Int) < ((r + 1 : Nat) : Int) := by omega
          have k2 : decide ((0 : Int) < ((r + 1 : Nat) : Int)) = true := decide_eq_true k1
          have HB2 := Lib.hid (fun h => rise_bad2 (n := n - 1) hlt hk0 h)
          rw [show r + 1 - 1 = r by omega] at HB2 HS
          generalize zs.getD (r + 1) 0 = y at *
          generalize zs.getD r 0 = z at *
          clear hcl hcell
          by_cases hzy : z < y
          · have e1 : decide (y ≤ z) = false := by simp; omega
            have e2 : ¬ y ≤ z := by omega
            have HX := Lib.hid (HS.out HI.out (fun _ => hzy))
            go_wp2_with fail
            (refine wp_region_quietG (by kernel_rfl) (by kernel_rfl) (fun hG => ?_))
            repeat (go_big_quiet_step ((go_at_call 54; exact quietS (l01In_at _ _ _ _ _ HQ.out))))
            refine wpQuiet_nil ?_
            clear hG
            rintro w3 ⟨⟨_, hb3⟩, rfl⟩
            go_wp2
            go_roundw
            case rel => exact ⟨r + 1 + 1, by omega, by go_num, HX, hbl.trans (hb3.mono hbl.size)⟩
            case measure => simp [intOf]; omega
          · have e1 : decide (y ≤ z) = true := by simp; omega
            have e2 : y ≤ z := by omega
            have HX := Lib.hid (HB2.out hzy)
            go_wp2_with fail
            (refine wp_region_quietG (by kernel_rfl) (by kernel_rfl) (fun hG => ?_))
            repeat (go_big_quiet_step ((go_at_call 54; exact quietS (l01In_at _ _ _ _ _ HQ.out))))
            refine wpQuiet_nil ?_
            clear hG
            rintro w3 ⟨⟨_, hb3⟩, rfl⟩
            go_wp2
            go_ret
            exact ⟨ret_bool HX.out.symm, hbl.trans (hb3.mono hbl.size)⟩
        · have hk00 : k = 0 := by omega
          subst hk00
          rw [Nat.add_zero] at hck
          have k1 : ¬ (0 : Int) < ((0 : Nat) : Int) := by omega
          have HX := Lib.hid (HS.out HI.out (fun h => absurd h (by omega)))
          clear hcl hcell
          generalize zs.getD 0 0 = y at *
          go_wp2_with fail
          (refine wp_region_quietG (by kernel_rfl) (by kernel_rfl) (fun hG => ?_))
          repeat (go_big_quiet_step ((go_at_call 54; exact quietS (l01In_at _ _ _ _ _ HQ.out))))
          refine wpQuiet_nil ?_
          clear hG
          rintro w3 ⟨⟨_, hb3⟩, rfl⟩
          go_wp2
          go_roundw
          case rel => exact ⟨0 + 1, by omega, by go_num, HX, hbl.trans (hb3.mono hbl.size)⟩
          case measure => simp [intOf]; omega
    · have hkk : k = zs.length := by omega
      subst hkk
      have HX : Hid (riseB zs (n - 1) = true) := Lib.hid (riseB_true.2 HT.out)
      clear hcell
      go_wp2
      go_ret
      exact ⟨ret_bool HX.out.symm, hbl⟩

theorem sq_comm (a b : Int) : (b - a) * (b - a) = (a - b) * (a - b) := by
  have e : b - a = -(a - b) := by omega
  rw [e, Int.neg_mul_neg]

set_option maxHeartbeats 2000000 in
set_option maxRecDepth 100000 in
theorem iSquare_any (ax ay bx by' : Int) (w : World) (ha : nodeB ax ay = true) (hb : nodeB bx by' = true) :
    Calls Tryz.prog 73 #[.agg #[.int .i64 ax, .int .i64 ay], .agg #[.int .i64 bx, .int .i64 by']] w fun e w' => e = .returned (.int .i64 (sqP (ax, ay) (bx, by'))) ∧ Below w.heap.size w w' := by
  have HN : Hid ((nodeB ax ay && nodeB bx by') = true) := Lib.hid (by rw [ha, hb]; rfl)
  have HR : Hid (sqP (ax, ay) (bx, by') = (ax - bx) * (ax - bx) + (ay - by') * (ay - by')) := Lib.hid (by unfold sqP nodeP; rw [ha, hb]; rfl)
  obtain ⟨a0, a1, a2, a3⟩ := nodeB_bd ha
  obtain ⟨b0, b1, b2, b3⟩ := nodeB_bd hb
  obtain ⟨m1, m2⟩ := mul_bd (u := ax - bx) (v := ax - bx) (by omega) (by omega) (by omega) (by omega)
  obtain ⟨m3, m4⟩ := mul_bd (u := ay - by') (v := ay - by') (by omega) (by omega) (by omega) (by omega)
  clear ha hb
  go_enter Tryz.func73, Tryz.ntmps73
  go_wp2_with fail
  refine (nodes2_any _ ax ay bx by' _ (RP_lit (by simp) rfl rfl rfl (by simp [maxLen]))).mono ?_
  rintro e w1 ⟨rfl, hb1⟩; (first | (with_reducible have hcf1 := bcell_drew hb1) | have hcf1 := bcell hb1); obtain ⟨hc1, hf1⟩ := hcf1; have hz1 := hb1.size; (try simp at hz1); (try have hp1_0 : w.heap.size < w1.heap.size := by omega); (try have hp1_1 : w.heap.size + 1 < w1.heap.size := by omega); (try have hp1_2 : w.heap.size + 1 + 1 < w1.heap.size := by omega); (try have hp1_3 : w.heap.size + 1 + 1 + 1 < w1.heap.size := by omega)
  rw [HN.out]
  go_wp2
  go_ret
  exact ⟨ret_int (by rw [HR.out]), by (repeat' (first | (with_reducible exact Below.refl _ _) | (with_reducible assumption) | (with_reducible refine Below.drew ?_) | (with_reducible refine below_drewN ?_ _) | (with_reducible refine Below.alloc ?_ ?_ _) | (with_reducible refine Below.setCell ?_ ?_ _) | (with_reducible refine Below.step (by assumption) ?_ ?_))); all_goals (first | omega | (simp; done) | (simp; omega))⟩

set_option maxHeartbeats 2000000 in
set_option maxRecDepth 100000 in
theorem sSquare_any (ax ay bx by' : Int) (w : World) (ha : nodeB ax ay = true) (hb : nodeB bx by' = true) :
    Calls Tryz.prog 58 #[.agg #[.int .i64 ax, .int .i64 ay], .agg #[.int .i64 bx, .int .i64 by']] w fun e w' => e = .returned (.int .i64 (sqP (ax, ay) (bx, by'))) ∧ Below w.heap.size w w' := by
  have HR : Hid (sqP (ax, ay) (bx, by') = (bx - ax) * (bx - ax) + (by' - ay) * (by' - ay)) := Lib.hid (by unfold sqP nodeP; rw [ha, hb, sq_comm, sq_comm ay]; rfl)
  obtain ⟨a0, a1, a2, a3⟩ := nodeB_bd ha
  obtain ⟨b0, b1, b2, b3⟩ := nodeB_bd hb
  obtain ⟨m1, m2⟩ := mul_bd (u := bx - ax) (v := bx - ax) (by omega) (by omega) (by omega) (by omega)
  obtain ⟨m3, m4⟩ := mul_bd (u := by' - ay) (v := by' - ay) (by omega) (by omega) (by omega) (by omega)
  go_enter Tryz.func58, Tryz.ntmps58
  go_wp2_with fail
  refine (sNodeOk_at _ _ _ _ ha).mono ?_
  rintro e w1 ⟨rfl, hb1⟩; (first | (with_reducible have hcf1 := bcell_drew hb1) | have hcf1 := bcell hb1); obtain ⟨hc1, hf1⟩ := hcf1; have hz1 := hb1.size; (try simp at hz1); (try have hp1_0 : w.heap.size < w1.heap.size := by omega); (try have hp1_1 : w.heap.size + 1 < w1.heap.size := by omega); (try have hp1_2 : w.heap.size + 1 + 1 < w1.heap.size := by omega); (try have hp1_3 : w.heap.size + 1 + 1 + 1 < w1.heap.size := by omega)
  go_wp2_with fail
  refine (sNodeOk_at _ _ _ _ hb).mono ?_
  rintro e w2 ⟨rfl, hb2⟩; (first | (with_reducible have hcf2 := bcell_drew hb2) | have hcf2 := bcell hb2); obtain ⟨hc2, hf2⟩ := hcf2; have hz2 := hb2.size; (try simp at hz2); (try have hp2_0 : w.heap.size < w2.heap.size := by omega); (try have hp2_1 : w.heap.size + 1 < w2.heap.size := by omega); (try have hp2_2 : w.heap.size + 1 + 1 < w2.heap.size := by omega); (try have hp2_3 : w.heap.size + 1 + 1 + 1 < w2.heap.size := by omega)
  go_wp2
  go_ret
  exact ⟨ret_int (by rw [HR.out]), by (repeat' (first | (with_reducible exact Below.refl _ _) | (with_reducible assumption) | (with_reducible refine Below.drew ?_) | (with_reducible refine below_drewN ?_ _) | (with_reducible refine Below.alloc ?_ ?_ _) | (with_reducible refine Below.setCell ?_ ?_ _) | (with_reducible refine Below.step (by assumption) ?_ ?_))); all_goals (first | omega | (simp; done) | (simp; omega))⟩

set_option maxHeartbeats 2000000 in
set_option maxRecDepth 100000 in
theorem sRoot_any (n : Nat) (w : World) (h : n ≤ 800) :
    Calls Tryz.prog 57 #[.int .i64 n] w fun e w' => e = .returned (.int .i64 (rootN n)) ∧ w = w' := by
  have HE := Lib.hid (fun k h1 h2 => rootN_eq (n := n) (k := k) h1 h2)
  go_enter Tryz.func57, Tryz.ntmps57
  go_wp2
  go_loop [3] (fun x => ∃ k : Nat, k ≤ 28 ∧ x = .int .i64 k ∧ Hid (k * k ≤ n)) (fun x => 29 - (intOf x).toNat)
  case atStart => exact ⟨0, by omega, rfl, Lib.hid (by omega)⟩
  case round =>
    obtain ⟨k, hk, rfl, HK⟩ := hrel
    have e1 : ((k : Int) + 1) * ((k : Int) + 1) = (((k + 1) * (k + 1) : Nat) : Int) := by simp
    have hb : (k + 1) * (k + 1) ≤ 29 * 29 := Nat.mul_le_mul (by omega) (by omega)
    by_cases hc : (k + 1) * (k + 1) ≤ n
    · have hc1 : ((k : Int) + 1) * ((k : Int) + 1) ≤ (n : Int) := by rw [e1]; omega
      have hc0 : -9000000000000000000 ≤ ((k : Int) + 1) * ((k : Int) + 1) := by rw [e1]; omega
      have hc2 : ((k : Int) + 1) * ((k : Int) + 1) ≤ 841 := by rw [e1]; omega
      have hk28 : k + 1 ≤ 28 := by
        apply Classical.byContradiction
        intro h2
        have : 29 * 29 ≤ (k + 1) * (k + 1) := Nat.mul_le_mul (by omega) (by omega)
        omega
      clear e1 hb
      have HX := Lib.hid hc
      clear hc
      go_wp2
      go_round
      case rel => exact ⟨k + 1, by omega, by go_num, HX⟩
      case measure => simp [intOf]; omega
    · have hc1 : ¬ ((k : Int) + 1) * ((k : Int) + 1) ≤ (n : Int) := by rw [e1]; omega
      have hc0 : -9000000000000000000 ≤ ((k : Int) + 1) * ((k : Int) + 1) := by rw [e1]; omega
      have hc2 : ((k : Int) + 1) * ((k : Int) + 1) ≤ 841 := by rw [e1]; omega
      have HX := Lib.hid (HE.out k HK.out (by omega))
      clear e1 hb hc
      go_wp2
      go_ret
      exact ⟨ret_int (by rw [HX.out]), rfl⟩

end Go.Proofs.YtognjdappchpkaaGreat
