/-
  Valid windows: plain laws.
-/
import Derived.Test.YtoknmjpnelbplaaGreatShape
set_option linter.unusedSimpArgs false
set_option linter.unusedVariables false
namespace Go.Proofs.YtoknmjpnelbplaaGreat
open Go.RowKit

/-- A window's test that can be reckoned. -/
def winC (ns ls : List Pr) : Bool :=
  decide (1 ≤ ns.length) && decide (ns.length ≤ 12) && decide (ls.length ≤ 20) && nodesB ns &&
  (List.range ns.length).all (fun b => (List.range b).all fun a => !(sameP (ndI ns (a : Nat)) (ndI ns (b : Nat)))) &&
  (List.range ls.length).all (fun k => leadB ns (ndI ls (k : Nat)) && (List.range k).all (fun j => !(crossB ns (ndI ls (k : Nat)) (ndI ls (j : Nat)))) &&
    (List.range ns.length).all (fun (i : Nat) => decide ((i : Int) = (ndI ls (k : Nat)).1) || decide ((i : Int) = (ndI ls (k : Nat)).2) || !(onB ns (ndI ls (k : Nat)) (ndI ns (i : Nat)))))

theorem winC_ok {ns ls : List Pr} (h : winC ns ls = true) : WinOk ns ls := by
  unfold winC at h
  simp only [Bool.and_eq_true, decide_eq_true_eq, List.all_eq_true, List.mem_range, Bool.not_eq_true', Bool.or_eq_true] at h
  obtain ⟨⟨⟨⟨⟨h1, h2⟩, h3⟩, h4⟩, h5⟩, h6⟩ := h
  refine ⟨h1, h2, h3, h4, fun a b hab hb => h5 b hb a hab, fun k hk => ?_⟩
  obtain ⟨⟨a1, a2⟩, a3⟩ := h6 k hk
  refine ⟨a1, fun j hj => a2 j hj, fun j hj e1 e2 => ?_⟩
  rcases a3 j hj with (h | h) | h
  · exact absurd h e1
  · exact absurd h e2
  · exact h

theorem sample_ok : winB sampleN sampleL = true := winB_true.2 (winC_ok (by decide +kernel))
theorem sh1_ok : winB shN1 shL1 = true := winB_true.2 (winC_ok (by decide +kernel))
theorem sh2_ok : winB shN2 shL2 = true := winB_true.2 (winC_ok (by decide +kernel))
theorem sh3_ok : winB shN3 shL3 = true := winB_true.2 (winC_ok (by decide +kernel))
theorem sh4_ok : winB shN4 shL4 = true := winB_true.2 (winC_ok (by decide +kernel))

theorem shape_ok (k : Int) : winB (shapeN k) (shapeL k) = true := by
  unfold shapeN shapeL
  split
  · exact sample_ok
  · split
    · exact sh1_ok
    · split
      · exact sh2_ok
      · split
        · exact sh3_ok
        · exact sh4_ok

theorem ndI_getD (ns : List Pr) (k : Nat) : ndI ns (k : Int) = ns.getD k (0, 0) := by simp [ndI]

theorem ndI_app_left {a b : List Pr} {i : Nat} (h : i < a.length) : ndI (a ++ b) (i : Int) = ndI a (i : Int) := by
  rw [ndI_nat _ _ (by simp; omega), ndI_nat _ _ h, List.getElem_append_left h]
theorem ndI_app_last {a : List Pr} {p : Pr} : ndI (a ++ [p]) (a.length : Int) = p := by
  rw [ndI_nat _ _ (by simp), List.getElem_append_right (Nat.le_refl _)]
  simp

/-- A lead of a valid window is valid with the others, whichever comes first. -/
theorem cross_any {ns ls : List Pr} (h : WinOk ns ls) {i k : Nat} (hi : i < ls.length) (hk : k < ls.length) (hne : i ≠ k) : crossB ns (ndI ls k) (ndI ls i) = false := by
  rcases Nat.lt_or_gt_of_ne hne with h1 | h1
  · exact (h.2.2.2.2.2 k hk).2.1 i h1
  · rw [crossB_comm]; exact (h.2.2.2.2.2 i hi).2.1 k h1

/-- Leads picked out of a valid window, each at another place, are a valid window. -/
theorem win_pick {ns ls ms : List Pr} (h : WinOk ns ls) (hl : ms.length ≤ 20) (f : Nat → Nat) (hf : ∀ i, i < ms.length → f i < ls.length ∧ ndI ms (i : Nat) = ndI ls (f i : Nat)) (hinj : ∀ i j, i < ms.length → j < ms.length → f i = f j → i = j) : WinOk ns ms := by
  refine ⟨h.1, h.2.1, hl, h.2.2.2.1, h.2.2.2.2.1, fun k hk => ?_⟩
  obtain ⟨h1, h2⟩ := hf k hk
  rw [LdOk, h2]
  refine ⟨(h.2.2.2.2.2 _ h1).1, fun j hj => ?_, (h.2.2.2.2.2 _ h1).2.2⟩
  obtain ⟨h3, h4⟩ := hf j (by omega)
  rw [h4]
  exact cross_any h h3 h1 (fun e => by have := hinj j k (by omega) hk e; omega)

theorem ndI_drop {ls : List Pr} {k : Nat} (hk : k < ls.length) (i : Nat) (hi : i < (ls.take k ++ ls.drop (k + 1)).length) :
    ndI (ls.take k ++ ls.drop (k + 1)) (i : Nat) = ndI ls ((if i < k then i else i + 1 : Nat) : Int) := by
  have hl : (ls.take k).length = k := by simp; omega
  have hi' : i < ls.length - 1 := by simp at hi; omega
  by_cases h : i < k
  · rw [if_pos h, ndI_app_left (by omega), ndI_nat _ _ (by omega), ndI_nat _ _ (by omega), List.getElem_take]
  · rw [if_neg h, ndI_nat _ _ hi, ndI_nat _ _ (by omega), List.getElem_append_right (by omega), List.getElem_drop]
    congr 1
    omega

/-- A lead dropped: still valid. -/
theorem win_drop {ns ls : List Pr} (h : WinOk ns ls) {k : Nat} (hk : k < ls.length) : WinOk ns (ls.take k ++ ls.drop (k + 1)) := by
  have hm := h.2.2.1
  have hlen : (ls.take k ++ ls.drop (k + 1)).length = ls.length - 1 := by simp; omega
  refine win_pick h (by omega) (fun i => if i < k then i else i + 1) (fun i hi => ⟨?_, ndI_drop hk i hi⟩) (fun i j hi hj e => ?_)
  · rw [hlen] at hi
    show (if i < k then i else i + 1) < _
    split <;> omega
  · have e' : (if i < k then i else i + 1) = (if j < k then j else j + 1) := e
    split at e' <;> split at e' <;> omega

/-- A lead dropped and added again: valid. -/
theorem win_again {ns ls : List Pr} (h : WinOk ns ls) {k : Nat} (hk : k < ls.length) : WinOk ns ((ls.take k ++ ls.drop (k + 1)) ++ [ndI ls k]) := by
  have hm := h.2.2.1
  have hlen : (ls.take k ++ ls.drop (k + 1)).length = ls.length - 1 := by simp; omega
  have hlen2 : ((ls.take k ++ ls.drop (k + 1)) ++ [ndI ls k]).length = ls.length := by rw [List.length_append, hlen]; simp; omega
  refine win_pick h (by omega) (fun i => if i < ls.length - 1 then (if i < k then i else i + 1) else k) (fun i hi => ?_) (fun i j hi hj e => ?_)
  · rw [hlen2] at hi
    show (if i < ls.length - 1 then (if i < k then i else i + 1) else k) < _ ∧ _ = ndI ls ((if i < ls.length - 1 then (if i < k then i else i + 1) else k : Nat) : Int)
    by_cases h1 : i < ls.length - 1
    · rw [if_pos h1, ndI_app_left (by omega), ndI_drop hk i (by omega)]
      exact ⟨by split <;> omega, rfl⟩
    · have e : i = (ls.take k ++ ls.drop (k + 1)).length := by omega
      rw [if_neg h1]
      refine ⟨hk, ?_⟩
      rw [e, ndI_app_last]
  · rw [hlen2] at hi hj
    have e' : (if i < ls.length - 1 then (if i < k then i else i + 1) else k) = (if j < ls.length - 1 then (if j < k then j else j + 1) else k) := e
    split at e' <;> split at e' <;> (try split at e') <;> (try split at e') <;> omega

/-- A lead that is there crosses itself. -/
theorem cross_self {ns : List Pr} {l : Pr} (h : leadB ns l = true) : crossB ns l l = true := by
  have e : ∀ p : Pr, sameP p p = true := fun p => sameP_iff.2 rfl
  simp [crossB, h, crossP, e]

/-- The leads of a valid window are apart from each other. -/
theorem lead_apart {ns ls : List Pr} (h : WinOk ns ls) {i k : Nat} (hi : i < ls.length) (hk : k < ls.length) (hne : i ≠ k) : ndI ls (i : Nat) ≠ ndI ls (k : Nat) := by
  intro e
  have h1 := cross_any h hi hk hne
  rw [e, cross_self ((h.2.2.2.2.2 k hk).1)] at h1
  cases h1

theorem mem_ndI {l : List Pr} {p : Pr} (h : p ∈ l) : ∃ i : Nat, i < l.length ∧ ndI l (i : Nat) = p := by
  obtain ⟨i, hi, e⟩ := List.mem_iff_getElem.1 h
  exact ⟨i, hi, by rw [ndI_nat _ _ hi]; exact e⟩

/-- The place of a lead of a valid window. -/
theorem idx_lead {ns ls : List Pr} (h : WinOk ns ls) {k : Nat} (hk : k < ls.length) : idxP ls (ndI ls (k : Nat)) = k := by
  refine idxP_at hk ?_ rfl
  intro hm
  obtain ⟨i, hi, e⟩ := mem_ndI hm
  rw [List.length_take] at hi
  have e2 : ndI (ls.take k) (i : Nat) = ndI ls (i : Nat) := by
    rw [ndI_nat _ _ (by rw [List.length_take]; exact hi), ndI_nat _ _ (by omega), List.getElem_take]
  rw [e2] at e
  exact lead_apart h (by omega) hk (by omega) e

/-- An added lead was not there. -/
theorem added_new {ns ls : List Pr} {p : Pr} (h : WinOk ns (ls ++ [p])) : p ∉ ls := by
  intro hm
  obtain ⟨i, hi, e⟩ := mem_ndI hm
  have := lead_apart h (i := i) (k := ls.length) (by simp; omega) (by simp) (by omega)
  rw [ndI_app_left hi, ndI_app_last] at this
  exact this e

/-- All degrees together are twice the leads. -/
def degSum (ls : List Pr) (m : Nat) : Nat → Nat
  | 0 => 0
  | k + 1 => degSum ls m k + (atN ls (k : Int) m).length

theorem degSum_step (ls : List Pr) (m : Nat) (hlt : (ndI ls m).1 < (ndI ls m).2) (h0 : 0 ≤ (ndI ls m).1) : ∀ n : Nat,
    degSum ls (m + 1) n = degSum ls m n + (if (ndI ls m).1 < n then 1 else 0) + (if (ndI ls m).2 < n then 1 else 0)
  | 0 => by
    simp only [degSum]
    rw [if_neg (by omega), if_neg (by omega)]
  | n + 1 => by
    have ih := degSum_step ls m hlt h0 n
    simp only [degSum]
    rw [ih]
    have ht : (atN ls (n : Int) (m + 1)).length = (atN ls (n : Int) m).length + (if (ndI ls m).1 = n ∨ (ndI ls m).2 = n then 1 else 0) := by
      by_cases hh : (ndI ls m).1 = n ∨ (ndI ls m).2 = n
      · rw [if_pos hh, atN_yes (by simpa [touchB] using hh)]
        simp
      · rw [if_neg hh, atN_no (by
          cases ht : touchB ls n m
          · rfl
          · exact absurd (by simpa [touchB] using ht) hh)]
        simp
    rw [ht]
    split <;> split <;> split <;> split <;> split <;> omega

theorem degSum_all {ns ls : List Pr} (h : WinOk ns ls) : ∀ m, m ≤ ls.length → degSum ls m ns.length = 2 * m
  | 0, _ => by
    have : ∀ n, degSum ls 0 n = 0 := by
      intro n
      induction n with
      | zero => rfl
      | succ n ih => simp [degSum, ih, atN]
    exact this _
  | m + 1, hm => by
    obtain ⟨h1, h2, h3, _⟩ := leadB_iff.1 ((h.2.2.2.2.2 m (by omega)).1)
    rw [degSum_step ls m h2 h1, degSum_all h m (by omega), if_pos (by omega), if_pos (by omega)]
    omega

end Go.Proofs.YtoknmjpnelbplaaGreat
