/- part 20 -/
import Derived.Test.YtbennlajjfkdpaaGreatDoorFPk10
import Derived.Test.YtbennlajjfkdpaaGreatDoorFPk18
import Derived.Test.YtbennlajjfkdpaaGreatDoorFPk19
set_option linter.unusedSimpArgs false
set_option linter.unusedVariables false
namespace Go.Proofs.YtbennlajjfkdpaaGreatDoor
theorem frD_nodup (ls : List Pr) (k : Nat) : ∀ m, (frD ls k m).Nodup
  | 0 => by simp [frD]
  | m + 1 => by
    by_cases h : dFrom ls m = k
    · rw [frD_yes h, List.nodup_append]
      refine ⟨frD_nodup ls k m, by simp, fun a ha b hb => ?_⟩
      have := (frD_lt ls k m a ha).1
      simp at hb
      omega
    · rw [frD_no h]; exact frD_nodup ls k m
theorem dart_one {ns ls : List Pr} (h : WinOk ns ls) {d e : Nat} (hd : d < 2 * ls.length) (he : e < 2 * ls.length) (h1 : dFrom ls d = dFrom ls e) (h2 : dTo ls d = dTo ls e) : d = e := by
  have h6 := h.2.2.2.2.2
  have l1 := leadB_iff.1 (h6 (d / 2) (by omega)).1
  have l2 := leadB_iff.1 (h6 (e / 2) (by omega)).1
  by_cases hq : d / 2 = e / 2
  · unfold dFrom at h1
    rw [hq] at h1 l1
    by_cases p1 : d % 2 = 1 <;> by_cases p2 : e % 2 = 1
    · omega
    · rw [if_pos p1, if_neg p2] at h1; omega
    · rw [if_neg p1, if_pos p2] at h1; omega
    · omega
  · exfalso
    refine lead_apart h (by omega) (by omega) hq ?_
    unfold dFrom at h1
    unfold dTo at h2
    refine Prod.ext_iff.2 ?_
    by_cases p1 : d % 2 = 1 <;> by_cases p2 : e % 2 = 1
    · rw [if_pos p1, if_pos p2] at h1 h2; exact ⟨h2, h1⟩
    · rw [if_pos p1, if_neg p2] at h1 h2; exfalso; omega
    · rw [if_neg p1, if_pos p2] at h1 h2; exfalso; omega
    · rw [if_neg p1, if_neg p2] at h1 h2; exact ⟨h1, h2⟩
theorem frD_le {ns ls : List Pr} (h : WinOk ns ls) (k : Nat) : (frD ls k (2 * ls.length)).length ≤ 12 := by
  apply Classical.byContradiction
  intro hc
  have hld : ∀ j : Nat, j < ls.length → leadB ns (ndI ls j) = true := fun j hj => (h.2.2.2.2.2 j hj).1
  have hn := h.2.1
  generalize hG : frD ls k (2 * ls.length) = G at *
  have hm : ∀ i, i < G.length → G.getD i 0 < 2 * ls.length ∧ dFrom ls (G.getD i 0) = k := by
    intro i hi
    have := frD_lt ls k (2 * ls.length) (G.getD i 0) (by rw [hG, List.getD, List.getElem?_eq_getElem hi]; exact List.getElem_mem hi)
    exact this
  obtain ⟨i, j, h1, h2, h3⟩ := pigeon 12 (fun i => (dTo ls (G.getD i 0)).toNat) (fun i hi => by
    obtain ⟨t, ht, htn⟩ := dTo_nat hld (hm i (by omega)).1
    show (dTo ls (G.getD i 0)).toNat < 12
    rw [ht]; omega)
  have mi := hm i (by omega)
  have mj := hm j (by omega)
  obtain ⟨t, ht, _⟩ := dTo_nat hld mi.1
  obtain ⟨u, hu, _⟩ := dTo_nat hld mj.1
  have h3' : (dTo ls (G.getD i 0)).toNat = (dTo ls (G.getD j 0)).toNat := h3
  have hto : dTo ls (G.getD i 0) = dTo ls (G.getD j 0) := by rw [ht, hu] at h3' ⊢; omega
  have he := dart_one h mi.1 mj.1 (by rw [mi.2, mj.2]) hto
  have hnd := frD_nodup ls k (2 * ls.length)
  rw [hG] at hnd
  have li : i < G.length := by omega
  have lj : j < G.length := by omega
  rw [List.getD, List.getD, List.getElem?_eq_getElem li, List.getElem?_eq_getElem lj] at he
  have := (List.getElem_inj hnd).1 (by simpa using he)
  omega
end Go.Proofs.YtbennlajjfkdpaaGreatDoor

namespace Go.Proofs.YtbennlajjfkdpaaGreatDoor
open Go.RowKit
attribute [local go_sem ↓] run_eqNode run_neNode run_mn2 run_mx2
theorem twin_xor (d : Nat) : d ^^^ 1 = twin d := by
  apply Nat.eq_of_testBit_eq
  intro i
  rw [Nat.testBit_xor]
  cases i with
  | zero =>
    rw [Nat.testBit_zero, Nat.testBit_zero, Nat.testBit_zero]
    unfold twin
    have h : d % 2 = 0 ∨ d % 2 = 1 := by omega
    rcases h with h | h
    · rw [if_pos h, h, show (d + 1) % 2 = 1 by omega]; rfl
    · rw [if_neg (by omega), h, show (d - 1) % 2 = 0 by omega]; rfl
  | succ i =>
    rw [Nat.testBit_succ, Nat.testBit_succ, Nat.testBit_succ, show twin d / 2 = d / 2 by unfold twin; split <;> omega]
    simp
set_option maxHeartbeats 2000000 in
set_option maxRecDepth 100000 in
theorem iFrom_any (vn vl : Value) (ls : List Pr) (d : Nat) (w : World) (hl : RP w vl ls) (hd : d < 2 * ls.length) :
    Calls Tryz.prog 45 #[.agg #[vn, vl], .int .i64 d] w fun e w' => e = .returned (.int .i64 (dFrom ls d)) ∧ Below w.heap.size w w' := by
  obtain ⟨A, c, rfl, hc, hm, hcell⟩ := hl.formI
  unfold maxLen at hm
  clear hl
  obtain ⟨b, off, rfl, hb, hcl⟩ := hcell (by omega)
  obtain ⟨k0, k1⟩ := hcl (d / 2) (by omega)
  have t1 := tdiv2 d
  have t2 := tmod2 d
  have HF : Hid (dFrom ls d = if d % 2 = 1 then (ndI ls (d / 2 : Nat)).2 else (ndI ls (d / 2 : Nat)).1) := Lib.hid rfl
  have hq : d / 2 < ls.length := by omega
  have hq1 : ((d / 2 : Nat) : Int) < (ls.length : Int) := by omega
  have hq2 : (0 : Int) ≤ ((d / 2 : Nat) : Int) := by omega
  have hr : d % 2 = 0 ∨ d % 2 = 1 := by omega
  have nb : b < w.heap.size + 1 := by omega
  have nb2 : b < w.heap.size + 1 + 1 := by omega
  generalize d / 2 = q at *
  generalize ndI ls (q : Int) = L at *
  obtain ⟨l1, l2⟩ := L
  simp only at k0 k1 HF
  clear hcl hcell
  rcases hr with hr | hr
  · rw [hr] at HF t2
    have e1 : ((0 : Nat) : Int) = 0 := rfl
    go_enter Tryz.func45, Tryz.ntmps45
    go_wp2
    go_ret
    exact ⟨ret_int (by rw [HF.out]; rfl), by exact bel_⟩
  · rw [hr] at HF t2
    have e1 : ((1 : Nat) : Int) = 1 := rfl
    go_enter Tryz.func45, Tryz.ntmps45
    go_wp2
    go_ret
    exact ⟨ret_int (by rw [HF.out]; rfl), by exact bel_⟩
set_option maxHeartbeats 1000000 in
set_option maxRecDepth 100000 in
theorem iHalf_any (ax ay bx by' : Int) (w : World) :
    Calls Tryz.prog 129 #[.agg #[.int .i64 ax, .int .i64 ay], .agg #[.int .i64 bx, .int .i64 by']] w fun e w' => e = .returned (.int .i64 (halfI ax ay bx by')) ∧ Below w.heap.size w w' := by
  go_enter Tryz.func129, Tryz.ntmps129
  go_wp2
  all_goals go_ret
  all_goals refine ⟨ret_int ?_, by exact bel_⟩
  all_goals unfold halfI
  all_goals first | (rw [if_pos (by omega)]; done) | (rw [if_neg (by omega)]; done) | (simp_all; done) | (simp_all; omega)
set_option maxHeartbeats 4000000 in
set_option maxRecDepth 100000 in
theorem iBefore_any (ax ay bx by' cx cy : Int) (w : World) :
    Calls Tryz.prog 118 #[.agg #[.int .i64 ax, .int .i64 ay], .agg #[.int .i64 bx, .int .i64 by'], .agg #[.int .i64 cx, .int .i64 cy]] w
      fun e w' => e = .returned (.bool (befB ax ay bx by' cx cy)) ∧ Below w.heap.size w w' := by
  by_cases hv : nodeB ax ay = true ∧ nodeB bx by' = true ∧ nodeB cx cy = true
  · obtain ⟨h1, h2, h3⟩ := hv
    have HN : Hid ((nodeB ax ay && nodeB bx by' && nodeB cx cy) = true) := Lib.hid (by rw [h1, h2, h3]; rfl)
    have HR : Hid (befB ax ay bx by' cx cy = (if halfI ax ay bx by' = halfI ax ay cx cy then decide (0 < turnI ax ay bx by' cx cy) else decide (halfI ax ay bx by' < halfI ax ay cx cy))) := Lib.hid (by unfold befB; rw [h1, h2, h3]; rfl)
    go_enter Tryz.func118, Tryz.ntmps118
    go_wp2_with fail
    refine (nodes3_any _ ax ay bx by' cx cy _ (RP_lit (by simp) rfl rfl rfl (by simp [maxLen]))).mono ?_
    rintro e w1 ⟨rfl, hb1⟩; (first | (with_reducible have hc1 := bdC hb1) | have hc1 := bcC hb1); (first | (with_reducible have hf1 := bdF hb1) | have hf1 := bcF hb1); have hz1 := hb1.size; (try simp at hz1); (try have hp1_0 := p0_ w w1); (try have hp1_1 := p1_ w w1); (try have hp1_2 := p2_ w w1); (try have hp1_3 := p3_ w w1)
    rw [HN.out]
    go_wp2_with fail
    (refine wp_region_quietG (by kernel_rfl) (by kernel_rfl) (fun hG => ?_))
    repeat (go_big_quiet_step ((go_at_call 129; exact quietG (iHalf_any _ _ _ _ _))))
    (refine wpQuiet_nil ?_); (clear hG); (rintro w4 ⟨⟨_, hb4⟩, rfl⟩); (try dsimp only); (first | (with_reducible have hc4 := bdC hb4) | have hc4 := bcC hb4); (first | (with_reducible have hf4 := bdF hb4) | have hf4 := bcF hb4); have hz4 := hb4.size; (try simp at hz4); (try have hp4_0 := p0_ w w4); (try have hp4_1 := p1_ w w4); (try have hp4_2 := p2_ w w4); (try have hp4_3 := p3_ w w4)
    generalize hU : halfI ax ay bx by' = u at *
    generalize hV : halfI ax ay cx cy = v at *
    clear hU hV
    go_wp2_with (go_at_call 83; refine (iTurn_any _ _ _ _ _ _ _ h1 h2 h3).mono ?_; rintro e w5 ⟨rfl, hb5⟩; (first | (with_reducible have hc5 := bdC hb5) | have hc5 := bcC hb5); (first | (with_reducible have hf5 := bdF hb5) | have hf5 := bcF hb5); have hz5 := hb5.size; (try simp at hz5); (try have hp5_0 := p0_ w w5); (try have hp5_1 := p1_ w w5); (try have hp5_2 := p2_ w w5); (try have hp5_3 := p3_ w w5))
    all_goals go_ret
    all_goals refine ⟨ret_bool ?_, by exact bel_⟩
    all_goals rw [HR.out]
    all_goals by_cases huv : u = v
    all_goals first | rw [if_pos huv] | rw [if_neg huv]
    all_goals first | (simp_all; done) | (simp_all; omega) | (simp; omega)
  · have HN : Hid ((nodeB ax ay && nodeB bx by' && nodeB cx cy) = false) := Lib.hid (by
      cases h1 : nodeB ax ay <;> cases h2 : nodeB bx by' <;> cases h3 : nodeB cx cy <;> simp_all)
    have HR := Lib.hid (bef_inv hv)
    clear hv
    go_enter Tryz.func118, Tryz.ntmps118
    go_wp2_with fail
    refine (nodes3_any _ ax ay bx by' cx cy _ (RP_lit (by simp) rfl rfl rfl (by simp [maxLen]))).mono ?_
    rintro e w1 ⟨rfl, hb1⟩; (first | (with_reducible have hc1 := bdC hb1) | have hc1 := bcC hb1); (first | (with_reducible have hf1 := bdF hb1) | have hf1 := bcF hb1); have hz1 := hb1.size; (try simp at hz1); (try have hp1_0 := p0_ w w1); (try have hp1_1 := p1_ w w1); (try have hp1_2 := p2_ w w1); (try have hp1_3 := p3_ w w1)
    rw [HN.out]
    go_wp2
    go_ret
    exact ⟨ret_bool HR.out.symm, by exact bel_⟩
theorem iBefore_at (a b c : Pr) (x : Bool) (w : World) (h : befB a.1 a.2 b.1 b.2 c.1 c.2 = x) :
    Calls Tryz.prog 118 #[.agg #[.int .i64 a.1, .int .i64 a.2], .agg #[.int .i64 b.1, .int .i64 b.2], .agg #[.int .i64 c.1, .int .i64 c.2]] w
      fun e w' => e = .returned (.bool x) ∧ Below w.heap.size w w' := by
  subst h; exact iBefore_any _ _ _ _ _ _ w
end Go.Proofs.YtbennlajjfkdpaaGreatDoor
