/- part 16 -/
import Derived.Test.YtbennlajjfkdpaaGreatDoorFPk11
set_option linter.unusedSimpArgs false
set_option linter.unusedVariables false
namespace Go.Proofs.YtbennlajjfkdpaaGreatDoor
open Go.RowKit
attribute [local go_sem ↓] run_eqNode run_neNode run_mn2 run_mx2
def halfI (ax ay bx by' : Int) : Int := if by' > ay ∨ (by' = ay ∧ bx > ax) then 0 else 1
def befB (ax ay bx by' cx cy : Int) : Bool :=
  nodeB ax ay && nodeB bx by' && nodeB cx cy && (if halfI ax ay bx by' = halfI ax ay cx cy then decide (0 < turnI ax ay bx by' cx cy) else decide (halfI ax ay bx by' < halfI ax ay cx cy))
set_option maxHeartbeats 1000000 in
set_option maxRecDepth 100000 in
theorem sHalf_any (ax ay bx by' : Int) (w : World) :
    Calls Tryz.prog 132 #[.agg #[.int .i64 ax, .int .i64 ay], .agg #[.int .i64 bx, .int .i64 by']] w fun e w' => e = .returned (.int .i64 (halfI ax ay bx by')) ∧ Below w.heap.size w w' := by
  go_enter Tryz.func132, Tryz.ntmps132
  go_wp2
  all_goals go_ret
  all_goals refine ⟨ret_int ?_, by exact bel_⟩
  all_goals unfold halfI
  all_goals first | (rw [if_pos (by omega)]; done) | (rw [if_neg (by omega)]; done) | (simp_all; done) | (simp_all; omega)
theorem bef_inv {ax ay bx by' cx cy : Int} (h : ¬ (nodeB ax ay = true ∧ nodeB bx by' = true ∧ nodeB cx cy = true)) : befB ax ay bx by' cx cy = false := by
  unfold befB
  cases h1 : nodeB ax ay <;> cases h2 : nodeB bx by' <;> cases h3 : nodeB cx cy <;> simp_all
set_option maxHeartbeats 2000000 in
set_option maxRecDepth 100000 in
theorem sBefore_any (ax ay bx by' cx cy : Int) (w : World) :
    Calls Tryz.prog 126 #[.agg #[.int .i64 ax, .int .i64 ay], .agg #[.int .i64 bx, .int .i64 by'], .agg #[.int .i64 cx, .int .i64 cy]] w
      fun e w' => e = .returned (.bool (befB ax ay bx by' cx cy)) ∧ Below w.heap.size w w' := by
  cases h1 : nodeB ax ay
  · have HR := Lib.hid (bef_inv (ax := ax) (ay := ay) (bx := bx) (by' := by') (cx := cx) (cy := cy) (by rw [h1]; simp))
    go_enter Tryz.func126, Tryz.ntmps126
    go_wp2_with fail
    refine (sNodeOk_at _ _ _ _ h1).mono ?_
    rintro e w1 ⟨rfl, hb1⟩; (first | (with_reducible have hc1 := bdC hb1) | have hc1 := bcC hb1); (first | (with_reducible have hf1 := bdF hb1) | have hf1 := bcF hb1); have hz1 := hb1.size; (try simp at hz1); (try have hp1_0 := p0_ w w1); (try have hp1_1 := p1_ w w1); (try have hp1_2 := p2_ w w1); (try have hp1_3 := p3_ w w1)
    go_wp2
    go_ret
    exact ⟨ret_bool HR.out.symm, by exact bel_⟩
  cases h2 : nodeB bx by'
  · have HR := Lib.hid (bef_inv (ax := ax) (ay := ay) (bx := bx) (by' := by') (cx := cx) (cy := cy) (by rw [h2]; simp))
    go_enter Tryz.func126, Tryz.ntmps126
    go_wp2_with fail
    refine (sNodeOk_at _ _ _ _ h1).mono ?_
    rintro e w1 ⟨rfl, hb1⟩; (first | (with_reducible have hc1 := bdC hb1) | have hc1 := bcC hb1); (first | (with_reducible have hf1 := bdF hb1) | have hf1 := bcF hb1); have hz1 := hb1.size; (try simp at hz1); (try have hp1_0 := p0_ w w1); (try have hp1_1 := p1_ w w1); (try have hp1_2 := p2_ w w1); (try have hp1_3 := p3_ w w1)
    go_wp2_with fail
    refine (sNodeOk_at _ _ _ _ h2).mono ?_
    rintro e w2 ⟨rfl, hb2⟩; (first | (with_reducible have hc2 := bdC hb2) | have hc2 := bcC hb2); (first | (with_reducible have hf2 := bdF hb2) | have hf2 := bcF hb2); have hz2 := hb2.size; (try simp at hz2); (try have hp2_0 := p0_ w w2); (try have hp2_1 := p1_ w w2); (try have hp2_2 := p2_ w w2); (try have hp2_3 := p3_ w w2)
    go_wp2
    go_ret
    exact ⟨ret_bool HR.out.symm, by exact bel_⟩
  cases h3 : nodeB cx cy
  · have HR := Lib.hid (bef_inv (ax := ax) (ay := ay) (bx := bx) (by' := by') (cx := cx) (cy := cy) (by rw [h3]; simp))
    go_enter Tryz.func126, Tryz.ntmps126
    go_wp2_with fail
    refine (sNodeOk_at _ _ _ _ h1).mono ?_
    rintro e w1 ⟨rfl, hb1⟩; (first | (with_reducible have hc1 := bdC hb1) | have hc1 := bcC hb1); (first | (with_reducible have hf1 := bdF hb1) | have hf1 := bcF hb1); have hz1 := hb1.size; (try simp at hz1); (try have hp1_0 := p0_ w w1); (try have hp1_1 := p1_ w w1); (try have hp1_2 := p2_ w w1); (try have hp1_3 := p3_ w w1)
    go_wp2_with fail
    refine (sNodeOk_at _ _ _ _ h2).mono ?_
    rintro e w2 ⟨rfl, hb2⟩; (first | (with_reducible have hc2 := bdC hb2) | have hc2 := bcC hb2); (first | (with_reducible have hf2 := bdF hb2) | have hf2 := bcF hb2); have hz2 := hb2.size; (try simp at hz2); (try have hp2_0 := p0_ w w2); (try have hp2_1 := p1_ w w2); (try have hp2_2 := p2_ w w2); (try have hp2_3 := p3_ w w2)
    go_wp2_with fail
    refine (sNodeOk_at _ _ _ _ h3).mono ?_
    rintro e w3 ⟨rfl, hb3⟩; (first | (with_reducible have hc3 := bdC hb3) | have hc3 := bcC hb3); (first | (with_reducible have hf3 := bdF hb3) | have hf3 := bcF hb3); have hz3 := hb3.size; (try simp at hz3); (try have hp3_0 := p0_ w w3); (try have hp3_1 := p1_ w w3); (try have hp3_2 := p2_ w w3); (try have hp3_3 := p3_ w w3)
    go_wp2
    go_ret
    exact ⟨ret_bool HR.out.symm, by exact bel_⟩
  · have HR : Hid (befB ax ay bx by' cx cy = (if halfI ax ay bx by' = halfI ax ay cx cy then decide (0 < turnI ax ay bx by' cx cy) else decide (halfI ax ay bx by' < halfI ax ay cx cy))) := Lib.hid (by unfold befB; rw [h1, h2, h3]; rfl)
    by_cases huv : halfI ax ay bx by' = halfI ax ay cx cy
    · have e1 : (halfI ax ay bx by' != halfI ax ay cx cy) = false := by simp [huv]
      rw [if_pos huv] at HR
      have HU := Lib.hid huv
      clear huv
      go_enter Tryz.func126, Tryz.ntmps126
      go_wp2_with fail
      refine (sNodeOk_at _ _ _ _ h1).mono ?_
      rintro e w1 ⟨rfl, hb1⟩; (first | (with_reducible have hc1 := bdC hb1) | have hc1 := bcC hb1); (first | (with_reducible have hf1 := bdF hb1) | have hf1 := bcF hb1); have hz1 := hb1.size; (try simp at hz1); (try have hp1_0 := p0_ w w1); (try have hp1_1 := p1_ w w1); (try have hp1_2 := p2_ w w1); (try have hp1_3 := p3_ w w1)
      go_wp2_with fail
      refine (sNodeOk_at _ _ _ _ h2).mono ?_
      rintro e w2 ⟨rfl, hb2⟩; (first | (with_reducible have hc2 := bdC hb2) | have hc2 := bcC hb2); (first | (with_reducible have hf2 := bdF hb2) | have hf2 := bcF hb2); have hz2 := hb2.size; (try simp at hz2); (try have hp2_0 := p0_ w w2); (try have hp2_1 := p1_ w w2); (try have hp2_2 := p2_ w w2); (try have hp2_3 := p3_ w w2)
      go_wp2_with fail
      refine (sNodeOk_at _ _ _ _ h3).mono ?_
      rintro e w3 ⟨rfl, hb3⟩; (first | (with_reducible have hc3 := bdC hb3) | have hc3 := bcC hb3); (first | (with_reducible have hf3 := bdF hb3) | have hf3 := bcF hb3); have hz3 := hb3.size; (try simp at hz3); (try have hp3_0 := p0_ w w3); (try have hp3_1 := p1_ w w3); (try have hp3_2 := p2_ w w3); (try have hp3_3 := p3_ w w3)
      go_wp2_with fail
      (refine wp_region_quietG (by kernel_rfl) (by kernel_rfl) (fun hG => ?_))
      repeat (go_big_quiet_step ((go_at_call 132; exact quietG (sHalf_any _ _ _ _ _))))
      (refine wpQuiet_nil ?_); (clear hG); (rintro w4 ⟨⟨_, hb4⟩, rfl⟩); (try dsimp only); (first | (with_reducible have hc4 := bdC hb4) | have hc4 := bcC hb4); (first | (with_reducible have hf4 := bdF hb4) | have hf4 := bcF hb4); have hz4 := hb4.size; (try simp at hz4); (try have hp4_0 := p0_ w w4); (try have hp4_1 := p1_ w w4); (try have hp4_2 := p2_ w w4); (try have hp4_3 := p3_ w w4)
      go_wp2_with fail
      refine (sTurn_any _ _ _ _ _ _ _ h1 h2 h3).mono ?_
      rintro e w5 ⟨rfl, hb5⟩; (first | (with_reducible have hc5 := bdC hb5) | have hc5 := bcC hb5); (first | (with_reducible have hf5 := bdF hb5) | have hf5 := bcF hb5); have hz5 := hb5.size; (try simp at hz5); (try have hp5_0 := p0_ w w5); (try have hp5_1 := p1_ w w5); (try have hp5_2 := p2_ w w5); (try have hp5_3 := p3_ w w5)
      go_wp2
      go_ret
      exact ⟨ret_bool HR.out.symm, by exact bel_⟩
    · have e1 : (halfI ax ay bx by' != halfI ax ay cx cy) = true := by simp [huv]
      rw [if_neg huv] at HR
      have HU := Lib.hid huv
      clear huv
      go_enter Tryz.func126, Tryz.ntmps126
      go_wp2_with fail
      refine (sNodeOk_at _ _ _ _ h1).mono ?_
      rintro e w1 ⟨rfl, hb1⟩; (first | (with_reducible have hc1 := bdC hb1) | have hc1 := bcC hb1); (first | (with_reducible have hf1 := bdF hb1) | have hf1 := bcF hb1); have hz1 := hb1.size; (try simp at hz1); (try have hp1_0 := p0_ w w1); (try have hp1_1 := p1_ w w1); (try have hp1_2 := p2_ w w1); (try have hp1_3 := p3_ w w1)
      go_wp2_with fail
      refine (sNodeOk_at _ _ _ _ h2).mono ?_
      rintro e w2 ⟨rfl, hb2⟩; (first | (with_reducible have hc2 := bdC hb2) | have hc2 := bcC hb2); (first | (with_reducible have hf2 := bdF hb2) | have hf2 := bcF hb2); have hz2 := hb2.size; (try simp at hz2); (try have hp2_0 := p0_ w w2); (try have hp2_1 := p1_ w w2); (try have hp2_2 := p2_ w w2); (try have hp2_3 := p3_ w w2)
      go_wp2_with fail
      refine (sNodeOk_at _ _ _ _ h3).mono ?_
      rintro e w3 ⟨rfl, hb3⟩; (first | (with_reducible have hc3 := bdC hb3) | have hc3 := bcC hb3); (first | (with_reducible have hf3 := bdF hb3) | have hf3 := bcF hb3); have hz3 := hb3.size; (try simp at hz3); (try have hp3_0 := p0_ w w3); (try have hp3_1 := p1_ w w3); (try have hp3_2 := p2_ w w3); (try have hp3_3 := p3_ w w3)
      go_wp2_with fail
      (refine wp_region_quietG (by kernel_rfl) (by kernel_rfl) (fun hG => ?_))
      repeat (go_big_quiet_step ((go_at_call 132; exact quietG (sHalf_any _ _ _ _ _))))
      (refine wpQuiet_nil ?_); (clear hG); (rintro w4 ⟨⟨_, hb4⟩, rfl⟩); (try dsimp only); (first | (with_reducible have hc4 := bdC hb4) | have hc4 := bcC hb4); (first | (with_reducible have hf4 := bdF hb4) | have hf4 := bcF hb4); have hz4 := hb4.size; (try simp at hz4); (try have hp4_0 := p0_ w w4); (try have hp4_1 := p1_ w w4); (try have hp4_2 := p2_ w w4); (try have hp4_3 := p3_ w w4)
      go_wp2_with fail
      (refine wp_region_quietG (by kernel_rfl) (by kernel_rfl) (fun hG => ?_))
      repeat (go_big_quiet_step ((go_at_call 132; exact quietG (sHalf_any _ _ _ _ _))))
      (refine wpQuiet_nil ?_); (clear hG); (rintro w5 ⟨⟨_, hb5⟩, rfl⟩); (try dsimp only); (first | (with_reducible have hc5 := bdC hb5) | have hc5 := bcC hb5); (first | (with_reducible have hf5 := bdF hb5) | have hf5 := bcF hb5); have hz5 := hb5.size; (try simp at hz5); (try have hp5_0 := p0_ w w5); (try have hp5_1 := p1_ w w5); (try have hp5_2 := p2_ w w5); (try have hp5_3 := p3_ w w5)
      go_wp2
      go_ret
      exact ⟨ret_bool HR.out.symm, by exact bel_⟩
def dFrom (ls : List Pr) (d : Nat) : Int := if d % 2 = 1 then (ndI ls (d / 2 : Nat)).2 else (ndI ls (d / 2 : Nat)).1
def dTo (ls : List Pr) (d : Nat) : Int := if d % 2 = 1 then (ndI ls (d / 2 : Nat)).1 else (ndI ls (d / 2 : Nat)).2
theorem tdiv2 (d : Nat) : Int.tdiv (d : Int) 2 = ((d / 2 : Nat) : Int) := by
  rw [Int.tdiv_eq_ediv_of_nonneg (by omega)]; omega
theorem tmod2 (d : Nat) : Int.tmod (d : Int) 2 = ((d % 2 : Nat) : Int) := by
  rw [Int.tmod_eq_emod_of_nonneg (by omega)]; omega
set_option maxHeartbeats 2000000 in
set_option maxRecDepth 100000 in
theorem sEnds_any (vn vl : Value) (ls : List Pr) (d : Nat) (w : World) (hl : RP w vl ls) (hd : d < 2 * ls.length) :
    Calls Tryz.prog 36 #[.agg #[vn, vl], .int .i64 d] w fun e w' => e = .returned (.tuple #[.int .i64 (dFrom ls d), .int .i64 (dTo ls d)]) ∧ Below w.heap.size w w' := by
  obtain ⟨A, c, rfl, hc, hm, hcell⟩ := hl.formI
  unfold maxLen at hm
  clear hl
  obtain ⟨b, off, rfl, hb, hcl⟩ := hcell (by omega)
  obtain ⟨k0, k1⟩ := hcl (d / 2) (by omega)
  have t1 := tdiv2 d
  have t2 := tmod2 d
  have HF : Hid (dFrom ls d = if d % 2 = 1 then (ndI ls (d / 2 : Nat)).2 else (ndI ls (d / 2 : Nat)).1) := Lib.hid rfl
  have HG : Hid (dTo ls d = if d % 2 = 1 then (ndI ls (d / 2 : Nat)).1 else (ndI ls (d / 2 : Nat)).2) := Lib.hid rfl
  have hq : d / 2 < ls.length := by omega
  have hq1 : ((d / 2 : Nat) : Int) < (ls.length : Int) := by omega
  have hq2 : (0 : Int) ≤ ((d / 2 : Nat) : Int) := by omega
  have hr : d % 2 = 0 ∨ d % 2 = 1 := by omega
  have nb : b < w.heap.size + 1 := by omega
  have nb2 : b < w.heap.size + 1 + 1 := by omega
  generalize d / 2 = q at *
  generalize ndI ls (q : Int) = L at *
  obtain ⟨l1, l2⟩ := L
  simp only at k0 k1 HF HG
  clear hcl hcell
  rcases hr with hr | hr
  · rw [hr] at HF HG t2
    have e1 : ((0 : Nat) : Int) = 0 := rfl
    go_enter Tryz.func36, Tryz.ntmps36
    go_wp2
    go_quiet (fail)
    go_wp2
    exact bodyPost_ret (v := .tuple #[.int .i64 l1, .int .i64 l2]) (by simp [results, Tryz.results36, go_sem]) rfl ⟨by rw [HF.out, HG.out]; rfl, by exact bel_⟩
  · rw [hr] at HF HG t2
    have e1 : ((1 : Nat) : Int) = 1 := rfl
    go_enter Tryz.func36, Tryz.ntmps36
    go_wp2
    go_quiet (fail)
    go_wp2
    exact bodyPost_ret (v := .tuple #[.int .i64 l2, .int .i64 l1]) (by simp [results, Tryz.results36, go_sem]) rfl ⟨by rw [HF.out, HG.out]; rfl, by exact bel_⟩
end Go.Proofs.YtbennlajjfkdpaaGreatDoor
