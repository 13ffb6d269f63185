/- part 12 -/
import Derived.Test.YtbennlajjfkdpaaGreatDoorFPk11
set_option linter.unusedSimpArgs false
set_option linter.unusedVariables false
namespace Go.Proofs.YtbennlajjfkdpaaGreatDoor
open Go.RowKit
attribute [local go_sem ↓] run_eqNode run_neNode run_mn2 run_mx2
theorem mul_bd8 {u v : Int} (h1 : -800 ≤ u ∧ u ≤ 800) (h3 : -800 ≤ v ∧ v ≤ 800) : -640000 ≤ u * v ∧ u * v ≤ 640000 := by
  have h : (u * v).natAbs ≤ 800 * 800 := by
    rw [Int.natAbs_mul]
    exact Nat.mul_le_mul (by omega) (by omega)
  omega
theorem cross_no1 {ns : List Pr} {l m : Pr} (h : leadB ns l = false) : crossB ns l m = false := by simp [crossB, h]
theorem cross_no2 {ns : List Pr} {l m : Pr} (h : leadB ns m = false) : crossB ns l m = false := by simp [crossB, h]
theorem on_no {ns : List Pr} {l n : Pr} (h : leadB ns l = false) : onB ns l n = false := by simp [onB, h]
theorem cross_yes {ns : List Pr} {p q r s : Nat} {ax ay bx by' cx cy dx dy : Int} (h1 : leadB ns (p, q) = true) (h2 : leadB ns (r, s) = true)
    (ea : ndI ns p = (ax, ay)) (eb : ndI ns q = (bx, by')) (ec : ndI ns r = (cx, cy)) (ed : ndI ns s = (dx, dy)) :
    crossB ns (p, q) (r, s) = (((prB ax ay cx cy && prB bx by' dx dy) || (prB ax ay dx dy && prB bx by' cx cy)) || (betwB ax ay bx by' cx cy || betwB ax ay bx by' dx dy || betwB cx cy dx dy ax ay || betwB cx cy dx dy bx by') ||
      (decide (turnI ax ay bx by' cx cy * turnI ax ay bx by' dx dy < 0) && decide (turnI cx cy dx dy ax ay * turnI cx cy dx dy bx by' < 0))) := by
  simp [crossB, h1, h2, ea, eb, ec, ed, crossP, sameP, betwP, turnP]
theorem lead_cells {w : World} {ns : List Pr} {b off : Nat} {a c : Int} (hl : leadB ns (a, c) = true)
    (hcl : ∀ k : Nat, k < ns.length → w.cell? ⟨b, off + k * 2, none⟩ = some (.int .i64 (ndI ns k).1) ∧ w.cell? ⟨b, off + k * 2 + 1, none⟩ = some (.int .i64 (ndI ns k).2)) :
    ∃ (p q : Nat) (ax ay bx by' : Int), a = (p : Int) ∧ c = (q : Int) ∧ p < q ∧ q < ns.length ∧ ndI ns p = (ax, ay) ∧ ndI ns q = (bx, by') ∧ nodeB ax ay = true ∧ nodeB bx by' = true ∧
      w.cell? ⟨b, off + p * 2, none⟩ = some (.int .i64 ax) ∧ w.cell? ⟨b, off + p * 2 + 1, none⟩ = some (.int .i64 ay) ∧ w.cell? ⟨b, off + q * 2, none⟩ = some (.int .i64 bx) ∧ w.cell? ⟨b, off + q * 2 + 1, none⟩ = some (.int .i64 by') := by
  obtain ⟨h1, h2, h3, h4, h5, _⟩ := leadB_iff.1 hl
  simp only at h1 h2 h3 h4 h5
  obtain ⟨p, rfl⟩ := Int.eq_ofNat_of_zero_le h1
  obtain ⟨q, rfl⟩ := Int.eq_ofNat_of_zero_le (show 0 ≤ c by omega)
  obtain ⟨k0, k1⟩ := hcl p (by omega)
  obtain ⟨j0, j1⟩ := hcl q (by omega)
  exact ⟨p, q, (ndI ns p).1, (ndI ns p).2, (ndI ns q).1, (ndI ns q).2, rfl, rfl, by omega, by omega, rfl, rfl, h4, h5, k0, k1, j0, j1⟩
theorem sign_bd (x : Int) : -1 ≤ Int.sign x ∧ Int.sign x ≤ 1 := by
  rcases Int.lt_trichotomy x 0 with h | h | h
  · rw [Int.sign_eq_neg_one_of_neg h]; omega
  · subst h; simp
  · rw [Int.sign_eq_one_of_pos h]; omega
theorem mul_bd1 {u v : Int} (h1 : -1 ≤ u ∧ u ≤ 1) (h3 : -1 ≤ v ∧ v ≤ 1) : -1 ≤ u * v ∧ u * v ≤ 1 := by
  have h : (u * v).natAbs ≤ 1 * 1 := by
    rw [Int.natAbs_mul]
    exact Nat.mul_le_mul (by omega) (by omega)
  omega
set_option maxHeartbeats 400000 in
theorem sSign_any (n : Int) (w : World) :
    Calls Tryz.prog 96 #[.int .i64 n] w fun e w' => e = .returned (.int .i64 (Int.sign n)) ∧ w = w' := by
  go_enter Tryz.func96, Tryz.ntmps96
  go_wp2
  all_goals go_ret
  all_goals refine ⟨ret_int ?_, rfl⟩
  all_goals symm
  · exact Int.sign_eq_neg_one_of_neg (by omega)
  · exact Int.sign_eq_one_of_pos (by omega)
  · rw [show n = 0 by omega]; rfl
def zeroF (ax ay bx by' cx cy dx dy : Int) : Prop :=
  (prB ax ay cx cy = true → turnI ax ay bx by' cx cy = 0) ∧ (prB ax ay dx dy = true → turnI ax ay bx by' dx dy = 0) ∧ (prB bx by' cx cy = true → turnI ax ay bx by' cx cy = 0) ∧ (prB bx by' dx dy = true → turnI ax ay bx by' dx dy = 0)
theorem zeroF_any (ax ay bx by' cx cy dx dy : Int) : zeroF ax ay bx by' cx cy dx dy := by
  have t1 : ∀ ax ay bx by' cx cy : Int, prB ax ay cx cy = true → turnI ax ay bx by' cx cy = 0 := by
    intro ax ay bx by' cx cy h
    have := prB_iff.1 h
    simp only [Prod.mk.injEq] at this
    obtain ⟨rfl, rfl⟩ := this
    exact turn_self1 (ax, ay) (bx, by')
  have t2 : ∀ ax ay bx by' cx cy : Int, prB bx by' cx cy = true → turnI ax ay bx by' cx cy = 0 := by
    intro ax ay bx by' cx cy h
    have := prB_iff.1 h
    simp only [Prod.mk.injEq] at this
    obtain ⟨rfl, rfl⟩ := this
    exact turn_self2 (ax, ay) (bx, by')
  exact ⟨t1 _ _ _ _ _ _, t1 _ _ _ _ _ _, t2 _ _ _ _ _ _, t2 _ _ _ _ _ _⟩
set_option maxHeartbeats 8000000 in
set_option maxRecDepth 100000 in
theorem sCross_any (v : Value) (ns : List Pr) (a b c d : Int) (w : World) (h : RP w v ns) :
    Calls Tryz.prog 79 #[v, .agg #[.int .i64 a, .int .i64 b], .agg #[.int .i64 c, .int .i64 d]] w fun e w' => e = .returned (.bool (crossB ns (a, b) (c, d))) ∧ Below w.heap.size w w' := by
  cases hl : leadB ns (a, b)
  · have HR := Lib.hid (cross_no1 (m := (c, d)) hl)
    go_enter Tryz.func79, Tryz.ntmps79
    go_wp2_with fail
    refine (sLeadOk_any _ ns _ _ _ (h.below (by exact bel_))).mono ?_
    rintro e w1 ⟨rfl, hb1⟩; (first | (with_reducible have hc1 := bdC hb1) | have hc1 := bcC hb1); (first | (with_reducible have hf1 := bdF hb1) | have hf1 := bcF hb1); have hz1 := hb1.size; (try simp at hz1); (try have hp1_0 := p0_ w w1); (try have hp1_1 := p1_ w w1); (try have hp1_2 := p2_ w w1); (try have hp1_3 := p3_ w w1)
    rw [hl]
    go_wp2
    go_ret
    exact ⟨ret_bool HR.out.symm, by exact bel_⟩
  cases hm : leadB ns (c, d)
  · have HR := Lib.hid (cross_no2 (l := (a, b)) hm)
    go_enter Tryz.func79, Tryz.ntmps79
    go_wp2_with fail
    refine (sLeadOk_any _ ns _ _ _ (h.below (by exact bel_))).mono ?_
    rintro e w1 ⟨rfl, hb1⟩; (first | (with_reducible have hc1 := bdC hb1) | have hc1 := bcC hb1); (first | (with_reducible have hf1 := bdF hb1) | have hf1 := bcF hb1); have hz1 := hb1.size; (try simp at hz1); (try have hp1_0 := p0_ w w1); (try have hp1_1 := p1_ w w1); (try have hp1_2 := p2_ w w1); (try have hp1_3 := p3_ w w1)
    rw [hl]
    have hbw1 : Below w.heap.size w w1 := by exact bel_
    go_wp2_with fail
    refine (sLeadOk_any _ ns _ _ _ (h.below (by exact bel_))).mono ?_
    rintro e w2 ⟨rfl, hb2⟩; (first | (with_reducible have hc2 := bdC hb2) | have hc2 := bcC hb2); (first | (with_reducible have hf2 := bdF hb2) | have hf2 := bcF hb2); have hz2 := hb2.size; (try simp at hz2); (try have hp2_0 := p0_ w w2); (try have hp2_1 := p1_ w w2); (try have hp2_2 := p2_ w w2); (try have hp2_3 := p3_ w w2)
    rw [hm]
    go_wp2
    go_ret
    exact ⟨ret_bool HR.out.symm, by exact bel_⟩
  obtain ⟨A, cp, rfl, hc, hmx, hcell⟩ := h.formI
  unfold maxLen at hmx
  have hpos : 0 < ns.length := by
    obtain ⟨h1, h2, h3, _⟩ := leadB_iff.1 hl
    simp only at h1 h2 h3
    omega
  obtain ⟨gb, off, rfl, hgb, hcl⟩ := hcell hpos
  obtain ⟨p, q, ax, ay, bx, by', rfl, rfl, hpq, hq, ea, eb, va, vb, k0, k1, k2, k3⟩ := lead_cells hl hcl
  obtain ⟨r, s, cx, cy, dx, dy, rfl, rfl, hrs, hs, ec, ed, vc, vd, j0, j1, j2, j3⟩ := lead_cells hm hcl
  have HR := Lib.hid (cross_yes hl hm ea eb ec ed)
  have HZ := Lib.hid (zeroF_any ax ay bx by' cx cy dx dy)
  have q1 := mul_bd1 (sign_bd (turnI ax ay bx by' cx cy)) (sign_bd (turnI ax ay bx by' dx dy))
  have q2 := mul_bd1 (sign_bd (turnI cx cy dx dy ax ay)) (sign_bd (turnI cx cy dx dy bx by'))
  have hp : p < ns.length := by omega
  have hr : r < ns.length := by omega
  have n1 : gb < w.heap.size + 1 + 1 := by omega
  clear hcl hcell hpos ea eb ec ed hc
  go_enter Tryz.func79, Tryz.ntmps79
  go_wp2_with fail
  refine (sLeadOk_any _ ns _ _ _ (h.below (by exact bel_))).mono ?_
  rintro e w1 ⟨rfl, hb1⟩; (first | (with_reducible have hc1 := bdC hb1) | have hc1 := bcC hb1); (first | (with_reducible have hf1 := bdF hb1) | have hf1 := bcF hb1); have hz1 := hb1.size; (try simp at hz1); (try have hp1_0 := p0_ w w1); (try have hp1_1 := p1_ w w1); (try have hp1_2 := p2_ w w1); (try have hp1_3 := p3_ w w1)
  rw [hl]
  have hbw1 : Below w.heap.size w w1 := by exact bel_
  go_wp2_with fail
  refine (sLeadOk_any _ ns _ _ _ (h.below (by exact bel_))).mono ?_
  rintro e w2 ⟨rfl, hb2⟩; (first | (with_reducible have hc2 := bdC hb2) | have hc2 := bcC hb2); (first | (with_reducible have hf2 := bdF hb2) | have hf2 := bcF hb2); have hz2 := hb2.size; (try simp at hz2); (try have hp2_0 := p0_ w w2); (try have hp2_1 := p1_ w w2); (try have hp2_2 := p2_ w w2); (try have hp2_3 := p3_ w w2)
  rw [hm]
  have hbw2 : Below w.heap.size w w2 := by exact bel_
  have m1 : gb < w1.heap.size := by omega
  have m2 : gb < w2.heap.size := by omega
  have m3 : gb < w2.heap.size + 1 := by omega
  have m4 : gb < w2.heap.size + 1 + 1 := by omega
  have m5 : gb < w2.heap.size + 1 + 1 + 1 := by omega
  clear h hl hm
  go_wp2_with (go_at_call 95; refine (sBetween_any _ _ _ _ _ _ _).mono ?_; rintro e w3 ⟨rfl, hb3⟩; (first | (with_reducible have hc3 := bdC hb3) | have hc3 := bcC hb3); (first | (with_reducible have hf3 := bdF hb3) | have hf3 := bcF hb3); have hz3 := hb3.size; (try simp at hz3); (try have hp3_0 := p0_ w w3); (try have hp3_1 := p1_ w w3); (try have hp3_2 := p2_ w w3); (try have hp3_3 := p3_ w w3); (have hq3_0 : w2.heap.size < w3.heap.size := by omega); (have hq3_1 : w2.heap.size + 1 < w3.heap.size := by omega); (have hq3_2 : w2.heap.size + 1 + 1 < w3.heap.size := by omega); (have hq3_3 : w2.heap.size + 1 + 1 + 1 < w3.heap.size := by omega))
  all_goals first | (go_ret; exact ⟨ret_bool (by rw [HR.out]; have z := HZ.out; unfold zeroF at z; clear HR HZ; simp_all), by exact bel_⟩) | skip
  by_cases hneg : Int.sign (turnI ax ay bx by' cx cy) * Int.sign (turnI ax ay bx by' dx dy) < 0
  · have HN := Lib.hid ((sign_mul_neg _ _).1 hneg)
    (refine wp_region_quietG (by kernel_rfl) (by kernel_rfl) (fun hG => ?_))
    repeat (go_big_quiet_step (first | (go_at_call 97; exact quietG (sTurn_any _ _ _ _ _ _ _ (by assumption) (by assumption) (by assumption))) | (go_at_call 96; exact quietS (sSign_any _ _))))
    (refine wpQuiet_nil ?_); (clear hG); (rintro w4 ⟨⟨_, hb4⟩, rfl⟩); (try dsimp only); (first | (with_reducible have hc4 := bdC hb4) | have hc4 := bcC hb4); (first | (with_reducible have hf4 := bdF hb4) | have hf4 := bcF hb4); have hz4 := hb4.size; (try simp at hz4); (try have hp4_0 := p0_ w w4); (try have hp4_1 := p1_ w w4); (try have hp4_2 := p2_ w w4); (try have hp4_3 := p3_ w w4)
    go_wp2
    go_ret
    refine ⟨ret_bool ?_, by exact bel_⟩
    rw [HR.out]
    have hn2 := HN.out
    (try simp only [sign_mul_neg])
    clear HR HZ HN hneg
    first | (simp_all; done) | (simp_all; intro hh; omega)
  · have HN := Lib.hid (fun h => hneg ((sign_mul_neg _ _).2 h))
    (refine wp_region_quietG (by kernel_rfl) (by kernel_rfl) (fun hG => ?_))
    repeat (go_big_quiet_step (first | (go_at_call 97; exact quietG (sTurn_any _ _ _ _ _ _ _ (by assumption) (by assumption) (by assumption))) | (go_at_call 96; exact quietS (sSign_any _ _))))
    (refine wpQuiet_nil ?_); (clear hG); (rintro w4 ⟨⟨_, hb4⟩, rfl⟩); (try dsimp only); (first | (with_reducible have hc4 := bdC hb4) | have hc4 := bcC hb4); (first | (with_reducible have hf4 := bdF hb4) | have hf4 := bcF hb4); have hz4 := hb4.size; (try simp at hz4); (try have hp4_0 := p0_ w w4); (try have hp4_1 := p1_ w w4); (try have hp4_2 := p2_ w w4); (try have hp4_3 := p3_ w w4)
    go_wp2
    go_ret
    refine ⟨ret_bool ?_, by exact bel_⟩
    rw [HR.out]
    have hn2 := HN.out
    (try simp only [sign_mul_neg])
    clear HR HZ HN hneg
    first | (simp_all; done) | (simp_all; intro hh; omega)
set_option maxHeartbeats 8000000 in
set_option maxRecDepth 100000 in
theorem iCross_any (v : Value) (ns : List Pr) (a b c d : Int) (w : World) (h : RP w v ns) (hok : nodesB ns = true) :
    Calls Tryz.prog 63 #[v, .agg #[.int .i64 a, .int .i64 b], .agg #[.int .i64 c, .int .i64 d]] w fun e w' => e = .returned (.bool (crossB ns (a, b) (c, d))) ∧ Below w.heap.size w w' := by
  cases hl : leadB ns (a, b)
  · have HR := Lib.hid (cross_no1 (m := (c, d)) hl)
    go_enter Tryz.func63, Tryz.ntmps63
    go_wp2_with fail
    refine (iLeadOk_any _ ns _ _ _ (h.below (by exact bel_)) hok).mono ?_
    rintro e w1 ⟨rfl, hb1⟩; (first | (with_reducible have hc1 := bdC hb1) | have hc1 := bcC hb1); (first | (with_reducible have hf1 := bdF hb1) | have hf1 := bcF hb1); have hz1 := hb1.size; (try simp at hz1); (try have hp1_0 := p0_ w w1); (try have hp1_1 := p1_ w w1); (try have hp1_2 := p2_ w w1); (try have hp1_3 := p3_ w w1)
    rw [hl]
    go_wp2
    go_ret
    exact ⟨ret_bool HR.out.symm, by exact bel_⟩
  cases hm : leadB ns (c, d)
  · have HR := Lib.hid (cross_no2 (l := (a, b)) hm)
    go_enter Tryz.func63, Tryz.ntmps63
    go_wp2_with fail
    refine (iLeadOk_any _ ns _ _ _ (h.below (by exact bel_)) hok).mono ?_
    rintro e w1 ⟨rfl, hb1⟩; (first | (with_reducible have hc1 := bdC hb1) | have hc1 := bcC hb1); (first | (with_reducible have hf1 := bdF hb1) | have hf1 := bcF hb1); have hz1 := hb1.size; (try simp at hz1); (try have hp1_0 := p0_ w w1); (try have hp1_1 := p1_ w w1); (try have hp1_2 := p2_ w w1); (try have hp1_3 := p3_ w w1)
    rw [hl]
    have hbw1 : Below w.heap.size w w1 := by exact bel_
    go_wp2_with fail
    refine (iLeadOk_any _ ns _ _ _ (h.below (by exact bel_)) hok).mono ?_
    rintro e w2 ⟨rfl, hb2⟩; (first | (with_reducible have hc2 := bdC hb2) | have hc2 := bcC hb2); (first | (with_reducible have hf2 := bdF hb2) | have hf2 := bcF hb2); have hz2 := hb2.size; (try simp at hz2); (try have hp2_0 := p0_ w w2); (try have hp2_1 := p1_ w w2); (try have hp2_2 := p2_ w w2); (try have hp2_3 := p3_ w w2)
    rw [hm]
    go_wp2
    go_ret
    exact ⟨ret_bool HR.out.symm, by exact bel_⟩
  obtain ⟨A, cp, rfl, hc, hmx, hcell⟩ := h.formI
  unfold maxLen at hmx
  have hpos : 0 < ns.length := by
    obtain ⟨h1, h2, h3, _⟩ := leadB_iff.1 hl
    simp only at h1 h2 h3
    omega
  obtain ⟨gb, off, rfl, hgb, hcl⟩ := hcell hpos
  obtain ⟨p, q, ax, ay, bx, by', rfl, rfl, hpq, hq, ea, eb, va, vb, k0, k1, k2, k3⟩ := lead_cells hl hcl
  obtain ⟨r, s, cx, cy, dx, dy, rfl, rfl, hrs, hs, ec, ed, vc, vd, j0, j1, j2, j3⟩ := lead_cells hm hcl
  have HR := Lib.hid (cross_yes hl hm ea eb ec ed)
  have HZ := Lib.hid (zeroF_any ax ay bx by' cx cy dx dy)
  have q1 := mul_bd8 (turnI_bd va vb vc) (turnI_bd va vb vd)
  have q2 := mul_bd8 (turnI_bd vc vd va) (turnI_bd vc vd vb)
  have hp : p < ns.length := by omega
  have hr : r < ns.length := by omega
  clear hcl hcell hpos ea eb ec ed hc
  go_enter Tryz.func63, Tryz.ntmps63
  go_wp2_with fail
  refine (iLeadOk_any _ ns _ _ _ (h.below (by exact bel_)) hok).mono ?_
  rintro e w1 ⟨rfl, hb1⟩; (first | (with_reducible have hc1 := bdC hb1) | have hc1 := bcC hb1); (first | (with_reducible have hf1 := bdF hb1) | have hf1 := bcF hb1); have hz1 := hb1.size; (try simp at hz1); (try have hp1_0 := p0_ w w1); (try have hp1_1 := p1_ w w1); (try have hp1_2 := p2_ w w1); (try have hp1_3 := p3_ w w1)
  rw [hl]
  have hbw1 : Below w.heap.size w w1 := by exact bel_
  go_wp2_with fail
  refine (iLeadOk_any _ ns _ _ _ (h.below (by exact bel_)) hok).mono ?_
  rintro e w2 ⟨rfl, hb2⟩; (first | (with_reducible have hc2 := bdC hb2) | have hc2 := bcC hb2); (first | (with_reducible have hf2 := bdF hb2) | have hf2 := bcF hb2); have hz2 := hb2.size; (try simp at hz2); (try have hp2_0 := p0_ w w2); (try have hp2_1 := p1_ w w2); (try have hp2_2 := p2_ w w2); (try have hp2_3 := p3_ w w2)
  rw [hm]
  have hbw2 : Below w.heap.size w w2 := by exact bel_
  have hL1 : Blk w1 w.heap.size 62 #[.int .i64 p, .int .i64 q] := Blk.below ((Blk.newAt rfl).alloc _) hb1 sz_
  have hM1 : Blk w1 (w.heap.size + 1) 62 #[.int .i64 r, .int .i64 s] := Blk.below (Blk.newAt (by simp)) hb1 sz_
  have hL2 := hL1.below hb2 (by omega)
  have hM2 := hM1.below hb2 (by omega)
  have m2 : gb < w2.heap.size := by omega
  have e0 := (hbw2.cell (p := ⟨gb, off + p * 2, none⟩) hgb).trans k0
  have e1 := (hbw2.cell (p := ⟨gb, off + p * 2 + 1, none⟩) hgb).trans k1
  have e2 := (hbw2.cell (p := ⟨gb, off + q * 2, none⟩) hgb).trans k2
  have e3 := (hbw2.cell (p := ⟨gb, off + q * 2 + 1, none⟩) hgb).trans k3
  have e4 := (hbw2.cell (p := ⟨gb, off + r * 2, none⟩) hgb).trans j0
  have e5 := (hbw2.cell (p := ⟨gb, off + r * 2 + 1, none⟩) hgb).trans j1
  have e6 := (hbw2.cell (p := ⟨gb, off + s * 2, none⟩) hgb).trans j2
  have e7 := (hbw2.cell (p := ⟨gb, off + s * 2 + 1, none⟩) hgb).trans j3
  have z1 : w.heap.size < w2.heap.size := by omega
  have z2 : w.heap.size + 1 < w2.heap.size := by omega
  have y3 : w.heap.size < w2.heap.size + 1 := by omega
  have y4 : w.heap.size < w2.heap.size + 1 + 1 := by omega
  have y5 : gb < w2.heap.size + 1 := by omega
  have y6 : gb < w2.heap.size + 1 + 1 := by omega
  clear h hl hm hb1 hc1 hf1 hz1 hb2 hc2 hf2 hbw1 hz2 k0 k1 k2 k3 j0 j1 j2 j3 hgb hL1 hM1 hp1_0 hp1_1 hp2_0 hp2_1
  obtain ⟨l_0, l_1⟩ := hL2.c2
  generalize w.heap.size + 1 = B1 at *
  go_wp2_with fail
  go_cut [7, 8] (fun s7 s8 wx => ∃ x y : Nat, s7 = .pointer (some ⟨x, 0, none⟩) ∧ s8 = .pointer (some ⟨y, 0, none⟩) ∧ Below w2.heap.size w2 wx ∧ x < wx.heap.size ∧ y < wx.heap.size ∧
      (wx.cell? ⟨x, 0, none⟩ = some (.int .i64 ax) ∧ wx.cell? ⟨x, 1, none⟩ = some (.int .i64 ay)) ∧ (wx.cell? ⟨y, 0, none⟩ = some (.int .i64 bx) ∧ wx.cell? ⟨y, 1, none⟩ = some (.int .i64 by')))
  case first =>
    go_region
    all_goals go_wp2
    all_goals go_meet
    all_goals exact ⟨_, _, rfl, rfl, by exact bel_, sz_, sz_, ⟨by simp, by simp⟩, ⟨by simp, by simp⟩⟩
  case rest =>
    obtain ⟨x, y, rfl, rfl, hbc, hx, hy, ⟨f0, f1⟩, ⟨f2, f3⟩⟩ := hcut
    obtain ⟨w3, hw3⟩ : ∃ w3 : World, w3 = wc := ⟨_, rfl⟩
    subst hw3
    have hM3 := hM2.below hbc z2
    have d4 := (hbc.cell (p := ⟨gb, off + r * 2, none⟩) m2).trans e4
    have d5 := (hbc.cell (p := ⟨gb, off + r * 2 + 1, none⟩) m2).trans e5
    have d6 := (hbc.cell (p := ⟨gb, off + s * 2, none⟩) m2).trans e6
    have d7 := (hbc.cell (p := ⟨gb, off + s * 2 + 1, none⟩) m2).trans e7
    have hz3 := hbc.size
    have z3 : B1 < w3.heap.size := by omega
    have z4 : B1 < w3.heap.size + 1 := by omega
    have z5 : gb < w3.heap.size := by omega
    have z6 : gb < w3.heap.size + 1 := by omega
    have z7 : gb < w3.heap.size + 1 + 1 := by omega
    have hbw3 : Below w.heap.size w w3 := hbw2.trans (hbc.mono hbw2.size)
    clear e0 e1 e2 e3 e4 e5 e6 e7 hbc hM2 hL2 l_0 l_1 hbw2 m2
    obtain ⟨l_0, l_1⟩ := hM3.c2
    go_wp2_with fail
    go_cut [9, 10] (fun s7 s8 wx => ∃ u v : Nat, s7 = .pointer (some ⟨u, 0, none⟩) ∧ s8 = .pointer (some ⟨v, 0, none⟩) ∧ Below w3.heap.size w3 wx ∧ u < wx.heap.size ∧ v < wx.heap.size ∧
        (wx.cell? ⟨u, 0, none⟩ = some (.int .i64 cx) ∧ wx.cell? ⟨u, 1, none⟩ = some (.int .i64 cy)) ∧ (wx.cell? ⟨v, 0, none⟩ = some (.int .i64 dx) ∧ wx.cell? ⟨v, 1, none⟩ = some (.int .i64 dy)))
    case first =>
      go_region
      all_goals go_wp2
      all_goals go_meet
      all_goals exact ⟨_, _, rfl, rfl, by exact bel_, sz_, sz_, ⟨by simp, by simp⟩, ⟨by simp, by simp⟩⟩
    case rest =>
      obtain ⟨u, v, rfl, rfl, hbc, hu, hv, ⟨f4, f5⟩, ⟨f6, f7⟩⟩ := hcut
      obtain ⟨w4, hw4⟩ : ∃ w4 : World, w4 = wc := ⟨_, rfl⟩
      subst hw4
      have g0 := (hbc.cell (p := ⟨x, 0, none⟩) hx).trans f0
      have g1 := (hbc.cell (p := ⟨x, 1, none⟩) hx).trans f1
      have g2 := (hbc.cell (p := ⟨y, 0, none⟩) hy).trans f2
      have g3 := (hbc.cell (p := ⟨y, 1, none⟩) hy).trans f3
      have hz4 := hbc.size
      have hbw4 : Below w.heap.size w w4 := hbw3.trans (hbc.mono hbw3.size)
      have hx4 : x < w4.heap.size := by omega
      have hy4 : y < w4.heap.size := by omega
      clear f0 f1 f2 f3 d4 d5 d6 d7 hbc hM3 l_0 l_1 hbw3 hx hy
      obtain ⟨E, hE⟩ : ∃ E, ((prB ax ay cx cy && prB bx by' dx dy) || (prB ax ay dx dy && prB bx by' cx cy)) = E := ⟨_, rfl⟩
      have HE := Lib.hid hE
      rw [hE] at HR
      clear hE
      go_upto_region 5 with (fail)
      go_cut [58] (fun s58 wx => s58 = .bool E ∧ wx = w4)
      case first =>
        go_wp2
        all_goals go_meet
        all_goals exact ⟨by rw [← HE.out]; simp_all, rfl⟩
      case rest =>
        obtain ⟨rfl, rfl⟩ := hcut
        clear HE
        cases E
        · go_wp2_with (go_at_call 82; refine (iBetween_any _ _ _ _ _ _ _).mono ?_; rintro e w5 ⟨rfl, hb5⟩; (first | (with_reducible have hc5 := bdC hb5) | have hc5 := bcC hb5); (first | (with_reducible have hf5 := bdF hb5) | have hf5 := bcF hb5); have hz5 := hb5.size; (try simp at hz5); (try have hp5_0 := p0_ w w5); (try have hp5_1 := p1_ w w5); (try have hp5_2 := p2_ w w5); (try have hp5_3 := p3_ w w5); (have i1 : x < w5.heap.size := by omega); (have i2 : y < w5.heap.size := by omega); (have i3 : u < w5.heap.size := by omega); (have i4 : v < w5.heap.size := by omega))
          all_goals first | (go_ret; exact ⟨ret_bool (by rw [HR.out]; clear HR HZ; simp_all), by exact bel_⟩) | skip
          by_cases hneg : turnI ax ay bx by' cx cy * turnI ax ay bx by' dx dy < 0
          · have HN := Lib.hid hneg
            (refine wp_region_quietG (by kernel_rfl) (by kernel_rfl) (fun hG => ?_))
            repeat (go_big_quiet_step ((go_at_call 83; exact quietG (iTurn_any _ _ _ _ _ _ _ (by assumption) (by assumption) (by assumption)))))
            (refine wpQuiet_nil ?_); (clear hG); (rintro w6 ⟨⟨_, hb6⟩, rfl⟩); (try dsimp only); (first | (with_reducible have hc6 := bdC hb6) | have hc6 := bcC hb6); (first | (with_reducible have hf6 := bdF hb6) | have hf6 := bcF hb6); have hz6 := hb6.size; (try simp at hz6); (try have hp6_0 := p0_ w w6); (try have hp6_1 := p1_ w w6); (try have hp6_2 := p2_ w w6); (try have hp6_3 := p3_ w w6)
            go_wp2
            go_ret
            refine ⟨ret_bool ?_, by exact bel_⟩
            rw [HR.out]
            have hn2 := HN.out
            clear HR HZ HN hneg
            first | (simp_all; done) | (simp_all; intro hh; omega)
          · have HN := Lib.hid hneg
            (refine wp_region_quietG (by kernel_rfl) (by kernel_rfl) (fun hG => ?_))
            repeat (go_big_quiet_step ((go_at_call 83; exact quietG (iTurn_any _ _ _ _ _ _ _ (by assumption) (by assumption) (by assumption)))))
            (refine wpQuiet_nil ?_); (clear hG); (rintro w6 ⟨⟨_, hb6⟩, rfl⟩); (try dsimp only); (first | (with_reducible have hc6 := bdC hb6) | have hc6 := bcC hb6); (first | (with_reducible have hf6 := bdF hb6) | have hf6 := bcF hb6); have hz6 := hb6.size; (try simp at hz6); (try have hp6_0 := p0_ w w6); (try have hp6_1 := p1_ w w6); (try have hp6_2 := p2_ w w6); (try have hp6_3 := p3_ w w6)
            go_wp2
            go_ret
            refine ⟨ret_bool ?_, by exact bel_⟩
            rw [HR.out]
            have hn2 := HN.out
            clear HR HZ HN hneg
            first | (simp_all; done) | (simp_all; intro hh; omega)
        · go_wp2
          go_ret
          exact ⟨ret_bool (by rw [HR.out]; simp), by exact bel_⟩
end Go.Proofs.YtbennlajjfkdpaaGreatDoor
