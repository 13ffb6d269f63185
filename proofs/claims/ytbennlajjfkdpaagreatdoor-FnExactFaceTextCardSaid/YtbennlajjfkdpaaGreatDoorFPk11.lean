/- part 11 -/
import Derived.Test.YtbennlajjfkdpaaGreatDoorFPk6
import Derived.Test.YtbennlajjfkdpaaGreatDoorFPk8
import Derived.Deep.RegionHeld3
import Derived.Deep.DeepCutAuto
set_option linter.unusedSimpArgs false
set_option linter.unusedVariables false
namespace Go.Proofs.YtbennlajjfkdpaaGreatDoor
open Go.RowKit
attribute [local go_sem ↓] run_eqNode run_neNode run_mn2 run_mx2
theorem RP_litD {w : World} {l : List (Int × Int)} {cs : Array Value} {t : TypeId} {g n c : Nat} (hg : g = w.heap.size) (hcs : cs.toList = l.flatMap prc) (hn : n = l.length) (hc : c = l.length) (hm : l.length ≤ maxLen) :
    RP (w.alloc (.cells cs t)).drew (.slice (some ⟨g, 0, none⟩) n c) l :=
  RP.below (RP_lit hg hcs hn hc hm) ((Below.refl _ _).drew)
theorem leadB_range {ns : List Pr} {a b : Int} (h : ¬ (0 ≤ a ∧ a < b ∧ b < ns.length)) : leadB ns (a, b) = false := by
  cases hl : leadB ns (a, b)
  · rfl
  · obtain ⟨h1, h2, h3, _⟩ := leadB_iff.1 hl
    exact absurd ⟨h1, h2, h3⟩ h
theorem leadB_in {ns : List Pr} {p q : Nat} (h1 : p < q) (h2 : q < ns.length) : leadB ns (p, q) = (nodeB (ndI ns p).1 (ndI ns p).2 && nodeB (ndI ns q).1 (ndI ns q).2 && !(prB (ndI ns p).1 (ndI ns p).2 (ndI ns q).1 (ndI ns q).2)) := by
  unfold leadB
  have e1 : decide ((0 : Int) ≤ (p : Int)) = true := decide_eq_true (by omega)
  have e2 : decide ((p : Int) < (q : Int)) = true := decide_eq_true (by omega)
  have e3 : decide ((q : Int) < (ns.length : Int)) = true := decide_eq_true (by omega)
  rw [e1, e2, e3]
  simp [nodeP, sameP]
theorem nodes2_any (v : Value) (ax ay bx by' : Int) (w : World) (h : RP w v [(ax, ay), (bx, by')]) :
    Calls Tryz.prog 60 #[v] w fun e w' => e = .returned (.bool (nodeB ax ay && nodeB bx by')) ∧ Below w.heap.size w w' :=
  (nodesOk_any v _ w h).mono fun e w' ⟨he, hw⟩ => ⟨he.trans (ret_bool (by simp [nodesB])), hw⟩
theorem sNodeOk_at (x y : Int) (b : Bool) (w : World) (h : nodeB x y = b) :
    Calls Tryz.prog 77 #[.agg #[.int .i64 x, .int .i64 y]] w fun e w' => e = .returned (.bool b) ∧ Below w.heap.size w w' := by
  subst h; exact sNodeOk_any x y w
set_option maxHeartbeats 4000000 in
set_option maxRecDepth 100000 in
theorem sLeadIn_true_true (w : World) (gb off len c p q : Nat) (px py qx qy : Int) (hx : nodeB px py = true) (hy : nodeB qx qy = true) (g1 : p < q) (g2 : q < len) (hm : len ≤ 2 ^ 63 - 1) (hgb : gb < w.heap.size)
    (k0 : w.cell? ⟨gb, off + p * 2, none⟩ = some (.int .i64 px)) (k1 : w.cell? ⟨gb, off + p * 2 + 1, none⟩ = some (.int .i64 py))
    (j0 : w.cell? ⟨gb, off + q * 2, none⟩ = some (.int .i64 qx)) (j1 : w.cell? ⟨gb, off + q * 2 + 1, none⟩ = some (.int .i64 qy)) :
    Calls Tryz.prog 78 #[.slice (some ⟨gb, off, none⟩) len c, .agg #[.int .i64 p, .int .i64 q]] w fun e w' => e = .returned (.bool (true && true && !(prB px py qx qy))) ∧ Below w.heap.size w w' := by
  have g3 : p < len := by omega
  have i1 : inB (p : Int) 0 ((len : Int) - 1) = true := inB_true.2 (by omega)
  have i2 : inB (q : Int) 0 ((len : Int) - 1) = true := inB_true.2 (by omega)
  have hne : ¬ gb = w.heap.size := by omega
  have n1 : gb < w.heap.size + 1 := by omega
  go_enter Tryz.func78, Tryz.ntmps78
  go_wp2_with (go_at_call 35; refine (l01In_any _ _ _ _).mono ?_; rintro e w' ⟨rfl, rfl⟩; first | rw [i1] | rw [i2])
  (refine wp_region_quietG (by kernel_rfl) (by kernel_rfl) (fun hG => ?_))
  repeat (go_big_quiet_step (first | (go_at_call 77; exact quietG (sNodeOk_at _ _ _ _ hx)) | (go_at_call 77; exact quietG (sNodeOk_at _ _ _ _ hy))))
  (refine wpQuiet_nil ?_); (clear hG); (rintro w1 ⟨⟨_, hb1⟩, rfl⟩); (try dsimp only); (first | (with_reducible have hc1 := bdC hb1) | have hc1 := bcC hb1); (first | (with_reducible have hf1 := bdF hb1) | have hf1 := bcF hb1); have hz1 := hb1.size; (try simp at hz1); (try have hp1_0 := p0_ w w1); (try have hp1_1 := p1_ w w1); (try have hp1_2 := p2_ w w1); (try have hp1_3 := p3_ w w1)
  go_wp2
  go_ret
  exact ⟨ret_bool (by simp), by exact bel_⟩
set_option maxHeartbeats 4000000 in
set_option maxRecDepth 100000 in
theorem sLeadIn_true_false (w : World) (gb off len c p q : Nat) (px py qx qy : Int) (hx : nodeB px py = true) (hy : nodeB qx qy = false) (g1 : p < q) (g2 : q < len) (hm : len ≤ 2 ^ 63 - 1) (hgb : gb < w.heap.size)
    (k0 : w.cell? ⟨gb, off + p * 2, none⟩ = some (.int .i64 px)) (k1 : w.cell? ⟨gb, off + p * 2 + 1, none⟩ = some (.int .i64 py))
    (j0 : w.cell? ⟨gb, off + q * 2, none⟩ = some (.int .i64 qx)) (j1 : w.cell? ⟨gb, off + q * 2 + 1, none⟩ = some (.int .i64 qy)) :
    Calls Tryz.prog 78 #[.slice (some ⟨gb, off, none⟩) len c, .agg #[.int .i64 p, .int .i64 q]] w fun e w' => e = .returned (.bool (true && false && !(prB px py qx qy))) ∧ Below w.heap.size w w' := by
  have g3 : p < len := by omega
  have i1 : inB (p : Int) 0 ((len : Int) - 1) = true := inB_true.2 (by omega)
  have i2 : inB (q : Int) 0 ((len : Int) - 1) = true := inB_true.2 (by omega)
  have hne : ¬ gb = w.heap.size := by omega
  have n1 : gb < w.heap.size + 1 := by omega
  go_enter Tryz.func78, Tryz.ntmps78
  go_wp2_with (go_at_call 35; refine (l01In_any _ _ _ _).mono ?_; rintro e w' ⟨rfl, rfl⟩; first | rw [i1] | rw [i2])
  (refine wp_region_quietG (by kernel_rfl) (by kernel_rfl) (fun hG => ?_))
  repeat (go_big_quiet_step (first | (go_at_call 77; exact quietG (sNodeOk_at _ _ _ _ hx)) | (go_at_call 77; exact quietG (sNodeOk_at _ _ _ _ hy))))
  (refine wpQuiet_nil ?_); (clear hG); (rintro w1 ⟨⟨_, hb1⟩, rfl⟩); (try dsimp only); (first | (with_reducible have hc1 := bdC hb1) | have hc1 := bcC hb1); (first | (with_reducible have hf1 := bdF hb1) | have hf1 := bcF hb1); have hz1 := hb1.size; (try simp at hz1); (try have hp1_0 := p0_ w w1); (try have hp1_1 := p1_ w w1); (try have hp1_2 := p2_ w w1); (try have hp1_3 := p3_ w w1)
  go_wp2
  go_ret
  exact ⟨ret_bool (by simp), by exact bel_⟩
set_option maxHeartbeats 4000000 in
set_option maxRecDepth 100000 in
theorem sLeadIn_false_true (w : World) (gb off len c p q : Nat) (px py qx qy : Int) (hx : nodeB px py = false) (hy : nodeB qx qy = true) (g1 : p < q) (g2 : q < len) (hm : len ≤ 2 ^ 63 - 1) (hgb : gb < w.heap.size)
    (k0 : w.cell? ⟨gb, off + p * 2, none⟩ = some (.int .i64 px)) (k1 : w.cell? ⟨gb, off + p * 2 + 1, none⟩ = some (.int .i64 py))
    (j0 : w.cell? ⟨gb, off + q * 2, none⟩ = some (.int .i64 qx)) (j1 : w.cell? ⟨gb, off + q * 2 + 1, none⟩ = some (.int .i64 qy)) :
    Calls Tryz.prog 78 #[.slice (some ⟨gb, off, none⟩) len c, .agg #[.int .i64 p, .int .i64 q]] w fun e w' => e = .returned (.bool (false && true && !(prB px py qx qy))) ∧ Below w.heap.size w w' := by
  have g3 : p < len := by omega
  have i1 : inB (p : Int) 0 ((len : Int) - 1) = true := inB_true.2 (by omega)
  have i2 : inB (q : Int) 0 ((len : Int) - 1) = true := inB_true.2 (by omega)
  have hne : ¬ gb = w.heap.size := by omega
  have n1 : gb < w.heap.size + 1 := by omega
  go_enter Tryz.func78, Tryz.ntmps78
  go_wp2_with (go_at_call 35; refine (l01In_any _ _ _ _).mono ?_; rintro e w' ⟨rfl, rfl⟩; first | rw [i1] | rw [i2])
  (refine wp_region_quietG (by kernel_rfl) (by kernel_rfl) (fun hG => ?_))
  repeat (go_big_quiet_step (first | (go_at_call 77; exact quietG (sNodeOk_at _ _ _ _ hx)) | (go_at_call 77; exact quietG (sNodeOk_at _ _ _ _ hy))))
  (refine wpQuiet_nil ?_); (clear hG); (rintro w1 ⟨⟨_, hb1⟩, rfl⟩); (try dsimp only); (first | (with_reducible have hc1 := bdC hb1) | have hc1 := bcC hb1); (first | (with_reducible have hf1 := bdF hb1) | have hf1 := bcF hb1); have hz1 := hb1.size; (try simp at hz1); (try have hp1_0 := p0_ w w1); (try have hp1_1 := p1_ w w1); (try have hp1_2 := p2_ w w1); (try have hp1_3 := p3_ w w1)
  go_wp2
  go_ret
  exact ⟨ret_bool (by simp), by exact bel_⟩
set_option maxHeartbeats 4000000 in
set_option maxRecDepth 100000 in
theorem sLeadIn_false_false (w : World) (gb off len c p q : Nat) (px py qx qy : Int) (hx : nodeB px py = false) (hy : nodeB qx qy = false) (g1 : p < q) (g2 : q < len) (hm : len ≤ 2 ^ 63 - 1) (hgb : gb < w.heap.size)
    (k0 : w.cell? ⟨gb, off + p * 2, none⟩ = some (.int .i64 px)) (k1 : w.cell? ⟨gb, off + p * 2 + 1, none⟩ = some (.int .i64 py))
    (j0 : w.cell? ⟨gb, off + q * 2, none⟩ = some (.int .i64 qx)) (j1 : w.cell? ⟨gb, off + q * 2 + 1, none⟩ = some (.int .i64 qy)) :
    Calls Tryz.prog 78 #[.slice (some ⟨gb, off, none⟩) len c, .agg #[.int .i64 p, .int .i64 q]] w fun e w' => e = .returned (.bool (false && false && !(prB px py qx qy))) ∧ Below w.heap.size w w' := by
  have g3 : p < len := by omega
  have i1 : inB (p : Int) 0 ((len : Int) - 1) = true := inB_true.2 (by omega)
  have i2 : inB (q : Int) 0 ((len : Int) - 1) = true := inB_true.2 (by omega)
  have hne : ¬ gb = w.heap.size := by omega
  have n1 : gb < w.heap.size + 1 := by omega
  go_enter Tryz.func78, Tryz.ntmps78
  go_wp2_with (go_at_call 35; refine (l01In_any _ _ _ _).mono ?_; rintro e w' ⟨rfl, rfl⟩; first | rw [i1] | rw [i2])
  (refine wp_region_quietG (by kernel_rfl) (by kernel_rfl) (fun hG => ?_))
  repeat (go_big_quiet_step (first | (go_at_call 77; exact quietG (sNodeOk_at _ _ _ _ hx)) | (go_at_call 77; exact quietG (sNodeOk_at _ _ _ _ hy))))
  (refine wpQuiet_nil ?_); (clear hG); (rintro w1 ⟨⟨_, hb1⟩, rfl⟩); (try dsimp only); (first | (with_reducible have hc1 := bdC hb1) | have hc1 := bcC hb1); (first | (with_reducible have hf1 := bdF hb1) | have hf1 := bcF hb1); have hz1 := hb1.size; (try simp at hz1); (try have hp1_0 := p0_ w w1); (try have hp1_1 := p1_ w w1); (try have hp1_2 := p2_ w w1); (try have hp1_3 := p3_ w w1)
  go_wp2
  go_ret
  exact ⟨ret_bool (by simp), by exact bel_⟩
set_option maxHeartbeats 4000000 in
set_option maxRecDepth 100000 in
theorem sLeadOk_any (v : Value) (ns : List Pr) (a b : Int) (w : World) (h : RP w v ns) :
    Calls Tryz.prog 78 #[v, .agg #[.int .i64 a, .int .i64 b]] w fun e w' => e = .returned (.bool (leadB ns (a, b))) ∧ Below w.heap.size w w' := by
  obtain ⟨A, c, rfl, hc, hm, hcell⟩ := h.formI
  unfold maxLen at hm
  clear h
  by_cases hv : 0 ≤ a ∧ a < b ∧ b < ns.length
  · obtain ⟨h1, h2, h3⟩ := hv
    obtain ⟨p, rfl⟩ := Int.eq_ofNat_of_zero_le h1
    obtain ⟨q, rfl⟩ := Int.eq_ofNat_of_zero_le (show 0 ≤ b by omega)
    have g1 : p < q := by omega
    have g2 : q < ns.length := by omega
    have g3 : p < ns.length := by omega
    obtain ⟨gb, off, rfl, hgb, hcl⟩ := hcell (by omega)
    obtain ⟨k0, k1⟩ := hcl p g3
    obtain ⟨j0, j1⟩ := hcl q g2
    rw [leadB_in g1 g2]
    cases hx : nodeB (ndI ns p).1 (ndI ns p).2 <;> cases hy : nodeB (ndI ns q).1 (ndI ns q).2
    · exact sLeadIn_false_false w gb off _ c p q _ _ _ _ hx hy g1 g2 hm hgb k0 k1 j0 j1
    · exact sLeadIn_false_true w gb off _ c p q _ _ _ _ hx hy g1 g2 hm hgb k0 k1 j0 j1
    · exact sLeadIn_true_false w gb off _ c p q _ _ _ _ hx hy g1 g2 hm hgb k0 k1 j0 j1
    · exact sLeadIn_true_true w gb off _ c p q _ _ _ _ hx hy g1 g2 hm hgb k0 k1 j0 j1
  · have HR := Lib.hid (leadB_range hv)
    have HV := Lib.hid hv
    clear hcell hv
    go_enter Tryz.func78, Tryz.ntmps78
    go_wp2_with (go_at_call 35; refine (l01In_any _ _ _ _).mono ?_; rintro e w' ⟨rfl, rfl⟩)
    all_goals first | (go_ret; exact ⟨ret_bool HR.out.symm, by exact bel_⟩) | (exfalso; refine HV.out ?_; simp_all [inB]; omega)
set_option maxHeartbeats 4000000 in
set_option maxRecDepth 100000 in
theorem iLeadIn (w : World) (gb off len c p q : Nat) (px py qx qy : Int) (hx : (nodeB px py && nodeB qx qy) = true) (g1 : p < q) (g2 : q < len) (hm : len ≤ 2 ^ 63 - 1) (hgb : gb < w.heap.size)
    (k0 : w.cell? ⟨gb, off + p * 2, none⟩ = some (.int .i64 px)) (k1 : w.cell? ⟨gb, off + p * 2 + 1, none⟩ = some (.int .i64 py))
    (j0 : w.cell? ⟨gb, off + q * 2, none⟩ = some (.int .i64 qx)) (j1 : w.cell? ⟨gb, off + q * 2 + 1, none⟩ = some (.int .i64 qy)) :
    Calls Tryz.prog 62 #[.slice (some ⟨gb, off, none⟩) len c, .agg #[.int .i64 p, .int .i64 q]] w fun e w' => e = .returned (.bool (!(prB px py qx qy))) ∧ Below w.heap.size w w' := by
  have g3 : p < len := by omega
  have g4 : (0 : Int) ≤ (p : Int) := by omega
  have g5 : (p : Int) < (q : Int) := by omega
  have g6 : (q : Int) < (len : Int) := by omega
  have hne : ¬ gb = w.heap.size := by omega
  have n1 : gb < w.heap.size + 1 := by omega
  have n2 : gb < w.heap.size + 1 + 1 := by omega
  have n3 : w.heap.size < w.heap.size + 1 + 1 := by omega
  go_enter Tryz.func62, Tryz.ntmps62
  go_wp2_with fail
  (go_region_held3 (fun w' => w'.cell? ⟨w.heap.size, 0, none⟩ = some (.int .i64 p) ∧ w'.cell? ⟨w.heap.size, 1, none⟩ = some (.int .i64 q) ∧ w'.cell? ⟨gb, off + p * 2, none⟩ = some (.int .i64 px) ∧ w'.cell? ⟨gb, off + p * 2 + 1, none⟩ = some (.int .i64 py) ∧ w'.cell? ⟨gb, off + q * 2, none⟩ = some (.int .i64 qx) ∧ w'.cell? ⟨gb, off + q * 2 + 1, none⟩ = some (.int .i64 qy))
      (go_keep)
      (first | (go_at_call 60; refine (nodes2_any _ px py qx qy _ (RP_litD (by simp) rfl rfl rfl (by simp [maxLen]))).mono ?_; rw [hx]; rintro e w1 ⟨rfl, hb1⟩; (first | (with_reducible have hc1 := bdC hb1) | have hc1 := bcC hb1); (first | (with_reducible have hf1 := bdF hb1) | have hf1 := bcF hb1); have hz1 := hb1.size; (try simp at hz1); (try have hp1_0 := p0_ w w1); (try have hp1_1 := p1_ w w1); (try have hp1_2 := p2_ w w1); (try have hp1_3 := p3_ w w1); (have hbb1 : gb < w1.heap.size := by omega))))
  go_wp2
  go_ret
  exact ⟨ret_bool (by simp), by exact bel_⟩
set_option maxHeartbeats 4000000 in
set_option maxRecDepth 100000 in
theorem iLeadOk_any (v : Value) (ns : List Pr) (a b : Int) (w : World) (h : RP w v ns) (hok : nodesB ns = true) :
    Calls Tryz.prog 62 #[v, .agg #[.int .i64 a, .int .i64 b]] w fun e w' => e = .returned (.bool (leadB ns (a, b))) ∧ Below w.heap.size w w' := by
  obtain ⟨A, c, rfl, hc, hm, hcell⟩ := h.formI
  unfold maxLen at hm
  clear h
  by_cases hv : 0 ≤ a ∧ a < b ∧ b < ns.length
  · obtain ⟨h1, h2, h3⟩ := hv
    obtain ⟨p, rfl⟩ := Int.eq_ofNat_of_zero_le h1
    obtain ⟨q, rfl⟩ := Int.eq_ofNat_of_zero_le (show 0 ≤ b by omega)
    have g1 : p < q := by omega
    have g2 : q < ns.length := by omega
    have g3 : p < ns.length := by omega
    obtain ⟨gb, off, rfl, hgb, hcl⟩ := hcell (by omega)
    obtain ⟨k0, k1⟩ := hcl p g3
    obtain ⟨j0, j1⟩ := hcl q g2
    have hp := nodesB_at hok p g3
    have hq := nodesB_at hok q g2
    rw [leadB_in g1 g2]
    unfold nodeP at hp hq
    rw [hp, hq]
    exact iLeadIn w gb off _ c p q _ _ _ _ (by rw [hp, hq]; rfl) g1 g2 hm hgb k0 k1 j0 j1
  · have HR := Lib.hid (leadB_range hv)
    have HV := Lib.hid hv
    clear hcell
    go_enter Tryz.func62, Tryz.ntmps62
    go_wp2_with fail
    by_cases c1 : 0 ≤ a
    · by_cases c2 : a < b
      · have c3 : ¬ b < ns.length := fun c3 => hv ⟨c1, c2, c3⟩
        clear hv
        go_quiet (fail)
        go_wp2
        go_ret
        exact ⟨ret_bool HR.out.symm, by exact bel_⟩
      · clear hv
        go_quiet (fail)
        go_wp2
        go_ret
        exact ⟨ret_bool HR.out.symm, by exact bel_⟩
    · clear hv
      go_quiet (fail)
      go_wp2
      go_ret
      exact ⟨ret_bool HR.out.symm, by exact bel_⟩
end Go.Proofs.YtbennlajjfkdpaaGreatDoor
