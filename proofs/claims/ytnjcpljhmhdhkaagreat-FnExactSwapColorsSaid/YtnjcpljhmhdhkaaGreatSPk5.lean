/- part 5 -/
import Derived.Test.YtnjcpljhmhdhkaaGreatSPk4
import Derived.BigQuiet
import Derived.Deep.RegionHeld3
import Derived.Deep.DeepCutAuto
set_option linter.unusedSimpArgs false
set_option linter.unusedVariables false
namespace Go.Proofs.YtnjcpljhmhdhkaaGreat
open Go.RowKit
attribute [local go_sem ↓] run_eqNode run_neNode run_mn2 run_mx2
theorem betw_inv {ax ay bx by' cx cy : Int} (h : ¬ (nodeB ax ay = true ∧ nodeB bx by' = true ∧ nodeB cx cy = true)) : betwB ax ay bx by' cx cy = false := by
  unfold betwB
  cases h1 : nodeB ax ay <;> cases h2 : nodeB bx by' <;> cases h3 : nodeB cx cy <;> simp_all
set_option maxHeartbeats 2000000 in
set_option maxRecDepth 100000 in
theorem sBetween_any (ax ay bx by' cx cy : Int) (w : World) :
    Calls Tryz.prog 240 #[.agg #[.int .i64 ax, .int .i64 ay], .agg #[.int .i64 bx, .int .i64 by'], .agg #[.int .i64 cx, .int .i64 cy]] w
      fun e w' => e = .returned (.bool (betwB ax ay bx by' cx cy)) ∧ Below w.heap.size w w' := by
  cases h1 : nodeB ax ay
  · have HR := Lib.hid (betw_inv (ax := ax) (ay := ay) (bx := bx) (by' := by') (cx := cx) (cy := cy) (by rw [h1]; simp))
    go_enter Tryz.func240, Tryz.ntmps240
    go_wp2_with fail
    refine (sNodeOk_any _ _ _).mono ?_
    rintro e w1 ⟨rfl, hb1⟩; (first | (with_reducible have hcf1 := bcell_drew hb1) | have hcf1 := bcell hb1); obtain ⟨hc1, hf1⟩ := hcf1; have hz1 := hb1.size; (try simp at hz1); (try have hp1_0 : w.heap.size < w1.heap.size := by omega); (try have hp1_1 : w.heap.size + 1 < w1.heap.size := by omega); (try have hp1_2 : w.heap.size + 1 + 1 < w1.heap.size := by omega); (try have hp1_3 : w.heap.size + 1 + 1 + 1 < w1.heap.size := by omega)
    rw [h1]
    go_wp2
    go_ret
    exact ⟨ret_bool HR.out.symm, by exact bel_⟩
  cases h2 : nodeB bx by'
  · have HR := Lib.hid (betw_inv (ax := ax) (ay := ay) (bx := bx) (by' := by') (cx := cx) (cy := cy) (by rw [h2]; simp))
    go_enter Tryz.func240, Tryz.ntmps240
    go_wp2_with fail
    refine (sNodeOk_any _ _ _).mono ?_
    rintro e w1 ⟨rfl, hb1⟩; (first | (with_reducible have hcf1 := bcell_drew hb1) | have hcf1 := bcell hb1); obtain ⟨hc1, hf1⟩ := hcf1; have hz1 := hb1.size; (try simp at hz1); (try have hp1_0 : w.heap.size < w1.heap.size := by omega); (try have hp1_1 : w.heap.size + 1 < w1.heap.size := by omega); (try have hp1_2 : w.heap.size + 1 + 1 < w1.heap.size := by omega); (try have hp1_3 : w.heap.size + 1 + 1 + 1 < w1.heap.size := by omega)
    rw [h1]
    go_wp2_with fail
    refine (sNodeOk_any _ _ _).mono ?_
    rintro e w2 ⟨rfl, hb2⟩; (first | (with_reducible have hcf2 := bcell_drew hb2) | have hcf2 := bcell hb2); obtain ⟨hc2, hf2⟩ := hcf2; have hz2 := hb2.size; (try simp at hz2); (try have hp2_0 : w.heap.size < w2.heap.size := by omega); (try have hp2_1 : w.heap.size + 1 < w2.heap.size := by omega); (try have hp2_2 : w.heap.size + 1 + 1 < w2.heap.size := by omega); (try have hp2_3 : w.heap.size + 1 + 1 + 1 < w2.heap.size := by omega)
    rw [h2]
    go_wp2
    go_ret
    exact ⟨ret_bool HR.out.symm, by exact bel_⟩
  cases h3 : nodeB cx cy
  · have HR := Lib.hid (betw_inv (ax := ax) (ay := ay) (bx := bx) (by' := by') (cx := cx) (cy := cy) (by rw [h3]; simp))
    go_enter Tryz.func240, Tryz.ntmps240
    go_wp2_with fail
    refine (sNodeOk_any _ _ _).mono ?_
    rintro e w1 ⟨rfl, hb1⟩; (first | (with_reducible have hcf1 := bcell_drew hb1) | have hcf1 := bcell hb1); obtain ⟨hc1, hf1⟩ := hcf1; have hz1 := hb1.size; (try simp at hz1); (try have hp1_0 : w.heap.size < w1.heap.size := by omega); (try have hp1_1 : w.heap.size + 1 < w1.heap.size := by omega); (try have hp1_2 : w.heap.size + 1 + 1 < w1.heap.size := by omega); (try have hp1_3 : w.heap.size + 1 + 1 + 1 < w1.heap.size := by omega)
    rw [h1]
    go_wp2_with fail
    refine (sNodeOk_any _ _ _).mono ?_
    rintro e w2 ⟨rfl, hb2⟩; (first | (with_reducible have hcf2 := bcell_drew hb2) | have hcf2 := bcell hb2); obtain ⟨hc2, hf2⟩ := hcf2; have hz2 := hb2.size; (try simp at hz2); (try have hp2_0 : w.heap.size < w2.heap.size := by omega); (try have hp2_1 : w.heap.size + 1 < w2.heap.size := by omega); (try have hp2_2 : w.heap.size + 1 + 1 < w2.heap.size := by omega); (try have hp2_3 : w.heap.size + 1 + 1 + 1 < w2.heap.size := by omega)
    rw [h2]
    go_wp2_with fail
    refine (sNodeOk_any _ _ _).mono ?_
    rintro e w3 ⟨rfl, hb3⟩; (first | (with_reducible have hcf3 := bcell_drew hb3) | have hcf3 := bcell hb3); obtain ⟨hc3, hf3⟩ := hcf3; have hz3 := hb3.size; (try simp at hz3); (try have hp3_0 : w.heap.size < w3.heap.size := by omega); (try have hp3_1 : w.heap.size + 1 < w3.heap.size := by omega); (try have hp3_2 : w.heap.size + 1 + 1 < w3.heap.size := by omega); (try have hp3_3 : w.heap.size + 1 + 1 + 1 < w3.heap.size := by omega)
    rw [h3]
    go_wp2
    go_ret
    exact ⟨ret_bool HR.out.symm, by exact bel_⟩
  · have HR : Hid (betwB ax ay bx by' cx cy = (!(prB ax ay bx by') && !(prB bx by' cx cy) && !(prB ax ay cx cy) && (turnI ax ay bx by' cx cy == 0) && inB cx (mn2 ax bx) (mx2 ax bx) && inB cy (mn2 ay by') (mx2 ay by'))) := Lib.hid (by unfold betwB; rw [h1, h2, h3]; rfl)
    go_enter Tryz.func240, Tryz.ntmps240
    go_wp2_with fail
    refine (sNodeOk_any _ _ _).mono ?_
    rintro e w1 ⟨rfl, hb1⟩; (first | (with_reducible have hcf1 := bcell_drew hb1) | have hcf1 := bcell hb1); obtain ⟨hc1, hf1⟩ := hcf1; have hz1 := hb1.size; (try simp at hz1); (try have hp1_0 : w.heap.size < w1.heap.size := by omega); (try have hp1_1 : w.heap.size + 1 < w1.heap.size := by omega); (try have hp1_2 : w.heap.size + 1 + 1 < w1.heap.size := by omega); (try have hp1_3 : w.heap.size + 1 + 1 + 1 < w1.heap.size := by omega)
    rw [h1]
    go_wp2_with fail
    refine (sNodeOk_any _ _ _).mono ?_
    rintro e w2 ⟨rfl, hb2⟩; (first | (with_reducible have hcf2 := bcell_drew hb2) | have hcf2 := bcell hb2); obtain ⟨hc2, hf2⟩ := hcf2; have hz2 := hb2.size; (try simp at hz2); (try have hp2_0 : w.heap.size < w2.heap.size := by omega); (try have hp2_1 : w.heap.size + 1 < w2.heap.size := by omega); (try have hp2_2 : w.heap.size + 1 + 1 < w2.heap.size := by omega); (try have hp2_3 : w.heap.size + 1 + 1 + 1 < w2.heap.size := by omega)
    rw [h2]
    go_wp2_with fail
    refine (sNodeOk_any _ _ _).mono ?_
    rintro e w3 ⟨rfl, hb3⟩; (first | (with_reducible have hcf3 := bcell_drew hb3) | have hcf3 := bcell hb3); obtain ⟨hc3, hf3⟩ := hcf3; have hz3 := hb3.size; (try simp at hz3); (try have hp3_0 : w.heap.size < w3.heap.size := by omega); (try have hp3_1 : w.heap.size + 1 < w3.heap.size := by omega); (try have hp3_2 : w.heap.size + 1 + 1 < w3.heap.size := by omega); (try have hp3_3 : w.heap.size + 1 + 1 + 1 < w3.heap.size := by omega)
    rw [h3]
    go_wp2_with (first | (go_at_call 243; refine (sTurn_any _ _ _ _ _ _ _ h1 h2 h3).mono ?_; rintro e w4 ⟨rfl, hb4⟩; (first | (with_reducible have hcf4 := bcell_drew hb4) | have hcf4 := bcell hb4); obtain ⟨hc4, hf4⟩ := hcf4; have hz4 := hb4.size; (try simp at hz4); (try have hp4_0 : w.heap.size < w4.heap.size := by omega); (try have hp4_1 : w.heap.size + 1 < w4.heap.size := by omega); (try have hp4_2 : w.heap.size + 1 + 1 < w4.heap.size := by omega); (try have hp4_3 : w.heap.size + 1 + 1 + 1 < w4.heap.size := by omega)) | (go_at_call 138; refine (l01In_any _ _ _ _).mono ?_; rintro e w' ⟨rfl, rfl⟩))
    all_goals go_ret
    all_goals refine ⟨ret_bool ?_, by exact bel_⟩
    all_goals rw [HR.out]
    all_goals simp_all
set_option maxHeartbeats 2000000 in
set_option maxRecDepth 100000 in
theorem iBetween_any (ax ay bx by' cx cy : Int) (w : World) :
    Calls Tryz.prog 213 #[.agg #[.int .i64 ax, .int .i64 ay], .agg #[.int .i64 bx, .int .i64 by'], .agg #[.int .i64 cx, .int .i64 cy]] w
      fun e w' => e = .returned (.bool (betwB ax ay bx by' cx cy)) ∧ Below w.heap.size w w' := by
  by_cases hv : nodeB ax ay = true ∧ nodeB bx by' = true ∧ nodeB cx cy = true
  · obtain ⟨h1, h2, h3⟩ := hv
    have HN : Hid ((nodeB ax ay && nodeB bx by' && nodeB cx cy) = true) := Lib.hid (by rw [h1, h2, h3]; rfl)
    have HR : Hid (betwB ax ay bx by' cx cy = (!(prB ax ay bx by') && !(prB bx by' cx cy) && !(prB ax ay cx cy) && (turnI ax ay bx by' cx cy == 0) && inB cx (mn2 ax bx) (mx2 ax bx) && inB cy (mn2 ay by') (mx2 ay by'))) := Lib.hid (by unfold betwB; rw [h1, h2, h3]; rfl)
    go_enter Tryz.func213, Tryz.ntmps213
    go_wp2_with fail
    refine (nodes3_any _ ax ay bx by' cx cy _ (RP_lit (by simp) rfl rfl rfl (by simp [maxLen]))).mono ?_
    rintro e w1 ⟨rfl, hb1⟩; (first | (with_reducible have hcf1 := bcell_drew hb1) | have hcf1 := bcell hb1); obtain ⟨hc1, hf1⟩ := hcf1; have hz1 := hb1.size; (try simp at hz1); (try have hp1_0 : w.heap.size < w1.heap.size := by omega); (try have hp1_1 : w.heap.size + 1 < w1.heap.size := by omega); (try have hp1_2 : w.heap.size + 1 + 1 < w1.heap.size := by omega); (try have hp1_3 : w.heap.size + 1 + 1 + 1 < w1.heap.size := by omega)
    rw [HN.out]
    go_wp2_with (first | (go_at_call 214; refine (iTurn_any _ _ _ _ _ _ _ h1 h2 h3).mono ?_; rintro e w4 ⟨rfl, hb4⟩; (first | (with_reducible have hcf4 := bcell_drew hb4) | have hcf4 := bcell hb4); obtain ⟨hc4, hf4⟩ := hcf4; have hz4 := hb4.size; (try simp at hz4); (try have hp4_0 : w.heap.size < w4.heap.size := by omega); (try have hp4_1 : w.heap.size + 1 < w4.heap.size := by omega); (try have hp4_2 : w.heap.size + 1 + 1 < w4.heap.size := by omega); (try have hp4_3 : w.heap.size + 1 + 1 + 1 < w4.heap.size := by omega)) | (go_at_call 78; refine (within_any _ _ _ _).mono ?_; rintro e w' ⟨rfl, rfl⟩))
    all_goals go_ret
    all_goals refine ⟨ret_bool ?_, by exact bel_⟩
    all_goals rw [HR.out]
    all_goals simp_all
  · have HN : Hid ((nodeB ax ay && nodeB bx by' && nodeB cx cy) = false) := Lib.hid (by
      cases h1 : nodeB ax ay <;> cases h2 : nodeB bx by' <;> cases h3 : nodeB cx cy <;> simp_all)
    have HR := Lib.hid (betw_inv hv)
    clear hv
    go_enter Tryz.func213, Tryz.ntmps213
    go_wp2_with fail
    refine (nodes3_any _ ax ay bx by' cx cy _ (RP_lit (by simp) rfl rfl rfl (by simp [maxLen]))).mono ?_
    rintro e w1 ⟨rfl, hb1⟩; (first | (with_reducible have hcf1 := bcell_drew hb1) | have hcf1 := bcell hb1); obtain ⟨hc1, hf1⟩ := hcf1; have hz1 := hb1.size; (try simp at hz1); (try have hp1_0 : w.heap.size < w1.heap.size := by omega); (try have hp1_1 : w.heap.size + 1 < w1.heap.size := by omega); (try have hp1_2 : w.heap.size + 1 + 1 < w1.heap.size := by omega); (try have hp1_3 : w.heap.size + 1 + 1 + 1 < w1.heap.size := by omega)
    rw [HN.out]
    go_wp2
    go_ret
    exact ⟨ret_bool HR.out.symm, by exact bel_⟩
end Go.Proofs.YtnjcpljhmhdhkaaGreat

namespace Go.Proofs.YtnjcpljhmhdhkaaGreat
open Go.RowKit
structure Grw (w : World) where
  wt : World
  below : Below w.heap.size w wt
instance (w : World) : Nonempty (Grw w) := ⟨⟨w, Below.refl _ _⟩⟩
theorem Grw.cells {w : World} (n : Grw w) (b o : Nat) (h : b < w.heap.size) : n.wt.cell? ⟨b, o, none⟩ = w.cell? ⟨b, o, none⟩ := n.below.cell (p := ⟨b, o, none⟩) h
theorem wp_region_quietG {P : Program} {id : Nat} {Q : Exit → Act → World → Prop} {a : Act} {w : World} {l : List Oper} (hm : P.follows .mixedOrders = true) (hB : Region.lexB .any l.toArray = true)
    (h : (∀ (n : Grw w) (b o : Nat), b < w.heap.size → n.wt.cell? ⟨b, o, none⟩ = w.cell? ⟨b, o, none⟩) → wpQuiet P l.toArray (fun w' => ∃ n : Grw w, w' = n.wt) (fun a' => ∀ w', (∃ n : Grw w, w' = n.wt) → Q .normal a' w') l a) :
    (Code.region id l.toArray true).wp P Q a w :=
  wp_region_quiet (C := fun w' => ∃ n : Grw w, w' = n.wt) hm hB ⟨⟨w.drew, (Below.refl _ _).drew⟩, rfl⟩ (by simpa using h (fun n => n.cells))
theorem quietG {P : Program} {W : World} {n : Grw W} {f : Nat} {args : Array Value} {v : Value} (h : Calls P f args n.wt fun e w' => e = .returned v ∧ Below n.wt.heap.size n.wt w') :
    Calls P f args n.wt fun e w'' => e = .returned v ∧ ∃ m : Grw W, w'' = m.wt :=
  h.mono fun e w' ⟨he, hb⟩ => ⟨he, ⟨w', n.below.trans (hb.mono n.below.size)⟩, rfl⟩
theorem RS.grw {W : World} (n : Grw W) {size k : Nat} {v : Value} {xs : List Value} (h : RS W size v k xs) : RS n.wt size v k xs := RS.below h n.below
theorem quietS {P : Program} {W : World} {n : Grw W} {f : Nat} {args : Array Value} {v : Value} (h : Calls P f args n.wt fun e w' => e = .returned v ∧ n.wt = w') :
    Calls P f args n.wt fun e w'' => e = .returned v ∧ ∃ m : Grw W, w'' = m.wt :=
  h.mono fun e w' ⟨he, hb⟩ => ⟨he, n, hb.symm⟩
end Go.Proofs.YtnjcpljhmhdhkaaGreat

namespace Go.Proofs.YtnjcpljhmhdhkaaGreat
open Go.RowKit
attribute [local go_sem ↓] run_eqNode run_neNode run_mn2 run_mx2
theorem RP_litD {w : World} {l : List (Int × Int)} {cs : Array Value} {t : TypeId} {g n c : Nat} (hg : g = w.heap.size) (hcs : cs.toList = l.flatMap prc) (hn : n = l.length) (hc : c = l.length) (hm : l.length ≤ maxLen) :
    RP (w.alloc (.cells cs t)).drew (.slice (some ⟨g, 0, none⟩) n c) l :=
  RP.below (RP_lit hg hcs hn hc hm) ((Below.refl _ _).drew)
theorem leadB_range {ns : List Pr} {a b : Int} (h : ¬ (0 ≤ a ∧ a < b ∧ b < ns.length)) : leadB ns (a, b) = false := by
  cases hl : leadB ns (a, b)
  · rfl
  · obtain ⟨h1, h2, h3, _⟩ := leadB_iff.1 hl
    exact absurd ⟨h1, h2, h3⟩ h
theorem leadB_in {ns : List Pr} {p q : Nat} (h1 : p < q) (h2 : q < ns.length) : leadB ns (p, q) = (nodeB (ndI ns p).1 (ndI ns p).2 && nodeB (ndI ns q).1 (ndI ns q).2 && !(prB (ndI ns p).1 (ndI ns p).2 (ndI ns q).1 (ndI ns q).2)) := by
  unfold leadB
  have e1 : decide ((0 : Int) ≤ (p : Int)) = true := decide_eq_true (by omega)
  have e2 : decide ((p : Int) < (q : Int)) = true := decide_eq_true (by omega)
  have e3 : decide ((q : Int) < (ns.length : Int)) = true := decide_eq_true (by omega)
  rw [e1, e2, e3]
  simp [nodeP, sameP]
theorem nodes2_any (v : Value) (ax ay bx by' : Int) (w : World) (h : RP w v [(ax, ay), (bx, by')]) :
    Calls Tryz.prog 154 #[v] w fun e w' => e = .returned (.bool (nodeB ax ay && nodeB bx by')) ∧ Below w.heap.size w w' :=
  (nodesOk_any v _ w h).mono fun e w' ⟨he, hw⟩ => ⟨he.trans (ret_bool (by simp [nodesB])), hw⟩
theorem sNodeOk_at (x y : Int) (b : Bool) (w : World) (h : nodeB x y = b) :
    Calls Tryz.prog 195 #[.agg #[.int .i64 x, .int .i64 y]] w fun e w' => e = .returned (.bool b) ∧ Below w.heap.size w w' := by
  subst h; exact sNodeOk_any x y w
set_option maxHeartbeats 4000000 in
set_option maxRecDepth 100000 in
theorem sLeadIn_true_true (w : World) (gb off len c p q : Nat) (px py qx qy : Int) (hx : nodeB px py = true) (hy : nodeB qx qy = true) (g1 : p < q) (g2 : q < len) (hm : len ≤ 2 ^ 63 - 1) (hgb : gb < w.heap.size)
    (k0 : w.cell? ⟨gb, off + p * 2, none⟩ = some (.int .i64 px)) (k1 : w.cell? ⟨gb, off + p * 2 + 1, none⟩ = some (.int .i64 py))
    (j0 : w.cell? ⟨gb, off + q * 2, none⟩ = some (.int .i64 qx)) (j1 : w.cell? ⟨gb, off + q * 2 + 1, none⟩ = some (.int .i64 qy)) :
    Calls Tryz.prog 196 #[.slice (some ⟨gb, off, none⟩) len c, .agg #[.int .i64 p, .int .i64 q]] w fun e w' => e = .returned (.bool (true && true && !(prB px py qx qy))) ∧ Below w.heap.size w w' := by
  have g3 : p < len := by omega
  have i1 : inB (p : Int) 0 ((len : Int) - 1) = true := inB_true.2 (by omega)
  have i2 : inB (q : Int) 0 ((len : Int) - 1) = true := inB_true.2 (by omega)
  have hne : ¬ gb = w.heap.size := by omega
  have n1 : gb < w.heap.size + 1 := by omega
  go_enter Tryz.func196, Tryz.ntmps196
  go_wp2_with (go_at_call 138; refine (l01In_any _ _ _ _).mono ?_; rintro e w' ⟨rfl, rfl⟩; first | rw [i1] | rw [i2])
  (refine wp_region_quietG (by kernel_rfl) (by kernel_rfl) (fun hG => ?_))
  repeat (go_big_quiet_step (first | (go_at_call 195; exact quietG (sNodeOk_at _ _ _ _ hx)) | (go_at_call 195; exact quietG (sNodeOk_at _ _ _ _ hy))))
  (refine wpQuiet_nil ?_); (clear hG); (rintro w1 ⟨⟨_, hb1⟩, rfl⟩); (try dsimp only); (first | (with_reducible have hcf1 := bcell_drew hb1) | have hcf1 := bcell hb1); obtain ⟨hc1, hf1⟩ := hcf1; have hz1 := hb1.size; (try simp at hz1); (try have hp1_0 : w.heap.size < w1.heap.size := by omega); (try have hp1_1 : w.heap.size + 1 < w1.heap.size := by omega); (try have hp1_2 : w.heap.size + 1 + 1 < w1.heap.size := by omega); (try have hp1_3 : w.heap.size + 1 + 1 + 1 < w1.heap.size := by omega)
  go_wp2
  go_ret
  exact ⟨ret_bool (by simp), by exact bel_⟩
set_option maxHeartbeats 4000000 in
set_option maxRecDepth 100000 in
theorem sLeadIn_true_false (w : World) (gb off len c p q : Nat) (px py qx qy : Int) (hx : nodeB px py = true) (hy : nodeB qx qy = false) (g1 : p < q) (g2 : q < len) (hm : len ≤ 2 ^ 63 - 1) (hgb : gb < w.heap.size)
    (k0 : w.cell? ⟨gb, off + p * 2, none⟩ = some (.int .i64 px)) (k1 : w.cell? ⟨gb, off + p * 2 + 1, none⟩ = some (.int .i64 py))
    (j0 : w.cell? ⟨gb, off + q * 2, none⟩ = some (.int .i64 qx)) (j1 : w.cell? ⟨gb, off + q * 2 + 1, none⟩ = some (.int .i64 qy)) :
    Calls Tryz.prog 196 #[.slice (some ⟨gb, off, none⟩) len c, .agg #[.int .i64 p, .int .i64 q]] w fun e w' => e = .returned (.bool (true && false && !(prB px py qx qy))) ∧ Below w.heap.size w w' := by
  have g3 : p < len := by omega
  have i1 : inB (p : Int) 0 ((len : Int) - 1) = true := inB_true.2 (by omega)
  have i2 : inB (q : Int) 0 ((len : Int) - 1) = true := inB_true.2 (by omega)
  have hne : ¬ gb = w.heap.size := by omega
  have n1 : gb < w.heap.size + 1 := by omega
  go_enter Tryz.func196, Tryz.ntmps196
  go_wp2_with (go_at_call 138; refine (l01In_any _ _ _ _).mono ?_; rintro e w' ⟨rfl, rfl⟩; first | rw [i1] | rw [i2])
  (refine wp_region_quietG (by kernel_rfl) (by kernel_rfl) (fun hG => ?_))
  repeat (go_big_quiet_step (first | (go_at_call 195; exact quietG (sNodeOk_at _ _ _ _ hx)) | (go_at_call 195; exact quietG (sNodeOk_at _ _ _ _ hy))))
  (refine wpQuiet_nil ?_); (clear hG); (rintro w1 ⟨⟨_, hb1⟩, rfl⟩); (try dsimp only); (first | (with_reducible have hcf1 := bcell_drew hb1) | have hcf1 := bcell hb1); obtain ⟨hc1, hf1⟩ := hcf1; have hz1 := hb1.size; (try simp at hz1); (try have hp1_0 : w.heap.size < w1.heap.size := by omega); (try have hp1_1 : w.heap.size + 1 < w1.heap.size := by omega); (try have hp1_2 : w.heap.size + 1 + 1 < w1.heap.size := by omega); (try have hp1_3 : w.heap.size + 1 + 1 + 1 < w1.heap.size := by omega)
  go_wp2
  go_ret
  exact ⟨ret_bool (by simp), by exact bel_⟩
set_option maxHeartbeats 4000000 in
set_option maxRecDepth 100000 in
theorem sLeadIn_false_true (w : World) (gb off len c p q : Nat) (px py qx qy : Int) (hx : nodeB px py = false) (hy : nodeB qx qy = true) (g1 : p < q) (g2 : q < len) (hm : len ≤ 2 ^ 63 - 1) (hgb : gb < w.heap.size)
    (k0 : w.cell? ⟨gb, off + p * 2, none⟩ = some (.int .i64 px)) (k1 : w.cell? ⟨gb, off + p * 2 + 1, none⟩ = some (.int .i64 py))
    (j0 : w.cell? ⟨gb, off + q * 2, none⟩ = some (.int .i64 qx)) (j1 : w.cell? ⟨gb, off + q * 2 + 1, none⟩ = some (.int .i64 qy)) :
    Calls Tryz.prog 196 #[.slice (some ⟨gb, off, none⟩) len c, .agg #[.int .i64 p, .int .i64 q]] w fun e w' => e = .returned (.bool (false && true && !(prB px py qx qy))) ∧ Below w.heap.size w w' := by
  have g3 : p < len := by omega
  have i1 : inB (p : Int) 0 ((len : Int) - 1) = true := inB_true.2 (by omega)
  have i2 : inB (q : Int) 0 ((len : Int) - 1) = true := inB_true.2 (by omega)
  have hne : ¬ gb = w.heap.size := by omega
  have n1 : gb < w.heap.size + 1 := by omega
  go_enter Tryz.func196, Tryz.ntmps196
  go_wp2_with (go_at_call 138; refine (l01In_any _ _ _ _).mono ?_; rintro e w' ⟨rfl, rfl⟩; first | rw [i1] | rw [i2])
  (refine wp_region_quietG (by kernel_rfl) (by kernel_rfl) (fun hG => ?_))
  repeat (go_big_quiet_step (first | (go_at_call 195; exact quietG (sNodeOk_at _ _ _ _ hx)) | (go_at_call 195; exact quietG (sNodeOk_at _ _ _ _ hy))))
  (refine wpQuiet_nil ?_); (clear hG); (rintro w1 ⟨⟨_, hb1⟩, rfl⟩); (try dsimp only); (first | (with_reducible have hcf1 := bcell_drew hb1) | have hcf1 := bcell hb1); obtain ⟨hc1, hf1⟩ := hcf1; have hz1 := hb1.size; (try simp at hz1); (try have hp1_0 : w.heap.size < w1.heap.size := by omega); (try have hp1_1 : w.heap.size + 1 < w1.heap.size := by omega); (try have hp1_2 : w.heap.size + 1 + 1 < w1.heap.size := by omega); (try have hp1_3 : w.heap.size + 1 + 1 + 1 < w1.heap.size := by omega)
  go_wp2
  go_ret
  exact ⟨ret_bool (by simp), by exact bel_⟩
set_option maxHeartbeats 4000000 in
set_option maxRecDepth 100000 in
theorem sLeadIn_false_false (w : World) (gb off len c p q : Nat) (px py qx qy : Int) (hx : nodeB px py = false) (hy : nodeB qx qy = false) (g1 : p < q) (g2 : q < len) (hm : len ≤ 2 ^ 63 - 1) (hgb : gb < w.heap.size)
    (k0 : w.cell? ⟨gb, off + p * 2, none⟩ = some (.int .i64 px)) (k1 : w.cell? ⟨gb, off + p * 2 + 1, none⟩ = some (.int .i64 py))
    (j0 : w.cell? ⟨gb, off + q * 2, none⟩ = some (.int .i64 qx)) (j1 : w.cell? ⟨gb, off + q * 2 + 1, none⟩ = some (.int .i64 qy)) :
    Calls Tryz.prog 196 #[.slice (some ⟨gb, off, none⟩) len c, .agg #[.int .i64 p, .int .i64 q]] w fun e w' => e = .returned (.bool (false && false && !(prB px py qx qy))) ∧ Below w.heap.size w w' := by
  have g3 : p < len := by omega
  have i1 : inB (p : Int) 0 ((len : Int) - 1) = true := inB_true.2 (by omega)
  have i2 : inB (q : Int) 0 ((len : Int) - 1) = true := inB_true.2 (by omega)
  have hne : ¬ gb = w.heap.size := by omega
  have n1 : gb < w.heap.size + 1 := by omega
  go_enter Tryz.func196, Tryz.ntmps196
  go_wp2_with (go_at_call 138; refine (l01In_any _ _ _ _).mono ?_; rintro e w' ⟨rfl, rfl⟩; first | rw [i1] | rw [i2])
  (refine wp_region_quietG (by kernel_rfl) (by kernel_rfl) (fun hG => ?_))
  repeat (go_big_quiet_step (first | (go_at_call 195; exact quietG (sNodeOk_at _ _ _ _ hx)) | (go_at_call 195; exact quietG (sNodeOk_at _ _ _ _ hy))))
  (refine wpQuiet_nil ?_); (clear hG); (rintro w1 ⟨⟨_, hb1⟩, rfl⟩); (try dsimp only); (first | (with_reducible have hcf1 := bcell_drew hb1) | have hcf1 := bcell hb1); obtain ⟨hc1, hf1⟩ := hcf1; have hz1 := hb1.size; (try simp at hz1); (try have hp1_0 : w.heap.size < w1.heap.size := by omega); (try have hp1_1 : w.heap.size + 1 < w1.heap.size := by omega); (try have hp1_2 : w.heap.size + 1 + 1 < w1.heap.size := by omega); (try have hp1_3 : w.heap.size + 1 + 1 + 1 < w1.heap.size := by omega)
  go_wp2
  go_ret
  exact ⟨ret_bool (by simp), by exact bel_⟩
set_option maxHeartbeats 4000000 in
set_option maxRecDepth 100000 in
theorem sLeadOk_any (v : Value) (ns : List Pr) (a b : Int) (w : World) (h : RP w v ns) :
    Calls Tryz.prog 196 #[v, .agg #[.int .i64 a, .int .i64 b]] w fun e w' => e = .returned (.bool (leadB ns (a, b))) ∧ Below w.heap.size w w' := by
  obtain ⟨A, c, rfl, hc, hm, hcell⟩ := h.formI
  unfold maxLen at hm
  clear h
  by_cases hv : 0 ≤ a ∧ a < b ∧ b < ns.length
  · obtain ⟨h1, h2, h3⟩ := hv
    obtain ⟨p, rfl⟩ := Int.eq_ofNat_of_zero_le h1
    obtain ⟨q, rfl⟩ := Int.eq_ofNat_of_zero_le (show 0 ≤ b by omega)
    have g1 : p < q := by omega
    have g2 : q < ns.length := by omega
    have g3 : p < ns.length := by omega
    obtain ⟨gb, off, rfl, hgb, hcl⟩ := hcell (by omega)
    obtain ⟨k0, k1⟩ := hcl p g3
    obtain ⟨j0, j1⟩ := hcl q g2
    rw [leadB_in g1 g2]
    cases hx : nodeB (ndI ns p).1 (ndI ns p).2 <;> cases hy : nodeB (ndI ns q).1 (ndI ns q).2
    · exact sLeadIn_false_false w gb off _ c p q _ _ _ _ hx hy g1 g2 hm hgb k0 k1 j0 j1
    · exact sLeadIn_false_true w gb off _ c p q _ _ _ _ hx hy g1 g2 hm hgb k0 k1 j0 j1
    · exact sLeadIn_true_false w gb off _ c p q _ _ _ _ hx hy g1 g2 hm hgb k0 k1 j0 j1
    · exact sLeadIn_true_true w gb off _ c p q _ _ _ _ hx hy g1 g2 hm hgb k0 k1 j0 j1
  · have HR := Lib.hid (leadB_range hv)
    have HV := Lib.hid hv
    clear hcell hv
    go_enter Tryz.func196, Tryz.ntmps196
    go_wp2_with (go_at_call 138; refine (l01In_any _ _ _ _).mono ?_; rintro e w' ⟨rfl, rfl⟩)
    all_goals first | (go_ret; exact ⟨ret_bool HR.out.symm, by exact bel_⟩) | (exfalso; refine HV.out ?_; simp_all [inB]; omega)
set_option maxHeartbeats 4000000 in
set_option maxRecDepth 100000 in
theorem iLeadIn (w : World) (gb off len c p q : Nat) (px py qx qy : Int) (hx : (nodeB px py && nodeB qx qy) = true) (g1 : p < q) (g2 : q < len) (hm : len ≤ 2 ^ 63 - 1) (hgb : gb < w.heap.size)
    (k0 : w.cell? ⟨gb, off + p * 2, none⟩ = some (.int .i64 px)) (k1 : w.cell? ⟨gb, off + p * 2 + 1, none⟩ = some (.int .i64 py))
    (j0 : w.cell? ⟨gb, off + q * 2, none⟩ = some (.int .i64 qx)) (j1 : w.cell? ⟨gb, off + q * 2 + 1, none⟩ = some (.int .i64 qy)) :
    Calls Tryz.prog 156 #[.slice (some ⟨gb, off, none⟩) len c, .agg #[.int .i64 p, .int .i64 q]] w fun e w' => e = .returned (.bool (!(prB px py qx qy))) ∧ Below w.heap.size w w' := by
  have g3 : p < len := by omega
  have g4 : (0 : Int) ≤ (p : Int) := by omega
  have g5 : (p : Int) < (q : Int) := by omega
  have g6 : (q : Int) < (len : Int) := by omega
  have hne : ¬ gb = w.heap.size := by omega
  have n1 : gb < w.heap.size + 1 := by omega
  have n2 : gb < w.heap.size + 1 + 1 := by omega
  have n3 : w.heap.size < w.heap.size + 1 + 1 := by omega
  go_enter Tryz.func156, Tryz.ntmps156
  go_wp2_with fail
  (go_region_held3 (fun w' => w'.cell? ⟨w.heap.size, 0, none⟩ = some (.int .i64 p) ∧ w'.cell? ⟨w.heap.size, 1, none⟩ = some (.int .i64 q) ∧ w'.cell? ⟨gb, off + p * 2, none⟩ = some (.int .i64 px) ∧ w'.cell? ⟨gb, off + p * 2 + 1, none⟩ = some (.int .i64 py) ∧ w'.cell? ⟨gb, off + q * 2, none⟩ = some (.int .i64 qx) ∧ w'.cell? ⟨gb, off + q * 2 + 1, none⟩ = some (.int .i64 qy))
      (go_keep)
      (first | (go_at_call 154; refine (nodes2_any _ px py qx qy _ (RP_litD (by simp) rfl rfl rfl (by simp [maxLen]))).mono ?_; rw [hx]; rintro e w1 ⟨rfl, hb1⟩; (first | (with_reducible have hcf1 := bcell_drew hb1) | have hcf1 := bcell hb1); obtain ⟨hc1, hf1⟩ := hcf1; have hz1 := hb1.size; (try simp at hz1); (try have hp1_0 : w.heap.size < w1.heap.size := by omega); (try have hp1_1 : w.heap.size + 1 < w1.heap.size := by omega); (try have hp1_2 : w.heap.size + 1 + 1 < w1.heap.size := by omega); (try have hp1_3 : w.heap.size + 1 + 1 + 1 < w1.heap.size := by omega); (have hbb1 : gb < w1.heap.size := by omega))))
  go_wp2
  go_ret
  exact ⟨ret_bool (by simp), by exact bel_⟩
set_option maxHeartbeats 4000000 in
set_option maxRecDepth 100000 in
theorem iLeadOk_any (v : Value) (ns : List Pr) (a b : Int) (w : World) (h : RP w v ns) (hok : nodesB ns = true) :
    Calls Tryz.prog 156 #[v, .agg #[.int .i64 a, .int .i64 b]] w fun e w' => e = .returned (.bool (leadB ns (a, b))) ∧ Below w.heap.size w w' := by
  obtain ⟨A, c, rfl, hc, hm, hcell⟩ := h.formI
  unfold maxLen at hm
  clear h
  by_cases hv : 0 ≤ a ∧ a < b ∧ b < ns.length
  · obtain ⟨h1, h2, h3⟩ := hv
    obtain ⟨p, rfl⟩ := Int.eq_ofNat_of_zero_le h1
    obtain ⟨q, rfl⟩ := Int.eq_ofNat_of_zero_le (show 0 ≤ b by omega)
    have g1 : p < q := by omega
    have g2 : q < ns.length := by omega
    have g3 : p < ns.length := by omega
    obtain ⟨gb, off, rfl, hgb, hcl⟩ := hcell (by omega)
    obtain ⟨k0, k1⟩ := hcl p g3
    obtain ⟨j0, j1⟩ := hcl q g2
    have hp := nodesB_at hok p g3
    have hq := nodesB_at hok q g2
    rw [leadB_in g1 g2]
    unfold nodeP at hp hq
    rw [hp, hq]
    exact iLeadIn w gb off _ c p q _ _ _ _ (by rw [hp, hq]; rfl) g1 g2 hm hgb k0 k1 j0 j1
  · have HR := Lib.hid (leadB_range hv)
    have HV := Lib.hid hv
    clear hcell
    go_enter Tryz.func156, Tryz.ntmps156
    go_wp2_with fail
    by_cases c1 : 0 ≤ a
    · by_cases c2 : a < b
      · have c3 : ¬ b < ns.length := fun c3 => hv ⟨c1, c2, c3⟩
        clear hv
        go_quiet (fail)
        go_wp2
        go_ret
        exact ⟨ret_bool HR.out.symm, by exact bel_⟩
      · clear hv
        go_quiet (fail)
        go_wp2
        go_ret
        exact ⟨ret_bool HR.out.symm, by exact bel_⟩
    · clear hv
      go_quiet (fail)
      go_wp2
      go_ret
      exact ⟨ret_bool HR.out.symm, by exact bel_⟩
end Go.Proofs.YtnjcpljhmhdhkaaGreat
