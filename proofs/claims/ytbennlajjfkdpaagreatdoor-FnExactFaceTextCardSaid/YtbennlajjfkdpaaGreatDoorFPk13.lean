/- part 13 -/
import Derived.Test.YtbennlajjfkdpaaGreatDoorFPk12
set_option linter.unusedSimpArgs false
set_option linter.unusedVariables false
namespace Go.Proofs.YtbennlajjfkdpaaGreatDoor
open Go.RowKit
attribute [local go_sem ↓] run_eqNode run_neNode run_mn2 run_mx2
theorem on_yes {ns : List Pr} {p q : Nat} {ax ay bx by' nx ny : Int} (h1 : leadB ns (p, q) = true) (ea : ndI ns p = (ax, ay)) (eb : ndI ns q = (bx, by')) :
    onB ns (p, q) (nx, ny) = (prB nx ny ax ay || prB nx ny bx by' || betwB ax ay bx by' nx ny) := by
  simp [onB, h1, ea, eb, sameP, betwP]
set_option maxHeartbeats 8000000 in
set_option maxRecDepth 100000 in
theorem sOnLead_any (v : Value) (ns : List Pr) (a b nx ny : Int) (w : World) (h : RP w v ns) :
    Calls Tryz.prog 80 #[v, .agg #[.int .i64 a, .int .i64 b], .agg #[.int .i64 nx, .int .i64 ny]] w fun e w' => e = .returned (.bool (onB ns (a, b) (nx, ny))) ∧ Below w.heap.size w w' := by
  cases hl : leadB ns (a, b)
  · have HR := Lib.hid (on_no (n := (nx, ny)) hl)
    go_enter Tryz.func80, Tryz.ntmps80
    go_wp2_with fail
    refine (sLeadOk_any _ ns _ _ _ (h.below (by exact bel_))).mono ?_
    rintro e w1 ⟨rfl, hb1⟩; (first | (with_reducible have hc1 := bdC hb1) | have hc1 := bcC hb1); (first | (with_reducible have hf1 := bdF hb1) | have hf1 := bcF hb1); have hz1 := hb1.size; (try simp at hz1); (try have hp1_0 := p0_ w w1); (try have hp1_1 := p1_ w w1); (try have hp1_2 := p2_ w w1); (try have hp1_3 := p3_ w w1)
    rw [hl]
    go_wp2
    go_ret
    exact ⟨ret_bool HR.out.symm, by exact bel_⟩
  obtain ⟨A, cp, rfl, hc, hmx, hcell⟩ := h.formI
  unfold maxLen at hmx
  have hpos : 0 < ns.length := by
    obtain ⟨h1, h2, h3, _⟩ := leadB_iff.1 hl
    simp only at h1 h2 h3
    omega
  obtain ⟨gb, off, rfl, hgb, hcl⟩ := hcell hpos
  obtain ⟨p, q, ax, ay, bx, by', rfl, rfl, hpq, hq, ea, eb, va, vb, k0, k1, k2, k3⟩ := lead_cells hl hcl
  have HR := Lib.hid (on_yes (nx := nx) (ny := ny) hl ea eb)
  have hp : p < ns.length := by omega
  have n1 : gb < w.heap.size + 1 + 1 := by omega
  clear hcl hcell hpos ea eb hc
  go_enter Tryz.func80, Tryz.ntmps80
  go_wp2_with fail
  refine (sLeadOk_any _ ns _ _ _ (h.below (by exact bel_))).mono ?_
  rintro e w1 ⟨rfl, hb1⟩; (first | (with_reducible have hc1 := bdC hb1) | have hc1 := bcC hb1); (first | (with_reducible have hf1 := bdF hb1) | have hf1 := bcF hb1); have hz1 := hb1.size; (try simp at hz1); (try have hp1_0 := p0_ w w1); (try have hp1_1 := p1_ w w1); (try have hp1_2 := p2_ w w1); (try have hp1_3 := p3_ w w1)
  rw [hl]
  have m1 : gb < w1.heap.size := by omega
  have m3 : gb < w1.heap.size + 1 := by omega
  have m4 : gb < w1.heap.size + 1 + 1 := by omega
  clear h hl
  go_wp2_with (go_at_call 95; refine (sBetween_any _ _ _ _ _ _ _).mono ?_; rintro e w3 ⟨rfl, hb3⟩; (first | (with_reducible have hc3 := bdC hb3) | have hc3 := bcC hb3); (first | (with_reducible have hf3 := bdF hb3) | have hf3 := bcF hb3); have hz3 := hb3.size; (try simp at hz3); (try have hp3_0 := p0_ w w3); (try have hp3_1 := p1_ w w3); (try have hp3_2 := p2_ w w3); (try have hp3_3 := p3_ w w3))
  all_goals go_ret
  all_goals exact ⟨ret_bool (by rw [HR.out]; clear HR; simp_all), by exact bel_⟩
set_option maxHeartbeats 8000000 in
set_option maxRecDepth 100000 in
theorem iOnLead_any (v : Value) (ns : List Pr) (a b nx ny : Int) (w : World) (h : RP w v ns) (hok : nodesB ns = true) :
    Calls Tryz.prog 64 #[v, .agg #[.int .i64 a, .int .i64 b], .agg #[.int .i64 nx, .int .i64 ny]] w fun e w' => e = .returned (.bool (onB ns (a, b) (nx, ny))) ∧ Below w.heap.size w w' := by
  cases hl : leadB ns (a, b)
  · have HR := Lib.hid (on_no (n := (nx, ny)) hl)
    go_enter Tryz.func64, Tryz.ntmps64
    go_wp2_with fail
    refine (iLeadOk_any _ ns _ _ _ (h.below (by exact bel_)) hok).mono ?_
    rintro e w1 ⟨rfl, hb1⟩; (first | (with_reducible have hc1 := bdC hb1) | have hc1 := bcC hb1); (first | (with_reducible have hf1 := bdF hb1) | have hf1 := bcF hb1); have hz1 := hb1.size; (try simp at hz1); (try have hp1_0 := p0_ w w1); (try have hp1_1 := p1_ w w1); (try have hp1_2 := p2_ w w1); (try have hp1_3 := p3_ w w1)
    rw [hl]
    go_wp2
    go_ret
    exact ⟨ret_bool HR.out.symm, by exact bel_⟩
  obtain ⟨A, cp, rfl, hc, hmx, hcell⟩ := h.formI
  unfold maxLen at hmx
  have hpos : 0 < ns.length := by
    obtain ⟨h1, h2, h3, _⟩ := leadB_iff.1 hl
    simp only at h1 h2 h3
    omega
  obtain ⟨gb, off, rfl, hgb, hcl⟩ := hcell hpos
  obtain ⟨p, q, ax, ay, bx, by', rfl, rfl, hpq, hq, ea, eb, va, vb, k0, k1, k2, k3⟩ := lead_cells hl hcl
  have HR := Lib.hid (on_yes (nx := nx) (ny := ny) hl ea eb)
  have hp : p < ns.length := by omega
  clear hcl hcell hpos ea eb hc
  go_enter Tryz.func64, Tryz.ntmps64
  go_wp2_with fail
  refine (iLeadOk_any _ ns _ _ _ (h.below (by exact bel_)) hok).mono ?_
  rintro e w1 ⟨rfl, hb1⟩; (first | (with_reducible have hc1 := bdC hb1) | have hc1 := bcC hb1); (first | (with_reducible have hf1 := bdF hb1) | have hf1 := bcF hb1); have hz1 := hb1.size; (try simp at hz1); (try have hp1_0 := p0_ w w1); (try have hp1_1 := p1_ w w1); (try have hp1_2 := p2_ w w1); (try have hp1_3 := p3_ w w1)
  rw [hl]
  have hbw1 : Below w.heap.size w w1 := by exact bel_
  have hL1 : Blk w1 w.heap.size 62 #[.int .i64 p, .int .i64 q] := Blk.below ((Blk.newAt rfl).alloc _) hb1 sz_
  have hM1 : Blk w1 (w.heap.size + 1) 47 #[.int .i64 nx, .int .i64 ny] := Blk.below (Blk.newAt (by simp)) hb1 sz_
  have m1 : gb < w1.heap.size := by omega
  have y5 : gb < w1.heap.size + 1 := by omega
  have y6 : gb < w1.heap.size + 1 + 1 := by omega
  have e0 := (hbw1.cell (p := ⟨gb, off + p * 2, none⟩) hgb).trans k0
  have e1 := (hbw1.cell (p := ⟨gb, off + p * 2 + 1, none⟩) hgb).trans k1
  have e2 := (hbw1.cell (p := ⟨gb, off + q * 2, none⟩) hgb).trans k2
  have e3 := (hbw1.cell (p := ⟨gb, off + q * 2 + 1, none⟩) hgb).trans k3
  have z1 : w.heap.size < w1.heap.size := by omega
  have z2 : w.heap.size + 1 < w1.heap.size := by omega
  have y3 : w.heap.size < w1.heap.size + 1 := by omega
  have y4 : w.heap.size < w1.heap.size + 1 + 1 := by omega
  clear h hl hb1 hc1 hf1 hz1 k0 k1 k2 k3 hgb hp1_0 hp1_1
  obtain ⟨l_0, l_1⟩ := hL1.c2
  generalize w.heap.size + 1 = B1 at *
  go_wp2_with fail
  go_cut [7, 8] (fun s7 s8 wx => ∃ x y : Nat, s7 = .pointer (some ⟨x, 0, none⟩) ∧ s8 = .pointer (some ⟨y, 0, none⟩) ∧ Below w1.heap.size w1 wx ∧ x < wx.heap.size ∧ y < wx.heap.size ∧
      (wx.cell? ⟨x, 0, none⟩ = some (.int .i64 ax) ∧ wx.cell? ⟨x, 1, none⟩ = some (.int .i64 ay)) ∧ (wx.cell? ⟨y, 0, none⟩ = some (.int .i64 bx) ∧ wx.cell? ⟨y, 1, none⟩ = some (.int .i64 by')))
  case first =>
    go_region
    all_goals go_wp2
    all_goals go_meet
    all_goals exact ⟨_, _, rfl, rfl, by exact bel_, sz_, sz_, ⟨by simp, by simp⟩, ⟨by simp, by simp⟩⟩
  case rest =>
    obtain ⟨x, y, rfl, rfl, hbc, hx, hy, ⟨f0, f1⟩, ⟨f2, f3⟩⟩ := hcut
    obtain ⟨w3, hw3⟩ : ∃ w3 : World, w3 = wc := ⟨_, rfl⟩
    subst hw3
    have hM3 := hM1.below hbc z2
    have hz3 := hbc.size
    have z3 : B1 < w3.heap.size := by omega
    have hbw3 : Below w.heap.size w w3 := hbw1.trans (hbc.mono hbw1.size)
    clear e0 e1 e2 e3 hbc hM1 hL1 l_0 l_1 hbw1 m1
    obtain ⟨l_0, l_1⟩ := hM3.c2
    go_wp2_with (go_at_call 82; refine (iBetween_any _ _ _ _ _ _ _).mono ?_; rintro e w5 ⟨rfl, hb5⟩; (first | (with_reducible have hc5 := bdC hb5) | have hc5 := bcC hb5); (first | (with_reducible have hf5 := bdF hb5) | have hf5 := bcF hb5); have hz5 := hb5.size; (try simp at hz5); (try have hp5_0 := p0_ w w5); (try have hp5_1 := p1_ w w5); (try have hp5_2 := p2_ w w5); (try have hp5_3 := p3_ w w5))
    all_goals go_ret
    all_goals exact ⟨ret_bool (by rw [HR.out]; clear HR; simp_all), by exact bel_⟩
end Go.Proofs.YtbennlajjfkdpaaGreatDoor
