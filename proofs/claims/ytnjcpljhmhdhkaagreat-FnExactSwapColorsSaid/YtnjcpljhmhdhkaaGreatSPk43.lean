/- part 43 -/
import Derived.Test.YtnjcpljhmhdhkaaGreatSPk42
import Derived.Deep.RegionHeld3
set_option linter.unusedSimpArgs false
set_option linter.unusedVariables false
namespace Go.Proofs.YtnjcpljhmhdhkaaGreat
open Go.RowKit
theorem keep8 {w w' : World} {b : Nat} {v0 v1 v2 v3 v4 v5 v6 v7 : Value} (hk : ∀ o v, w.cell? ⟨b, o, none⟩ = some v → w'.cell? ⟨b, o, none⟩ = some v)
    (h : w.cell? ⟨b, 0, none⟩ = some v0 ∧ w.cell? ⟨b, 1, none⟩ = some v1 ∧ w.cell? ⟨b, 2, none⟩ = some v2 ∧ w.cell? ⟨b, 3, none⟩ = some v3 ∧ w.cell? ⟨b, 4, none⟩ = some v4 ∧ w.cell? ⟨b, 5, none⟩ = some v5 ∧ w.cell? ⟨b, 6, none⟩ = some v6 ∧ w.cell? ⟨b, 7, none⟩ = some v7) :
    w'.cell? ⟨b, 0, none⟩ = some v0 ∧ w'.cell? ⟨b, 1, none⟩ = some v1 ∧ w'.cell? ⟨b, 2, none⟩ = some v2 ∧ w'.cell? ⟨b, 3, none⟩ = some v3 ∧ w'.cell? ⟨b, 4, none⟩ = some v4 ∧ w'.cell? ⟨b, 5, none⟩ = some v5 ∧ w'.cell? ⟨b, 6, none⟩ = some v6 ∧ w'.cell? ⟨b, 7, none⟩ = some v7 :=
  ⟨hk _ _ h.1, hk _ _ h.2.1, hk _ _ h.2.2.1, hk _ _ h.2.2.2.1, hk _ _ h.2.2.2.2.1, hk _ _ h.2.2.2.2.2.1, hk _ _ h.2.2.2.2.2.2.1, hk _ _ h.2.2.2.2.2.2.2⟩
theorem start8 {w : World} {b : Nat} {v0 v1 v2 v3 v4 v5 v6 v7 : Value}
    (h : w.cell? ⟨b, 0, none⟩ = some v0 ∧ w.cell? ⟨b, 1, none⟩ = some v1 ∧ w.cell? ⟨b, 2, none⟩ = some v2 ∧ w.cell? ⟨b, 3, none⟩ = some v3 ∧ w.cell? ⟨b, 4, none⟩ = some v4 ∧ w.cell? ⟨b, 5, none⟩ = some v5 ∧ w.cell? ⟨b, 6, none⟩ = some v6 ∧ w.cell? ⟨b, 7, none⟩ = some v7) :
    w.drew.cell? ⟨b, 0, none⟩ = some v0 ∧ w.drew.cell? ⟨b, 1, none⟩ = some v1 ∧ w.drew.cell? ⟨b, 2, none⟩ = some v2 ∧ w.drew.cell? ⟨b, 3, none⟩ = some v3 ∧ w.drew.cell? ⟨b, 4, none⟩ = some v4 ∧ w.drew.cell? ⟨b, 5, none⟩ = some v5 ∧ w.drew.cell? ⟨b, 6, none⟩ = some v6 ∧ w.drew.cell? ⟨b, 7, none⟩ = some v7 := h
theorem Below.keeps {w w' : World} {b : Nat} (hb : Below w.heap.size w w') : ∀ o v, w.cell? ⟨b, o, none⟩ = some v → w'.cell? ⟨b, o, none⟩ = some v := fun o v h => (hb.cell (World.block_lt_of_cell? w _ h)).trans h
theorem alloc_keeps (w : World) (x : Obj) {b : Nat} : ∀ o v, w.cell? ⟨b, o, none⟩ = some v → (w.alloc x).cell? ⟨b, o, none⟩ = some v := fun o v h => (World.cell?_alloc_some w _ x (by rw [h]; rfl)).trans h
def CpyS (w : World) (S : St) (wx : World) : Prop := ∃ A0 ac0 A1 ac1 A2 ac2 A3 ac3 A4 ac4 A5 ac5 A6 ac6 fs, OwnSt (w.heap.size + 1 + 1) wx (.slice A0 S.D.fn.length ac0) (.slice A1 S.D.fl.length ac1) (.slice A2 S.D.nn.length ac2) (.slice A3 S.D.nl.length ac3) (.slice A4 S.D.ss.length ac4) (.slice A5 S.cs.length ac5) (.slice A6 S.ds.length ac6) S fs ∧ Blk wx (w.heap.size + 1) 34 #[.slice A0 S.D.fn.length ac0, .slice A1 S.D.fl.length ac1, .slice A2 S.D.nn.length ac2, .slice A3 S.D.nl.length ac3, .slice A4 S.D.ss.length ac4, .slice A5 S.cs.length ac5, .slice A6 S.ds.length ac6, .int .i64 S.fund] ∧ Below w.heap.size w wx
theorem cps_fin {w wl : World} {S : St} {A0 A1 A2 A3 A4 A5 A6 : Option Addr} {ac0 ac1 ac2 ac3 ac4 ac5 ac6 : Nat} {fs : List SF} (ho : OwnSt (w.heap.size + 1 + 1) wl (.slice A0 S.D.fn.length ac0) (.slice A1 S.D.fl.length ac1) (.slice A2 S.D.nn.length ac2) (.slice A3 S.D.nl.length ac3) (.slice A4 S.D.ss.length ac4) (.slice A5 S.cs.length ac5) (.slice A6 S.ds.length ac6) S fs) (hR : Blk wl (w.heap.size + 1) 34 #[.slice none 0 0, .slice none 0 0, .slice none 0 0, .slice none 0 0, .slice none 0 0, .slice none 0 0, .slice none 0 0, .int .i64 0]) (hb : Below w.heap.size w wl) :
    CpyS w S ((((((((wl.setCell ⟨w.heap.size + 1, 0, none⟩ (.slice A0 S.D.fn.length ac0)).setCell ⟨w.heap.size + 1, 1, none⟩ (.slice A1 S.D.fl.length ac1)).setCell ⟨w.heap.size + 1, 2, none⟩ (.slice A2 S.D.nn.length ac2)).setCell ⟨w.heap.size + 1, 3, none⟩ (.slice A3 S.D.nl.length ac3)).setCell ⟨w.heap.size + 1, 4, none⟩ (.slice A4 S.D.ss.length ac4)).setCell ⟨w.heap.size + 1, 5, none⟩ (.slice A5 S.cs.length ac5)).setCell ⟨w.heap.size + 1, 6, none⟩ (.slice A6 S.ds.length ac6)).setCell ⟨w.heap.size + 1, 7, none⟩ (.int .i64 S.fund)) := by
  have h1 : w.heap.size + 1 < w.heap.size + 1 + 1 := Nat.lt_succ_self _
  have h2 : w.heap.size ≤ w.heap.size + 1 := Nat.le_succ _
  refine ⟨A0, ac0, A1, ac1, A2, ac2, A3, ac3, A4, ac4, A5, ac5, A6, ac6, fs, ?_, ?_, ?_⟩
  · iterate 8 refine OwnSt.setLow ?_ h1 _
    exact ho
  · have hc := ((((((((hR.set_ 0 (.slice A0 S.D.fn.length ac0)).set_ 1 (.slice A1 S.D.fl.length ac1)).set_ 2 (.slice A2 S.D.nn.length ac2)).set_ 3 (.slice A3 S.D.nl.length ac3)).set_ 4 (.slice A4 S.D.ss.length ac4)).set_ 5 (.slice A5 S.cs.length ac5)).set_ 6 (.slice A6 S.ds.length ac6)).set_ 7 (.int .i64 S.fund))
    simp only [List.setIfInBounds_toArray, List.set_cons_zero, List.set_cons_succ] at hc
    exact hc
  · iterate 8 refine Below.setCell ?_ h2 _
    exact hb
set_option maxHeartbeats 16000000 in
set_option maxRecDepth 100000 in
theorem sCopySt_any (v0 v1 v2 v3 v4 v5 v6 : Value) (S : St) (w : World) (h : RSt w v0 v1 v2 v3 v4 v5 v6 S) (hle : StLe S) :
    Calls Tryz.prog 69 #[.agg #[v0, v1, v2, v3, v4, v5, v6, .int .i64 S.fund]] w (RetStu S w) := by
  obtain ⟨i0, hi, iz0, iz1, iz2⟩ := info_parts infoInt
  obtain ⟨j0, hj, jz0, jz1, jz2⟩ := info_parts infoDep2
  have HLE := Lib.hid hle
  obtain ⟨w0, hw0⟩ : ∃ u, u = (w.alloc (.cells #[v0, v1, v2, v3, v4, v5, v6, .int .i64 S.fund] 34)).alloc (.cells #[.slice none 0 0, .slice none 0 0, .slice none 0 0, .slice none 0 0, .slice none 0 0, .slice none 0 0, .slice none 0 0, .int .i64 0] 34) := ⟨_, rfl⟩
  have hX0 : Blk w0 w.heap.size 34 #[v0, v1, v2, v3, v4, v5, v6, .int .i64 S.fund] := hw0 ▸ (Blk.newAt rfl).alloc _
  have hR0 : Blk w0 (w.heap.size + 1) 34 #[.slice none 0 0, .slice none 0 0, .slice none 0 0, .slice none 0 0, .slice none 0 0, .slice none 0 0, .slice none 0 0, .int .i64 0] := hw0 ▸ Blk.newAt (by simp)
  have hb0 : Below w.heap.size w w0 := hw0 ▸ ((Below.refl _ _).alloc (Nat.le_refl _) _).alloc (by simp) _
  have hs0 : w0.heap.size = w.heap.size + 1 + 1 := by rw [hw0]; simp
  have HW0 := Lib.hid hw0
  have hd := Lib.hid (h.below hb0)
  clear hle h hw0
  go_enter Tryz.func69, Tryz.ntmps69
  go_upto_region 1 with (fail)
  rw [← HW0.out]
  clear HW0
  obtain ⟨x_0, x_1, x_2, x_3, x_4, x_5, x_6, x_7, x_f0, x_f1, x_f2, x_f3, x_f4, x_f5, x_f6, x_f7⟩ := hX0.b8
  obtain ⟨r_0, r_1, r_2, r_3, r_4, r_5, r_6, r_7, r_f0, r_f1, r_f2, r_f3, r_f4, r_f5, r_f6, r_f7⟩ := hR0.b8
  have q0 : w.heap.size < w0.heap.size := by omega
  have q1 : w.heap.size + 1 < w0.heap.size := by omega
  have hu0 : w.heap.size < w0.heap.size + 1 := by omega
  have hv0 : w.heap.size < w0.heap.size + 1 + 1 := by omega
  have hx0 : ¬ w0.heap.size = w.heap.size := by omega
  have hy0 : ¬ w0.heap.size + 1 = w.heap.size := by omega
  have hsf : ∀ (x : World) (q o : Nat) (u : Value), (x.setCell ⟨w.heap.size + 1, q, none⟩ u).cell? ⟨w.heap.size, o, none⟩ = x.cell? ⟨w.heap.size, o, none⟩ := fun x q o u => World.cell?_setCell_far _ _ _ _ (by simp)
  have HS0 := Lib.hid hs0
  have HR0 := Lib.hid hR0
  clear hs0 hX0 hR0
  go_cut [] (fun wx => CpyS w S wx)
  case first =>
    go_region_held3 (fun w' => w'.cell? ⟨w.heap.size, 0, none⟩ = some (v0) ∧ w'.cell? ⟨w.heap.size, 1, none⟩ = some (v1) ∧ w'.cell? ⟨w.heap.size, 2, none⟩ = some (v2) ∧ w'.cell? ⟨w.heap.size, 3, none⟩ = some (v3) ∧ w'.cell? ⟨w.heap.size, 4, none⟩ = some (v4) ∧ w'.cell? ⟨w.heap.size, 5, none⟩ = some (v5) ∧ w'.cell? ⟨w.heap.size, 6, none⟩ = some (v6) ∧ w'.cell? ⟨w.heap.size, 7, none⟩ = some (.int .i64 S.fund))
      (first | (simp only [hsf]; assumption) | (with_reducible exact keep8 (alloc_keeps _ _) (by assumption)) | (with_reducible exact keep8 (Below.keeps hb3) (by assumption)) | (with_reducible exact keep8 (Below.keeps hb2) (by assumption)) | (with_reducible exact keep8 (Below.keeps hb1) (by assumption)) | (with_reducible exact keep8 (alloc_keeps _ _) (start8 ⟨x_0, x_1, x_2, x_3, x_4, x_5, x_6, x_7⟩)) | (with_reducible exact start8 (keep8 (alloc_keeps _ _) ⟨x_0, x_1, x_2, x_3, x_4, x_5, x_6, x_7⟩)) | (with_reducible exact start8 (keep8 (alloc_keeps _ _) (keep8 (alloc_keeps _ _) ⟨x_0, x_1, x_2, x_3, x_4, x_5, x_6, x_7⟩))) | (with_reducible exact start8 ⟨x_0, x_1, x_2, x_3, x_4, x_5, x_6, x_7⟩))
      (first | (go_at_call 135; refine Calls.mono (sCopyD_any _ _ _ _ _ S.D _ (hd.out.dr.below ?a1) HLE.out.D) ?_; (case a1 => exact bel_); rintro e w1 ⟨A0, ac0, A1, ac1, A2, ac2, A3, ac3, A4, ac4, fs, rfl, ho1, hb1⟩; (first | (with_reducible have hcf1 := bcell_drew hb1) | have hcf1 := bcell hb1); obtain ⟨hc1, hf1⟩ := hcf1; have hz1 := hb1.size; (try simp at hz1); (try have hp1_0 : w.heap.size < w1.heap.size := by omega); (try have hp1_1 : w.heap.size + 1 < w1.heap.size := by omega); (try have hp1_2 : w.heap.size + 1 + 1 < w1.heap.size := by omega); (try have hp1_3 : w.heap.size + 1 + 1 + 1 < w1.heap.size := by omega); (have hu1 : w.heap.size < w1.heap.size + 1 := by omega); (have hv1 : w.heap.size < w1.heap.size + 1 + 1 := by omega); (have hx1 : ¬ w1.heap.size = w.heap.size := by omega); (have hy1 : ¬ w1.heap.size + 1 = w.heap.size := by omega)) | (refine step_append_rs0 rfl _ _ _ rfl (w.heap.size + 1 + 1) w0.heap.size 3 i0 (.int .i64 0) 1 8 Tryz.underlying31 hi iz0 iz1 iz2 rfl (by decide) v5 S.cs.length (S.cs.map vI) rfl rfl ?own (hd.out.cs.below ?b2) (one_ints S.cs) HLE.out.cs (by decide) ?bs ?_; (case own => ((repeat' (first | (with_reducible refine owns_made0 ?_ ?_) | (with_reducible refine World.ownsRow.alloc ?_ _) | (with_reducible refine owns_drew ?_) | (with_reducible refine own_kept ?_ hb1))); all_goals (first | omega | (simp; done) | (simp; omega)))); (case b2 => exact bel_); (case bs => exact sz_); intro A5 ac5 w2 ho2 hb2 ha2; (first | (with_reducible have hcf2 := bcell_drew hb2) | have hcf2 := bcell hb2); obtain ⟨hc2, hf2⟩ := hcf2; have hz2 := hb2.size; (try simp at hz2); (try have hp2_0 : w.heap.size < w2.heap.size := by omega); (try have hp2_1 : w.heap.size + 1 < w2.heap.size := by omega); (try have hp2_2 : w.heap.size + 1 + 1 < w2.heap.size := by omega); (try have hp2_3 : w.heap.size + 1 + 1 + 1 < w2.heap.size := by omega); (have hu2 : w.heap.size < w2.heap.size + 1 := by omega); (have hx2 : ¬ w2.heap.size = w.heap.size := by omega)) | (refine step_append_rs0 rfl _ _ _ rfl (w.heap.size + 1 + 1) (w0.heap.size + 1) 3 i0 (.int .i64 0) 1 8 Tryz.underlying31 hi iz0 iz1 iz2 rfl (by decide) v5 S.cs.length (S.cs.map vI) rfl rfl ?own (hd.out.cs.below ?b2) (one_ints S.cs) HLE.out.cs (by decide) ?bs ?_; (case own => ((repeat' (first | (with_reducible refine owns_made0 ?_ ?_) | (with_reducible refine World.ownsRow.alloc ?_ _) | (with_reducible refine owns_drew ?_) | (with_reducible refine own_kept ?_ hb1))); all_goals (first | omega | (simp; done) | (simp; omega)))); (case b2 => exact bel_); (case bs => exact sz_); intro A5 ac5 w2 ho2 hb2 ha2; (first | (with_reducible have hcf2 := bcell_drew hb2) | have hcf2 := bcell hb2); obtain ⟨hc2, hf2⟩ := hcf2; have hz2 := hb2.size; (try simp at hz2); (try have hp2_0 : w.heap.size < w2.heap.size := by omega); (try have hp2_1 : w.heap.size + 1 < w2.heap.size := by omega); (try have hp2_2 : w.heap.size + 1 + 1 < w2.heap.size := by omega); (try have hp2_3 : w.heap.size + 1 + 1 + 1 < w2.heap.size := by omega); (have hu2 : w.heap.size < w2.heap.size + 1 := by omega); (have hx2 : ¬ w2.heap.size = w.heap.size := by omega)) | (refine step_append_rs0 rfl _ _ _ rfl (w.heap.size + 1 + 1) w1.heap.size 3 i0 (.int .i64 0) 1 8 Tryz.underlying31 hi iz0 iz1 iz2 rfl (by decide) v5 S.cs.length (S.cs.map vI) rfl rfl ?own (hd.out.cs.below ?b2) (one_ints S.cs) HLE.out.cs (by decide) ?bs ?_; (case own => ((repeat' (first | (with_reducible refine owns_made0 ?_ ?_) | (with_reducible refine World.ownsRow.alloc ?_ _) | (with_reducible refine owns_drew ?_) | (with_reducible refine own_kept ?_ hb1))); all_goals (first | omega | (simp; done) | (simp; omega)))); (case b2 => exact bel_); (case bs => exact sz_); intro A5 ac5 w2 ho2 hb2 ha2; (first | (with_reducible have hcf2 := bcell_drew hb2) | have hcf2 := bcell hb2); obtain ⟨hc2, hf2⟩ := hcf2; have hz2 := hb2.size; (try simp at hz2); (try have hp2_0 : w.heap.size < w2.heap.size := by omega); (try have hp2_1 : w.heap.size + 1 < w2.heap.size := by omega); (try have hp2_2 : w.heap.size + 1 + 1 < w2.heap.size := by omega); (try have hp2_3 : w.heap.size + 1 + 1 + 1 < w2.heap.size := by omega); (have hu2 : w.heap.size < w2.heap.size + 1 := by omega); (have hx2 : ¬ w2.heap.size = w.heap.size := by omega)) | (refine step_append_rs0 rfl _ _ _ rfl (w.heap.size + 1 + 1) (w1.heap.size + 1) 3 i0 (.int .i64 0) 1 8 Tryz.underlying31 hi iz0 iz1 iz2 rfl (by decide) v5 S.cs.length (S.cs.map vI) rfl rfl ?own (hd.out.cs.below ?b2) (one_ints S.cs) HLE.out.cs (by decide) ?bs ?_; (case own => ((repeat' (first | (with_reducible refine owns_made0 ?_ ?_) | (with_reducible refine World.ownsRow.alloc ?_ _) | (with_reducible refine owns_drew ?_) | (with_reducible refine own_kept ?_ hb1))); all_goals (first | omega | (simp; done) | (simp; omega)))); (case b2 => exact bel_); (case bs => exact sz_); intro A5 ac5 w2 ho2 hb2 ha2; (first | (with_reducible have hcf2 := bcell_drew hb2) | have hcf2 := bcell hb2); obtain ⟨hc2, hf2⟩ := hcf2; have hz2 := hb2.size; (try simp at hz2); (try have hp2_0 : w.heap.size < w2.heap.size := by omega); (try have hp2_1 : w.heap.size + 1 < w2.heap.size := by omega); (try have hp2_2 : w.heap.size + 1 + 1 < w2.heap.size := by omega); (try have hp2_3 : w.heap.size + 1 + 1 + 1 < w2.heap.size := by omega); (have hu2 : w.heap.size < w2.heap.size + 1 := by omega); (have hx2 : ¬ w2.heap.size = w.heap.size := by omega)) | (refine step_append_rs0 rfl _ _ _ rfl (w.heap.size + 1 + 1) w0.heap.size 48 j0 (.agg #[.int .i64 0, .int .i64 0, .int .i64 0]) 3 24 Tryz.underlying32 hj jz0 jz1 jz2 rfl (by decide) v6 S.ds.length (S.ds.flatMap Dp.cs) rfl rfl ?own (hd.out.ds.below ?b3) (one_deps S.ds) HLE.out.ds (by decide) ?bs ?_; (case own => ((repeat' (first | (with_reducible refine owns_made0 ?_ ?_) | (with_reducible refine World.ownsRow.alloc ?_ _) | (with_reducible refine owns_drew ?_) | (with_reducible refine own_kept ?_ hb2) | (with_reducible refine own_kept ?_ hb1))); all_goals (first | omega | (simp; done) | (simp; omega)))); (case b3 => exact bel_); (case bs => exact sz_); intro A6 ac6 w3 ho3 hb3 ha3; (first | (with_reducible have hcf3 := bcell_drew hb3) | have hcf3 := bcell hb3); obtain ⟨hc3, hf3⟩ := hcf3; have hz3 := hb3.size; (try simp at hz3); (try have hp3_0 : w.heap.size < w3.heap.size := by omega); (try have hp3_1 : w.heap.size + 1 < w3.heap.size := by omega); (try have hp3_2 : w.heap.size + 1 + 1 < w3.heap.size := by omega); (try have hp3_3 : w.heap.size + 1 + 1 + 1 < w3.heap.size := by omega)) | (refine step_append_rs0 rfl _ _ _ rfl (w.heap.size + 1 + 1) (w0.heap.size + 1) 48 j0 (.agg #[.int .i64 0, .int .i64 0, .int .i64 0]) 3 24 Tryz.underlying32 hj jz0 jz1 jz2 rfl (by decide) v6 S.ds.length (S.ds.flatMap Dp.cs) rfl rfl ?own (hd.out.ds.below ?b3) (one_deps S.ds) HLE.out.ds (by decide) ?bs ?_; (case own => ((repeat' (first | (with_reducible refine owns_made0 ?_ ?_) | (with_reducible refine World.ownsRow.alloc ?_ _) | (with_reducible refine owns_drew ?_) | (with_reducible refine own_kept ?_ hb2) | (with_reducible refine own_kept ?_ hb1))); all_goals (first | omega | (simp; done) | (simp; omega)))); (case b3 => exact bel_); (case bs => exact sz_); intro A6 ac6 w3 ho3 hb3 ha3; (first | (with_reducible have hcf3 := bcell_drew hb3) | have hcf3 := bcell hb3); obtain ⟨hc3, hf3⟩ := hcf3; have hz3 := hb3.size; (try simp at hz3); (try have hp3_0 : w.heap.size < w3.heap.size := by omega); (try have hp3_1 : w.heap.size + 1 < w3.heap.size := by omega); (try have hp3_2 : w.heap.size + 1 + 1 < w3.heap.size := by omega); (try have hp3_3 : w.heap.size + 1 + 1 + 1 < w3.heap.size := by omega)) | (refine step_append_rs0 rfl _ _ _ rfl (w.heap.size + 1 + 1) w1.heap.size 48 j0 (.agg #[.int .i64 0, .int .i64 0, .int .i64 0]) 3 24 Tryz.underlying32 hj jz0 jz1 jz2 rfl (by decide) v6 S.ds.length (S.ds.flatMap Dp.cs) rfl rfl ?own (hd.out.ds.below ?b3) (one_deps S.ds) HLE.out.ds (by decide) ?bs ?_; (case own => ((repeat' (first | (with_reducible refine owns_made0 ?_ ?_) | (with_reducible refine World.ownsRow.alloc ?_ _) | (with_reducible refine owns_drew ?_) | (with_reducible refine own_kept ?_ hb2) | (with_reducible refine own_kept ?_ hb1))); all_goals (first | omega | (simp; done) | (simp; omega)))); (case b3 => exact bel_); (case bs => exact sz_); intro A6 ac6 w3 ho3 hb3 ha3; (first | (with_reducible have hcf3 := bcell_drew hb3) | have hcf3 := bcell hb3); obtain ⟨hc3, hf3⟩ := hcf3; have hz3 := hb3.size; (try simp at hz3); (try have hp3_0 : w.heap.size < w3.heap.size := by omega); (try have hp3_1 : w.heap.size + 1 < w3.heap.size := by omega); (try have hp3_2 : w.heap.size + 1 + 1 < w3.heap.size := by omega); (try have hp3_3 : w.heap.size + 1 + 1 + 1 < w3.heap.size := by omega)) | (refine step_append_rs0 rfl _ _ _ rfl (w.heap.size + 1 + 1) (w1.heap.size + 1) 48 j0 (.agg #[.int .i64 0, .int .i64 0, .int .i64 0]) 3 24 Tryz.underlying32 hj jz0 jz1 jz2 rfl (by decide) v6 S.ds.length (S.ds.flatMap Dp.cs) rfl rfl ?own (hd.out.ds.below ?b3) (one_deps S.ds) HLE.out.ds (by decide) ?bs ?_; (case own => ((repeat' (first | (with_reducible refine owns_made0 ?_ ?_) | (with_reducible refine World.ownsRow.alloc ?_ _) | (with_reducible refine owns_drew ?_) | (with_reducible refine own_kept ?_ hb2) | (with_reducible refine own_kept ?_ hb1))); all_goals (first | omega | (simp; done) | (simp; omega)))); (case b3 => exact bel_); (case bs => exact sz_); intro A6 ac6 w3 ho3 hb3 ha3; (first | (with_reducible have hcf3 := bcell_drew hb3) | have hcf3 := bcell hb3); obtain ⟨hc3, hf3⟩ := hcf3; have hz3 := hb3.size; (try simp at hz3); (try have hp3_0 : w.heap.size < w3.heap.size := by omega); (try have hp3_1 : w.heap.size + 1 < w3.heap.size := by omega); (try have hp3_2 : w.heap.size + 1 + 1 < w3.heap.size := by omega); (try have hp3_3 : w.heap.size + 1 + 1 + 1 < w3.heap.size := by omega)) | (refine step_append_rs0 rfl _ _ _ rfl (w.heap.size + 1 + 1) w2.heap.size 48 j0 (.agg #[.int .i64 0, .int .i64 0, .int .i64 0]) 3 24 Tryz.underlying32 hj jz0 jz1 jz2 rfl (by decide) v6 S.ds.length (S.ds.flatMap Dp.cs) rfl rfl ?own (hd.out.ds.below ?b3) (one_deps S.ds) HLE.out.ds (by decide) ?bs ?_; (case own => ((repeat' (first | (with_reducible refine owns_made0 ?_ ?_) | (with_reducible refine World.ownsRow.alloc ?_ _) | (with_reducible refine owns_drew ?_) | (with_reducible refine own_kept ?_ hb2) | (with_reducible refine own_kept ?_ hb1))); all_goals (first | omega | (simp; done) | (simp; omega)))); (case b3 => exact bel_); (case bs => exact sz_); intro A6 ac6 w3 ho3 hb3 ha3; (first | (with_reducible have hcf3 := bcell_drew hb3) | have hcf3 := bcell hb3); obtain ⟨hc3, hf3⟩ := hcf3; have hz3 := hb3.size; (try simp at hz3); (try have hp3_0 : w.heap.size < w3.heap.size := by omega); (try have hp3_1 : w.heap.size + 1 < w3.heap.size := by omega); (try have hp3_2 : w.heap.size + 1 + 1 < w3.heap.size := by omega); (try have hp3_3 : w.heap.size + 1 + 1 + 1 < w3.heap.size := by omega)))
    all_goals go_wp2
    all_goals go_meet
    all_goals
      clear x_0 x_1 x_2 x_3 x_4 x_5 x_6 x_7 x_f0 x_f1 x_f2 x_f3 x_f4 x_f5 x_f6 x_f7 r_0 r_1 r_2 r_3 r_4 r_5 r_6 r_7 r_f0 r_f1 r_f2 r_f3 r_f4 r_f5 r_f6 r_f7
      have hs0 := HS0.out
      have hlt1 := ho1.lt
      have hz1' := hb1.size
      have hz2' := hb2.size
      have hz3' := hb3.size
      try simp at hlt1
      try simp at hz1'
      try simp at hz2'
      try simp at hz3'
      try simp at ha2
      try simp at ha3
      with_reducible refine cps_fin (fs := fs) ?_ ?_ ?_
      · refine ⟨(OwnD.kept ho1 ?_).mono ?_, ?_, ?_, fun k h1 h2 => ?_, fun k h1 h2 => ?_, fun k h1 h2 => ?_⟩
        · exact bel_
        · exact sz_
        · first | (with_reducible exact ho2) | exact OwnI.kept ho2 (by exact bel_)
        · first | (with_reducible exact ho3) | exact own_kept ho3 (by exact bel_)
        · have := hlt1 k h1; rcases ha2 k h2 with e | e <;> omega
        · have := hlt1 k h1; rcases ha3 k h2 with e | e <;> omega
        · have u1 := (World.ownsRow.lt ho2 k h1).2; have u2 := (World.ownsRow.lt ho3 k h2).2; rcases ha2 k h1 with e | e <;> rcases ha3 k h2 with e' | e' <;> omega
      · exact HR0.out.below (by exact bel_) q1
      · exact hb0.trans (Below.mono (by exact bel_) hb0.size)
  case rest =>
    obtain ⟨A0, ac0, A1, ac1, A2, ac2, A3, ac3, A4, ac4, A5, ac5, A6, ac6, fs, ho, hR, hb⟩ := hcut
    have HO := Lib.hid ho
    have HB := Lib.hid hb
    obtain ⟨t_0, t_1, t_2, t_3, t_4, t_5, t_6, t_7⟩ := hR.c8
    have n1 := hR.lt
    clear ho hb hR
    go_wp2
    refine bodyPost_ret (v := .agg #[.slice A0 S.D.fn.length ac0, .slice A1 S.D.fl.length ac1, .slice A2 S.D.nn.length ac2, .slice A3 S.D.nl.length ac3, .slice A4 S.D.ss.length ac4, .slice A5 S.cs.length ac5, .slice A6 S.ds.length ac6, .int .i64 S.fund]) (by simp [results, Tryz.results69, go_sem, n1, t_0, t_1, t_2, t_3, t_4, t_5, t_6, t_7]) rfl ?_
    exact ⟨A0, ac0, A1, ac1, A2, ac2, A3, ac3, A4, ac4, A5, ac5, A6, ac6, fs, rfl, HO.out.mono (by omega), HB.out⟩
end Go.Proofs.YtnjcpljhmhdhkaaGreat

namespace Go.Proofs.YtnjcpljhmhdhkaaGreat
open Go.RowKit
theorem OwnSt.setFar {base : Nat} {w : World} {a b c d e f g : Value} {S : St} {fs : List SF} (h : OwnSt base w a b c d e f g S fs) {p : Addr} (hp : ¬ blksSt a b c d e f g fs p.block) (u : Value) : OwnSt base (w.setCell p u) a b c d e f g S fs :=
  h.turned (T := fun k => k = p.block) (Turns.ofGrown (set_grown w p u) (fun k hk => by cases hk; rfl)) (fun k hk e => hp (e ▸ hk))
structure OutSS (w : World) (v0 v1 v2 v3 v4 v5 v6 : Value) (m : Int) (Z : Nat) (a b c d e f g : Value) (S : St) (fs : List SF) (wr : World) : Prop where
  own : OwnSt (w.heap.size + 1 + 1) wr a b c d e f g S fs
  X : Blk wr w.heap.size 34 #[v0, v1, v2, v3, v4, v5, v6, .int .i64 m]
  R : Blk wr (w.heap.size + 1) 34 #[.slice none 0 0, .slice none 0 0, .slice none 0 0, .slice none 0 0, .slice none 0 0, .slice none 0 0, .slice none 0 0, .int .i64 0]
  Z_ : Blk wr Z 34 #[a, b, c, d, e, f, g, .int .i64 S.fund]
  lt : w.heap.size + 1 < Z
  far : ¬ blksSt a b c d e f g fs Z
  blw : Below w.heap.size w wr
section
variable {w wr wr' : World} {v0 v1 v2 v3 v4 v5 v6 a b c d e f g : Value} {m : Int} {Z : Nat} {S : St} {fs : List SF}
theorem OutSS.below (h : OutSS w v0 v1 v2 v3 v4 v5 v6 m Z a b c d e f g S fs wr) (hb : Below wr.heap.size wr wr') : OutSS w v0 v1 v2 v3 v4 v5 v6 m Z a b c d e f g S fs wr' :=
  ⟨h.own.kept hb, h.X.below hb h.X.lt, h.R.below hb h.R.lt, h.Z_.below hb h.Z_.lt, h.lt, h.far, h.blw.trans (hb.mono h.blw.size)⟩
theorem OutSS.start {base : Nat} (ho : OwnSt base wr a b c d e f g S fs) (hbase : w.heap.size + 1 + 1 ≤ base) (hX : Blk wr w.heap.size 34 #[v0, v1, v2, v3, v4, v5, v6, .int .i64 m]) (hR : Blk wr (w.heap.size + 1) 34 #[.slice none 0 0, .slice none 0 0, .slice none 0 0, .slice none 0 0, .slice none 0 0, .slice none 0 0, .slice none 0 0, .int .i64 0]) (hb : Below w.heap.size w wr) :
    OutSS w v0 v1 v2 v3 v4 v5 v6 m wr.heap.size a b c d e f g S fs (wr.alloc (.cells #[a, b, c, d, e, f, g, .int .i64 S.fund] 34)) :=
  ⟨(ho.mono hbase).alloc _, hX.alloc _, hR.alloc _, Blk.newAt rfl, hR.lt, fun hk => by have := (ho.lt _ hk).2; omega, hb.alloc hb.size _⟩
theorem OutSS.fin (h : OutSS w v0 v1 v2 v3 v4 v5 v6 m Z a b c d e f g S fs wr) (u0 u1 u2 u3 u4 u5 u6 u7 : Value) :
    OwnSt w.heap.size ((((((((wr.setCell ⟨w.heap.size + 1, 0, none⟩ u0).setCell ⟨w.heap.size + 1, 1, none⟩ u1).setCell ⟨w.heap.size + 1, 2, none⟩ u2).setCell ⟨w.heap.size + 1, 3, none⟩ u3).setCell ⟨w.heap.size + 1, 4, none⟩ u4).setCell ⟨w.heap.size + 1, 5, none⟩ u5).setCell ⟨w.heap.size + 1, 6, none⟩ u6).setCell ⟨w.heap.size + 1, 7, none⟩ u7) a b c d e f g S fs ∧
    Below w.heap.size w ((((((((wr.setCell ⟨w.heap.size + 1, 0, none⟩ u0).setCell ⟨w.heap.size + 1, 1, none⟩ u1).setCell ⟨w.heap.size + 1, 2, none⟩ u2).setCell ⟨w.heap.size + 1, 3, none⟩ u3).setCell ⟨w.heap.size + 1, 4, none⟩ u4).setCell ⟨w.heap.size + 1, 5, none⟩ u5).setCell ⟨w.heap.size + 1, 6, none⟩ u6).setCell ⟨w.heap.size + 1, 7, none⟩ u7) := by
  have hR : ¬ blksSt a b c d e f g fs (w.heap.size + 1) := fun hk => by have := (h.own.lt _ hk).1; omega
  have step : ∀ (W : World) (j : Nat) (u : Value), OwnSt w.heap.size W a b c d e f g S fs → OwnSt w.heap.size (W.setCell ⟨w.heap.size + 1, j, none⟩ u) a b c d e f g S fs := fun W j u hW => hW.setFar (p := ⟨w.heap.size + 1, j, none⟩) hR u
  have hs : w.heap.size ≤ w.heap.size + 1 := Nat.le_succ _
  exact ⟨step _ _ _ (step _ _ _ (step _ _ _ (step _ _ _ (step _ _ _ (step _ _ _ (step _ _ _ (step _ _ _ (h.own.mono (by omega))))))))),
    (((((((h.blw.setCell (p := ⟨w.heap.size + 1, 0, none⟩) hs u0).setCell (p := ⟨w.heap.size + 1, 1, none⟩) hs u1).setCell (p := ⟨w.heap.size + 1, 2, none⟩) hs u2).setCell (p := ⟨w.heap.size + 1, 3, none⟩) hs u3).setCell (p := ⟨w.heap.size + 1, 4, none⟩) hs u4).setCell (p := ⟨w.heap.size + 1, 5, none⟩) hs u5).setCell (p := ⟨w.heap.size + 1, 6, none⟩) hs u6).setCell (p := ⟨w.heap.size + 1, 7, none⟩) hs u7⟩
end
end Go.Proofs.YtnjcpljhmhdhkaaGreat
