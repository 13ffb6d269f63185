/-
  The law of DraftOk, walked.
-/
import Derived.Test.YtnpdincjekelaaaDrfL
import Derived.Deep.RegionHeld3
set_option linter.unusedSimpArgs false
set_option linter.unusedVariables false
namespace Go.Proofs.Ytnpdincjekelaaa
open Go.RowKit

set_option maxHeartbeats 8000000 in
set_option maxRecDepth 100000 in
theorem dokLaw_any (v0 v1 v2 v3 v4 : Value) (D : Dr) (w : World) (h : RD w v0 v1 v2 v3 v4 D) :
    Calls Try.prog 6 #[.agg #[v0, v1, v2, v3, v4]] w fun e w' => e = .returned (.bool true) ∧ Below w.heap.size w w' := by
  obtain ⟨x, hx⟩ : ∃ x, szD 1048576 D = x := ⟨_, rfl⟩
  have HX := Lib.hid hx
  by_cases hx0 : x < 0
  · clear hx
    go_enter Try.func6, Try.ntmps6
    go_wp2_with fail
    refine (szDraft_at _ _ _ _ _ D x _ (h.below (by (repeat (first | exact Below.refl _ _ | assumption | refine Below.drew ?_ | refine below_drewN ?_ _ | refine Below.alloc ?_ (by first | omega | (simp; done) | (simp; omega)) _ | refine Below.setCell ?_ (by first | omega | (simp; done) | (simp; omega)) _ | refine Below.step (by assumption) ?_ (by first | omega | (simp; done) | (simp; omega)) | refine Below.mark (by assumption) (by assumption) ?_ (by first | omega | (simp; done) | (simp; omega)) (by first | omega | (simp; done) | (simp; omega)))))) HX).mono ?_
    rintro e w1 ⟨rfl, hb1⟩; (first | (with_reducible have hcf1 := bcell_drew hb1) | have hcf1 := bcell hb1); obtain ⟨hc1, hf1⟩ := hcf1; have hz1 := hb1.size; (try simp at hz1); (try have hp1_0 : w.heap.size < w1.heap.size := by omega); (try have hp1_1 : w.heap.size + 1 < w1.heap.size := by omega); (try have hp1_2 : w.heap.size + 1 + 1 < w1.heap.size := by omega); (try have hp1_3 : w.heap.size + 1 + 1 + 1 < w1.heap.size := by omega)
    go_wp2
    go_ret
    exact ⟨rfl, by (repeat' (first | (with_reducible exact Below.refl _ _) | (with_reducible assumption) | (with_reducible refine Below.drew ?_) | (with_reducible refine below_drewN ?_ _) | (with_reducible refine Below.alloc ?_ ?_ _) | (with_reducible refine Below.setCell ?_ ?_ _) | (with_reducible refine Below.step (by assumption) ?_ ?_))); all_goals (first | omega | (simp; done) | (simp; omega))⟩
  · have hle : DrLe D := szD_le (by rw [hx]; exact hx0)
    have HLE := Lib.hid hle
    obtain ⟨r, hr⟩ : ∃ r, okD D = r := ⟨_, rfl⟩
    have HR := Lib.hid hr
    clear hx hle hr
    go_enter Try.func6, Try.ntmps6
    go_wp2_with fail
    refine (szDraft_at _ _ _ _ _ D x _ (h.below (by (repeat (first | exact Below.refl _ _ | assumption | refine Below.drew ?_ | refine below_drewN ?_ _ | refine Below.alloc ?_ (by first | omega | (simp; done) | (simp; omega)) _ | refine Below.setCell ?_ (by first | omega | (simp; done) | (simp; omega)) _ | refine Below.step (by assumption) ?_ (by first | omega | (simp; done) | (simp; omega)) | refine Below.mark (by assumption) (by assumption) ?_ (by first | omega | (simp; done) | (simp; omega)) (by first | omega | (simp; done) | (simp; omega)))))) HX).mono ?_
    rintro e w1 ⟨rfl, hb1⟩
    have hz1 := hb1.size
    simp at hz1
    have hbw1 : Below w.heap.size w w1 := by (repeat' (first | (with_reducible exact Below.refl _ _) | (with_reducible assumption) | (with_reducible refine Below.drew ?_) | (with_reducible refine below_drewN ?_ _) | (with_reducible refine Below.alloc ?_ ?_ _) | (with_reducible refine Below.setCell ?_ ?_ _) | (with_reducible refine Below.step (by assumption) ?_ ?_))); all_goals (first | omega | (simp; done) | (simp; omega))
    have hV1 : Blk w1 w.heap.size 54 #[v0, v1, v2, v3, v4] := Blk.below (Blk.newAt rfl) hb1 (by first | omega | (simp; done) | (simp; omega))
    clear hb1 HX
    (have a_0 := hV1.cell 0); (have a_1 := hV1.cell 1); (have a_2 := hV1.cell 2); (have a_3 := hV1.cell 3); (have a_4 := hV1.cell 4); simp only [List.getElem?_toArray, List.getElem?_cons_succ, List.getElem?_cons_zero] at a_0 a_1 a_2 a_3 a_4
    go_wp2_with fail
    refine (toDraft_any _ _ _ _ _ D _ (h.below hbw1) HLE.out).mono ?_
    rintro e w2 ⟨A0, c0, A1, c1, A2, c2, A3, c3, A4, c4, fs, rfl, ho2, hb2⟩
    have hV2 := hV1.below hb2 hV1.lt
    have hbw2 := hbw1.trans (hb2.mono hbw1.size)
    clear hb2 hV1 a_0 a_1 a_2 a_3 a_4
    go_wp2_with fail
    refine (sDok_at _ _ _ _ _ D r _ ho2.reads HR).mono ?_
    rintro e w3 ⟨rfl, hb3⟩
    have hV3 := hV2.below hb3 hV2.lt
    have hbw3 := hbw2.trans (hb3.mono hbw2.size)
    clear hb3 hV2 ho2
    (have a_0 := hV3.cell 0); (have a_1 := hV3.cell 1); (have a_2 := hV3.cell 2); (have a_3 := hV3.cell 3); (have a_4 := hV3.cell 4); simp only [List.getElem?_toArray, List.getElem?_cons_succ, List.getElem?_cons_zero] at a_0 a_1 a_2 a_3 a_4
    go_wp2_with fail
    refine (toDraft_any _ _ _ _ _ D _ (h.below hbw3) HLE.out).mono ?_
    rintro e w4 ⟨B0, d0, B1, d1, B2, d2, B3, d3, B4, d4, gs, rfl, ho4, hb4⟩
    have hV4 := hV3.below hb4 hV3.lt
    have hbw4 := hbw3.trans (hb4.mono hbw3.size)
    clear hb4 hV3 a_0 a_1 a_2 a_3 a_4
    have hV4l := hV4.lt
    go_wp2_with fail
    obtain ⟨u4, hu4⟩ : ∃ v, v = w4.alloc (.cells #[.slice B0 D.fn.length d0, .slice B1 D.fl.length d1, .slice B2 D.nn.length d2, .slice B3 D.nl.length d3, .slice B4 D.ss.length d4] 59) := ⟨_, rfl⟩
    have hX4 : Blk u4 w4.heap.size 59 #[.slice B0 D.fn.length d0, .slice B1 D.fl.length d1, .slice B2 D.nn.length d2, .slice B3 D.nl.length d3, .slice B4 D.ss.length d4] := hu4 ▸ Blk.newAt rfl
    have hV4' : Blk u4 _ _ _ := hu4 ▸ hV4.alloc _
    have ho4' := hu4 ▸ ho4.alloc (.cells #[.slice B0 D.fn.length d0, .slice B1 D.fl.length d1, .slice B2 D.nn.length d2, .slice B3 D.nl.length d3, .slice B4 D.ss.length d4] 59)
    have hbv4 : Below w.heap.size w u4 := hu4 ▸ hbw4.alloc hbw4.size _
    rw [← hu4]
    clear hu4 hV4 ho4 hbw4 hV4l
    refine (iDok_at _ _ _ _ _ D r _ ho4'.reads HR).mono ?_
    rintro e w5 ⟨rfl, hb5⟩
    have hV5 := hV4'.below hb5 hV4'.lt
    have hX5 := hX4.below hb5 hX4.lt
    have ho5 := Lib.hid (ho4'.kept hb5)
    have hbw5 := hbv4.trans (hb5.mono hbv4.size)
    clear hb5 hV4' hX4 ho4' hbv4
    generalize w4.heap.size = B at *
    have n1 := hV5.lt
    have n2 := hX5.lt
    (have a_0 := hV5.cell 0); (have a_1 := hV5.cell 1); (have a_2 := hV5.cell 2); (have a_3 := hV5.cell 3); (have a_4 := hV5.cell 4); simp only [List.getElem?_toArray, List.getElem?_cons_succ, List.getElem?_cons_zero] at a_0 a_1 a_2 a_3 a_4
    (have x_0 := hX5.cell 0); (have x_1 := hX5.cell 1); (have x_2 := hX5.cell 2); (have x_3 := hX5.cell 3); (have x_4 := hX5.cell 4); simp only [List.getElem?_toArray, List.getElem?_cons_succ, List.getElem?_cons_zero] at x_0 x_1 x_2 x_3 x_4
    have hd5 := Lib.hid (h.below hbw5)
    have hz5 := hbw5.size
    clear hV5 hX5 hbw3 hbw2 hbw1 hz1
    go_wp2_with fail
    go_region_held3 (fun w' => w'.cell? ⟨w.heap.size, 0, none⟩ = some v0 ∧ w'.cell? ⟨w.heap.size, 1, none⟩ = some v1 ∧ w'.cell? ⟨w.heap.size, 2, none⟩ = some v2 ∧ w'.cell? ⟨w.heap.size, 3, none⟩ = some v3 ∧ w'.cell? ⟨w.heap.size, 4, none⟩ = some v4 ∧
        w'.cell? ⟨B, 0, none⟩ = some (.slice B0 D.fn.length d0) ∧ w'.cell? ⟨B, 1, none⟩ = some (.slice B1 D.fl.length d1) ∧ w'.cell? ⟨B, 2, none⟩ = some (.slice B2 D.nn.length d2) ∧ w'.cell? ⟨B, 3, none⟩ = some (.slice B3 D.nl.length d3) ∧ w'.cell? ⟨B, 4, none⟩ = some (.slice B4 D.ss.length d4))
      (go_keep)
      (first | (go_at_call 33; refine Calls.mono (toDraft_any v0 v1 v2 v3 v4 D _ (hd5.out.below ?c1) HLE.out) ?_; (case c1 => (repeat' (first | (with_reducible exact Below.refl _ _) | (with_reducible assumption) | (with_reducible refine Below.drew ?_) | (with_reducible refine below_drewN ?_ _) | (with_reducible refine Below.alloc ?_ ?_ _) | (with_reducible refine Below.setCell ?_ ?_ _) | (with_reducible refine Below.step (by assumption) ?_ ?_))); all_goals (first | omega | (simp; done) | (simp; omega))); rintro e w6 ⟨E0, e0, E1, e1, E2, e2, E3, e3, E4, e4, ks, rfl, ho6, hb6⟩; (first | (with_reducible have hcf6 := bcell_drew hb6) | have hcf6 := bcell hb6); obtain ⟨hc6, hf6⟩ := hcf6; have hz6 := hb6.size; (try simp at hz6); (try have hp6_0 : w.heap.size < w6.heap.size := by omega); (try have hp6_1 : w.heap.size + 1 < w6.heap.size := by omega); (try have hp6_2 : w.heap.size + 1 + 1 < w6.heap.size := by omega); (try have hp6_3 : w.heap.size + 1 + 1 + 1 < w6.heap.size := by omega); (have mm6 : B < w6.heap.size := by omega)) | (go_at_call 35; refine (eqDraft_any _ _ _ _ _ _ _ _ _ _ D _ (ho5.out.reads.below ?c2) ho6.reads).mono ?_; (case c2 => (repeat' (first | (with_reducible exact Below.refl _ _) | (with_reducible assumption) | (with_reducible refine Below.drew ?_) | (with_reducible refine below_drewN ?_ _) | (with_reducible refine Below.alloc ?_ ?_ _) | (with_reducible refine Below.setCell ?_ ?_ _) | (with_reducible refine Below.step (by assumption) ?_ ?_))); all_goals (first | omega | (simp; done) | (simp; omega))); rintro e w7 ⟨rfl, hb7⟩; (first | (with_reducible have hcf7 := bcell_drew hb7) | have hcf7 := bcell hb7); obtain ⟨hc7, hf7⟩ := hcf7; have hz7 := hb7.size; (try simp at hz7); (try have hp7_0 : w.heap.size < w7.heap.size := by omega); (try have hp7_1 : w.heap.size + 1 < w7.heap.size := by omega); (try have hp7_2 : w.heap.size + 1 + 1 < w7.heap.size := by omega); (try have hp7_3 : w.heap.size + 1 + 1 + 1 < w7.heap.size := by omega)))
    go_wp2
    go_ret
    exact ⟨rfl, by (repeat' (first | (with_reducible exact Below.refl _ _) | (with_reducible assumption) | (with_reducible refine Below.drew ?_) | (with_reducible refine below_drewN ?_ _) | (with_reducible refine Below.alloc ?_ ?_ _) | (with_reducible refine Below.setCell ?_ ?_ _) | (with_reducible refine Below.step (by assumption) ?_ ?_))); all_goals (first | omega | (simp; done) | (simp; omega))⟩

end Go.Proofs.Ytnpdincjekelaaa
