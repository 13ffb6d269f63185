/-
  The law of SameWindow, walked.
-/
import Derived.Test.YtdladmmhmncpoaaSame
import Derived.Deep.RegionHeld3
import Derived.Deep.DeepCutAuto
import Derived.Outline
set_option linter.unusedSimpArgs false
set_option linter.unusedVariables false
namespace Go.Proofs.Ytdladmmhmncpoaa
open Go.RowKit

set_option maxHeartbeats 4000000 in
set_option maxRecDepth 100000 in
theorem sameLaw_any (vn vl un ul : Value) (ns ls ms ks : List (Int × Int)) (w : World) (hn : RP w vn ns) (hl : RP w vl ls) (hn' : RP w un ms) (hl' : RP w ul ks) :
    Calls Try.prog 5 #[.agg #[vn, vl], .agg #[un, ul]] w fun e w' => e = .returned (.bool true) ∧ Below w.heap.size w w' := by
  obtain ⟨x, hx⟩ : ∃ x, szW 1048576 ns.length ls.length = x := ⟨_, rfl⟩
  have HX := Lib.hid hx
  by_cases hx0 : x < 0
  · clear hx
    go_enter Try.func5, Try.ntmps5
    go_wp2_with fail
    refine (szWindow_at _ _ ns ls _ x _ (hn.below (by (repeat (first | exact Below.refl _ _ | assumption | refine Below.drew ?_ | refine below_drewN ?_ _ | refine Below.alloc ?_ (by first | omega | (simp; done) | (simp; omega)) _ | refine Below.setCell ?_ (by first | omega | (simp; done) | (simp; omega)) _ | refine Below.step (by assumption) ?_ (by first | omega | (simp; done) | (simp; omega)) | refine Below.mark (by assumption) (by assumption) ?_ (by first | omega | (simp; done) | (simp; omega)) (by first | omega | (simp; done) | (simp; omega)))))) (hl.below (by (repeat (first | exact Below.refl _ _ | assumption | refine Below.drew ?_ | refine below_drewN ?_ _ | refine Below.alloc ?_ (by first | omega | (simp; done) | (simp; omega)) _ | refine Below.setCell ?_ (by first | omega | (simp; done) | (simp; omega)) _ | refine Below.step (by assumption) ?_ (by first | omega | (simp; done) | (simp; omega)) | refine Below.mark (by assumption) (by assumption) ?_ (by first | omega | (simp; done) | (simp; omega)) (by first | omega | (simp; done) | (simp; omega)))))) (by omega) (by omega) HX).mono ?_
    rintro e w1 ⟨rfl, hb1⟩; (first | (with_reducible have hcf1 := bcell_drew hb1) | have hcf1 := bcell hb1); obtain ⟨hc1, hf1⟩ := hcf1; have hz1 := hb1.size; (try simp at hz1); (try have hp1_0 : w.heap.size < w1.heap.size := by omega); (try have hp1_1 : w.heap.size + 1 < w1.heap.size := by omega); (try have hp1_2 : w.heap.size + 1 + 1 < w1.heap.size := by omega); (try have hp1_3 : w.heap.size + 1 + 1 + 1 < w1.heap.size := by omega)
    go_wp2
    go_ret
    exact ⟨rfl, by (repeat' (first | (with_reducible exact Below.refl _ _) | (with_reducible assumption) | (with_reducible refine Below.drew ?_) | (with_reducible refine below_drewN ?_ _) | (with_reducible refine Below.alloc ?_ ?_ _) | (with_reducible refine Below.setCell ?_ ?_ _) | (with_reducible refine Below.step (by assumption) ?_ ?_))); all_goals (first | omega | (simp; done) | (simp; omega))⟩
  · obtain ⟨s1, s2, s3, s4⟩ := szW_le (by rw [hx]; exact hx0)
    rw [hx] at s3 s4
    obtain ⟨y, hy⟩ : ∃ y, szW x ms.length ks.length = y := ⟨_, rfl⟩
    have HY := Lib.hid hy
    by_cases hy0 : y < 0
    · clear hx hy
      go_enter Try.func5, Try.ntmps5
      go_wp2_with fail
      refine (szWindow_at _ _ ns ls _ x _ (hn.below (by (repeat (first | exact Below.refl _ _ | assumption | refine Below.drew ?_ | refine below_drewN ?_ _ | refine Below.alloc ?_ (by first | omega | (simp; done) | (simp; omega)) _ | refine Below.setCell ?_ (by first | omega | (simp; done) | (simp; omega)) _ | refine Below.step (by assumption) ?_ (by first | omega | (simp; done) | (simp; omega)) | refine Below.mark (by assumption) (by assumption) ?_ (by first | omega | (simp; done) | (simp; omega)) (by first | omega | (simp; done) | (simp; omega)))))) (hl.below (by (repeat (first | exact Below.refl _ _ | assumption | refine Below.drew ?_ | refine below_drewN ?_ _ | refine Below.alloc ?_ (by first | omega | (simp; done) | (simp; omega)) _ | refine Below.setCell ?_ (by first | omega | (simp; done) | (simp; omega)) _ | refine Below.step (by assumption) ?_ (by first | omega | (simp; done) | (simp; omega)) | refine Below.mark (by assumption) (by assumption) ?_ (by first | omega | (simp; done) | (simp; omega)) (by first | omega | (simp; done) | (simp; omega)))))) (by omega) (by omega) HX).mono ?_
      rintro e w1 ⟨rfl, hb1⟩; (first | (with_reducible have hcf1 := bcell_drew hb1) | have hcf1 := bcell hb1); obtain ⟨hc1, hf1⟩ := hcf1; have hz1 := hb1.size; (try simp at hz1); (try have hp1_0 : w.heap.size < w1.heap.size := by omega); (try have hp1_1 : w.heap.size + 1 < w1.heap.size := by omega); (try have hp1_2 : w.heap.size + 1 + 1 < w1.heap.size := by omega); (try have hp1_3 : w.heap.size + 1 + 1 + 1 < w1.heap.size := by omega)
      have hbw1 : Below w.heap.size w w1 := by (repeat' (first | (with_reducible exact Below.refl _ _) | (with_reducible assumption) | (with_reducible refine Below.drew ?_) | (with_reducible refine below_drewN ?_ _) | (with_reducible refine Below.alloc ?_ ?_ _) | (with_reducible refine Below.setCell ?_ ?_ _) | (with_reducible refine Below.step (by assumption) ?_ ?_))); all_goals (first | omega | (simp; done) | (simp; omega))
      go_wp2_with fail
      refine (szWindow_at _ _ ms ks _ y _ (hn'.below hbw1) (hl'.below hbw1) (by omega) (by omega) HY).mono ?_
      rintro e w2 ⟨rfl, hb2⟩; (first | (with_reducible have hcf2 := bcell_drew hb2) | have hcf2 := bcell hb2); obtain ⟨hc2, hf2⟩ := hcf2; have hz2 := hb2.size; (try simp at hz2); (try have hp2_0 : w.heap.size < w2.heap.size := by omega); (try have hp2_1 : w.heap.size + 1 < w2.heap.size := by omega); (try have hp2_2 : w.heap.size + 1 + 1 < w2.heap.size := by omega); (try have hp2_3 : w.heap.size + 1 + 1 + 1 < w2.heap.size := by omega)
      go_wp2
      go_ret
      exact ⟨rfl, by (repeat' (first | (with_reducible exact Below.refl _ _) | (with_reducible assumption) | (with_reducible refine Below.drew ?_) | (with_reducible refine below_drewN ?_ _) | (with_reducible refine Below.alloc ?_ ?_ _) | (with_reducible refine Below.setCell ?_ ?_ _) | (with_reducible refine Below.step (by assumption) ?_ ?_))); all_goals (first | omega | (simp; done) | (simp; omega))⟩
    · obtain ⟨s5, s6, s7, s8⟩ := szW_le2 s4 (by rw [hy]; exact hy0)
      obtain ⟨b, hb⟩ : ∃ b, sameWB ns ls ms ks = b := ⟨_, rfl⟩
      have HB := Lib.hid hb
      clear hx hy hb
      go_enter Try.func5, Try.ntmps5
      go_wp2_with fail
      refine (szWindow_at _ _ ns ls _ x _ (hn.below (by (repeat (first | exact Below.refl _ _ | assumption | refine Below.drew ?_ | refine below_drewN ?_ _ | refine Below.alloc ?_ (by first | omega | (simp; done) | (simp; omega)) _ | refine Below.setCell ?_ (by first | omega | (simp; done) | (simp; omega)) _ | refine Below.step (by assumption) ?_ (by first | omega | (simp; done) | (simp; omega)) | refine Below.mark (by assumption) (by assumption) ?_ (by first | omega | (simp; done) | (simp; omega)) (by first | omega | (simp; done) | (simp; omega)))))) (hl.below (by (repeat (first | exact Below.refl _ _ | assumption | refine Below.drew ?_ | refine below_drewN ?_ _ | refine Below.alloc ?_ (by first | omega | (simp; done) | (simp; omega)) _ | refine Below.setCell ?_ (by first | omega | (simp; done) | (simp; omega)) _ | refine Below.step (by assumption) ?_ (by first | omega | (simp; done) | (simp; omega)) | refine Below.mark (by assumption) (by assumption) ?_ (by first | omega | (simp; done) | (simp; omega)) (by first | omega | (simp; done) | (simp; omega)))))) (by omega) (by omega) HX).mono ?_
      rintro e w1 ⟨rfl, hb1⟩; (first | (with_reducible have hcf1 := bcell_drew hb1) | have hcf1 := bcell hb1); obtain ⟨hc1, hf1⟩ := hcf1; have hz1 := hb1.size; (try simp at hz1); (try have hp1_0 : w.heap.size < w1.heap.size := by omega); (try have hp1_1 : w.heap.size + 1 < w1.heap.size := by omega); (try have hp1_2 : w.heap.size + 1 + 1 < w1.heap.size := by omega); (try have hp1_3 : w.heap.size + 1 + 1 + 1 < w1.heap.size := by omega)
      have hbw1 : Below w.heap.size w w1 := by (repeat' (first | (with_reducible exact Below.refl _ _) | (with_reducible assumption) | (with_reducible refine Below.drew ?_) | (with_reducible refine below_drewN ?_ _) | (with_reducible refine Below.alloc ?_ ?_ _) | (with_reducible refine Below.setCell ?_ ?_ _) | (with_reducible refine Below.step (by assumption) ?_ ?_))); all_goals (first | omega | (simp; done) | (simp; omega))
      go_wp2_with fail
      refine (szWindow_at _ _ ms ks _ y _ (hn'.below hbw1) (hl'.below hbw1) (by omega) (by omega) HY).mono ?_
      rintro e w2 ⟨rfl, hb2⟩; (first | (with_reducible have hcf2 := bcell_drew hb2) | have hcf2 := bcell hb2); obtain ⟨hc2, hf2⟩ := hcf2; have hz2 := hb2.size; (try simp at hz2); (try have hp2_0 : w.heap.size < w2.heap.size := by omega); (try have hp2_1 : w.heap.size + 1 < w2.heap.size := by omega); (try have hp2_2 : w.heap.size + 1 + 1 < w2.heap.size := by omega); (try have hp2_3 : w.heap.size + 1 + 1 + 1 < w2.heap.size := by omega)
      have hbw2 : Below w.heap.size w w2 := hbw1.trans (hb2.mono hbw1.size)
      have hV2 : Blk w2 w.heap.size 60 #[vn, vl] := (Blk.below ((Blk.newAt rfl).alloc _) hb1 (by first | omega | (simp; done) | (simp; omega))).below hb2 (by omega)
      have hW2 : Blk w2 (w.heap.size + 1) 60 #[un, ul] := (Blk.below (Blk.newAt (by simp)) hb1 (by first | omega | (simp; done) | (simp; omega))).below hb2 (by omega)
      (have a_0 := hV2.cell 0); (have a_1 := hV2.cell 1); simp only [List.getElem?_toArray, List.getElem?_cons_succ, List.getElem?_cons_zero] at a_0 a_1
      (have a'_0 := hW2.cell 0); (have a'_1 := hW2.cell 1); simp only [List.getElem?_toArray, List.getElem?_cons_succ, List.getElem?_cons_zero] at a'_0 a'_1
      have n1 : w.heap.size < w2.heap.size := by omega
      have n2 : w.heap.size + 1 < w2.heap.size := by omega
      clear hb1 hc1 hf1 hb2 hc2 hf2 hbw1 HX HY
      go_wp2_with fail
      go_cut [6] (fun s6 wx => s6 = .bool b ∧ Below w2.heap.size w2 wx)
      case first =>
        go_region_held3 (fun w' => w'.cell? ⟨w.heap.size, 0, none⟩ = some vn ∧ w'.cell? ⟨w.heap.size, 1, none⟩ = some vl ∧ w'.cell? ⟨w.heap.size + 1, 0, none⟩ = some un ∧ w'.cell? ⟨w.heap.size + 1, 1, none⟩ = some ul)
          (go_keep)
          (first | (go_at_call 31; (first | ((with_reducible refine Calls.mono (toWindow_any vn vl ns ls _ (hn.below ?c1) (hl.below ?c1) s1 s2) ?_); (case c1 => (repeat' (first | (with_reducible exact Below.refl _ _) | (with_reducible assumption) | (with_reducible refine Below.drew ?_) | (with_reducible refine below_drewN ?_ _) | (with_reducible refine Below.alloc ?_ ?_ _) | (with_reducible refine Below.setCell ?_ ?_ _) | (with_reducible refine Below.step (by assumption) ?_ ?_))); all_goals (first | omega | (simp; done) | (simp; omega))); rintro e w3 ⟨An3, cn3, Al3, cl3, rfl, ho3, hb3⟩; (first | (with_reducible have hcf3 := bcell_drew hb3) | have hcf3 := bcell hb3); obtain ⟨hc3, hf3⟩ := hcf3; have hz3 := hb3.size; (try simp at hz3); (try have hp3_0 : w.heap.size < w3.heap.size := by omega); (try have hp3_1 : w.heap.size + 1 < w3.heap.size := by omega); (try have hp3_2 : w.heap.size + 1 + 1 < w3.heap.size := by omega); (try have hp3_3 : w.heap.size + 1 + 1 + 1 < w3.heap.size := by omega)) | ((with_reducible refine Calls.mono (toWindow_any un ul ms ks _ (hn'.below ?c1) (hl'.below ?c1) s5 s6) ?_); (case c1 => (repeat' (first | (with_reducible exact Below.refl _ _) | (with_reducible assumption) | (with_reducible refine Below.drew ?_) | (with_reducible refine below_drewN ?_ _) | (with_reducible refine Below.alloc ?_ ?_ _) | (with_reducible refine Below.setCell ?_ ?_ _) | (with_reducible refine Below.step (by assumption) ?_ ?_))); all_goals (first | omega | (simp; done) | (simp; omega))); rintro e w4 ⟨An4, cn4, Al4, cl4, rfl, ho4, hb4⟩; (first | (with_reducible have hcf4 := bcell_drew hb4) | have hcf4 := bcell hb4); obtain ⟨hc4, hf4⟩ := hcf4; have hz4 := hb4.size; (try simp at hz4); (try have hp4_0 : w.heap.size < w4.heap.size := by omega); (try have hp4_1 : w.heap.size + 1 < w4.heap.size := by omega); (try have hp4_2 : w.heap.size + 1 + 1 < w4.heap.size := by omega); (try have hp4_3 : w.heap.size + 1 + 1 + 1 < w4.heap.size := by omega)))) | (go_at_call 21; refine (sSameWindow_at _ _ _ _ ns ls ms ks b _ (ho3.1.reads.below (by (repeat' (first | (with_reducible exact Below.refl _ _) | (with_reducible assumption) | (with_reducible refine Below.drew ?_) | (with_reducible refine below_drewN ?_ _) | (with_reducible refine Below.alloc ?_ ?_ _) | (with_reducible refine Below.setCell ?_ ?_ _) | (with_reducible refine Below.step (by assumption) ?_ ?_))); all_goals (first | omega | (simp; done) | (simp; omega)))) (ho3.2.1.reads.below (by (repeat' (first | (with_reducible exact Below.refl _ _) | (with_reducible assumption) | (with_reducible refine Below.drew ?_) | (with_reducible refine below_drewN ?_ _) | (with_reducible refine Below.alloc ?_ ?_ _) | (with_reducible refine Below.setCell ?_ ?_ _) | (with_reducible refine Below.step (by assumption) ?_ ?_))); all_goals (first | omega | (simp; done) | (simp; omega)))) (ho4.1.reads.below (by (repeat' (first | (with_reducible exact Below.refl _ _) | (with_reducible assumption) | (with_reducible refine Below.drew ?_) | (with_reducible refine below_drewN ?_ _) | (with_reducible refine Below.alloc ?_ ?_ _) | (with_reducible refine Below.setCell ?_ ?_ _) | (with_reducible refine Below.step (by assumption) ?_ ?_))); all_goals (first | omega | (simp; done) | (simp; omega)))) (ho4.2.1.reads.below (by (repeat' (first | (with_reducible exact Below.refl _ _) | (with_reducible assumption) | (with_reducible refine Below.drew ?_) | (with_reducible refine below_drewN ?_ _) | (with_reducible refine Below.alloc ?_ ?_ _) | (with_reducible refine Below.setCell ?_ ?_ _) | (with_reducible refine Below.step (by assumption) ?_ ?_))); all_goals (first | omega | (simp; done) | (simp; omega)))) HB).mono ?_; rintro e w5 ⟨rfl, hb5⟩; (first | (with_reducible have hcf5 := bcell_drew hb5) | have hcf5 := bcell hb5); obtain ⟨hc5, hf5⟩ := hcf5; have hz5 := hb5.size; (try simp at hz5); (try have hp5_0 : w.heap.size < w5.heap.size := by omega); (try have hp5_1 : w.heap.size + 1 < w5.heap.size := by omega); (try have hp5_2 : w.heap.size + 1 + 1 < w5.heap.size := by omega); (try have hp5_3 : w.heap.size + 1 + 1 + 1 < w5.heap.size := by omega)))
        all_goals go_wp2_with fail
        all_goals go_meet
        all_goals exact ⟨rfl, by (repeat' (first | (with_reducible exact Below.refl _ _) | (with_reducible assumption) | (with_reducible refine Below.drew ?_) | (with_reducible refine below_drewN ?_ _) | (with_reducible refine Below.alloc ?_ ?_ _) | (with_reducible refine Below.setCell ?_ ?_ _) | (with_reducible refine Below.step (by assumption) ?_ ?_))); all_goals (first | omega | (simp; done) | (simp; omega))⟩
      case rest =>
        obtain ⟨rfl, hbc⟩ := hcut
        obtain ⟨w3, hw3⟩ : ∃ w3 : World, w3 = wc := ⟨_, rfl⟩
        subst hw3
        have hz3 := hbc.size
        have hV3 := hV2.below hbc n1
        have hW3 := hW2.below hbc n2
        have hbw3 : Below w.heap.size w w3 := hbw2.trans (hbc.mono hbw2.size)
        have n3 : w.heap.size < w3.heap.size := by omega
        have n4 : w.heap.size + 1 < w3.heap.size := by omega
        clear hbc hbw2 n1 n2 hV2 hW2 a_0 a_1 a'_0 a'_1
        (have a_0 := hV3.cell 0); (have a_1 := hV3.cell 1); simp only [List.getElem?_toArray, List.getElem?_cons_succ, List.getElem?_cons_zero] at a_0 a_1
        (have a'_0 := hW3.cell 0); (have a'_1 := hW3.cell 1); simp only [List.getElem?_toArray, List.getElem?_cons_succ, List.getElem?_cons_zero] at a'_0 a'_1
        go_wp2_with fail
        refine (toWindow_any vn vl ns ls _ (hn.below hbw3) (hl.below hbw3) s1 s2).mono ?_
        rintro e w5 ⟨An5, cn5, Al5, cl5, rfl, ho5, hb5⟩
        have hz5 := hb5.size
        have hV5 := hV3.below hb5 n3
        have hW5 := (hW3.below hb5 n4).alloc (.cells #[.slice An5 ns.length cn5, .slice Al5 ls.length cl5] 27)
        have hbw5 : Below w.heap.size w w5 := hbw3.trans (hb5.mono hbw3.size)
        have hbw5' : Below w.heap.size w (w5.alloc (.cells #[.slice An5 ns.length cn5, .slice Al5 ls.length cl5] 27)) := by (repeat' (first | (with_reducible exact Below.refl _ _) | (with_reducible assumption) | (with_reducible refine Below.drew ?_) | (with_reducible refine below_drewN ?_ _) | (with_reducible refine Below.alloc ?_ ?_ _) | (with_reducible refine Below.setCell ?_ ?_ _) | (with_reducible refine Below.step (by assumption) ?_ ?_))); all_goals (first | omega | (simp; done) | (simp; omega))
        clear hV3 hW3 hb5 hbw3 a_0 a_1 a'_0 a'_1
        (have a'_0 := hW5.cell 0); (have a'_1 := hW5.cell 1); simp only [List.getElem?_toArray, List.getElem?_cons_succ, List.getElem?_cons_zero] at a'_0 a'_1
        have n5 : w.heap.size + 1 < w5.heap.size := by omega
        go_wp2_with fail
        refine (toWindow_any un ul ms ks _ (hn'.below hbw5') (hl'.below hbw5') s5 s6).mono ?_
        rintro e w6 ⟨An6, cn6, Al6, cl6, rfl, ho6, hb6⟩
        have hz6 := hb6.size
        simp at hz6
        have hV6 := (hV5.alloc (.cells #[.slice An5 ns.length cn5, .slice Al5 ls.length cl5] 27)).below hb6 (by first | omega | (simp; done) | (simp; omega))
        have hW6 := hW5.below hb6 (by first | omega | (simp; done) | (simp; omega))
        have hX6 : Blk w6 w5.heap.size 27 #[.slice An5 ns.length cn5, .slice Al5 ls.length cl5] := Blk.below (Blk.newAt rfl) hb6 (by first | omega | (simp; done) | (simp; omega))
        have hbw6 : Below w.heap.size w w6 := hbw5'.trans (hb6.mono hbw5'.size)
        have hb56 : Below w5.heap.size w5 w6 := ((Below.refl _ _).alloc (Nat.le_refl _) _).trans (hb6.mono (by first | omega | (simp; done) | (simp; omega)))
        have r5n : RP w6 (.slice An5 ns.length cn5) ns := ho5.1.reads.below hb56
        have r5l : RP w6 (.slice Al5 ls.length cl5) ls := ho5.2.1.reads.below hb56
        have r6n : RP w6 (.slice An6 ms.length cn6) ms := ho6.1.reads
        have r6l : RP w6 (.slice Al6 ks.length cl6) ks := ho6.2.1.reads
        clear hb6 hb56 hbw5 hbw5' hV5 hW5 ho5 ho6 a'_0 a'_1
        have nX : w5.heap.size < w6.heap.size := by omega
        have hX6' := hX6.alloc (.cells #[.slice An6 ms.length cn6, .slice Al6 ks.length cl6] 27)
        (have x_0 := hX6'.cell 0); (have x_1 := hX6'.cell 1); simp only [List.getElem?_toArray, List.getElem?_cons_succ, List.getElem?_cons_zero] at x_0 x_1
        have hbw7 : Below w.heap.size w (w6.alloc (.cells #[.slice An6 ms.length cn6, .slice Al6 ks.length cl6] 27)) := by (repeat' (first | (with_reducible exact Below.refl _ _) | (with_reducible assumption) | (with_reducible refine Below.drew ?_) | (with_reducible refine below_drewN ?_ _) | (with_reducible refine Below.alloc ?_ ?_ _) | (with_reducible refine Below.setCell ?_ ?_ _) | (with_reducible refine Below.step (by assumption) ?_ ?_))); all_goals (first | omega | (simp; done) | (simp; omega))
        have hb67 : Below w6.heap.size w6 (w6.alloc (.cells #[.slice An6 ms.length cn6, .slice Al6 ks.length cl6] 27)) := by (repeat' (first | (with_reducible exact Below.refl _ _) | (with_reducible assumption) | (with_reducible refine Below.drew ?_) | (with_reducible refine below_drewN ?_ _) | (with_reducible refine Below.alloc ?_ ?_ _) | (with_reducible refine Below.setCell ?_ ?_ _) | (with_reducible refine Below.step (by assumption) ?_ ?_))); all_goals (first | omega | (simp; done) | (simp; omega))
        go_wp2_with fail
        refine (iSameWindow_at _ _ _ _ ns ls ms ks b _ (r5n.below hb67) (r5l.below hb67) (r6n.below hb67) (r6l.below hb67) HB).mono ?_
        rintro e w8 ⟨rfl, hb8⟩
        have hz8 := hb8.size
        simp at hz8
        have hb68 : Below w6.heap.size w6 w8 := hb67.trans (hb8.mono (by first | omega | (simp; done) | (simp; omega)))
        have hV8 := hV6.below hb68 (by omega)
        have hW8 := hW6.below hb68 (by omega)
        have hX8 := hX6.below hb68 (by omega)
        have hY8 : Blk w8 w6.heap.size 27 #[.slice An6 ms.length cn6, .slice Al6 ks.length cl6] := Blk.below (Blk.newAt rfl) hb8 (by first | omega | (simp; done) | (simp; omega))
        have hbw8 : Below w.heap.size w w8 := hbw6.trans (hb68.mono (by omega))
        have r8n := r5n.below hb68
        have r8l := r5l.below hb68
        have r9n := r6n.below hb68
        have r9l := r6l.below hb68
        clear hb67 hb68 hb8 hV6 hW6 hX6 hX6' hbw6 hbw7 x_0 x_1 r5n r5l r6n r6l
        (have a_0 := hV8.cell 0); (have a_1 := hV8.cell 1); simp only [List.getElem?_toArray, List.getElem?_cons_succ, List.getElem?_cons_zero] at a_0 a_1
        (have x_0 := hX8.cell 0); (have x_1 := hX8.cell 1); simp only [List.getElem?_toArray, List.getElem?_cons_succ, List.getElem?_cons_zero] at x_0 x_1
        have m1 : w.heap.size < w8.heap.size := by omega
        have m2 : w.heap.size + 1 < w8.heap.size := by omega
        have m3 : w5.heap.size < w8.heap.size := by omega
        have m4 : w6.heap.size < w8.heap.size := by omega
        go_wp2_with fail
        generalize w5.heap.size = B5 at *
        generalize w6.heap.size = B6 at *
        go_region_held3 (fun w' => w'.cell? ⟨w.heap.size, 0, none⟩ = some vn ∧ w'.cell? ⟨w.heap.size, 1, none⟩ = some vl ∧ w'.cell? ⟨B5, 0, none⟩ = some (.slice An5 ns.length cn5) ∧ w'.cell? ⟨B5, 1, none⟩ = some (.slice Al5 ls.length cl5))
          (go_keep)
          (first | (go_at_call 31; refine Calls.mono (toWindow_any vn vl ns ls _ (hn.below ?c1) (hl.below ?c1) s1 s2) ?_; (case c1 => (repeat' (first | (with_reducible exact Below.refl _ _) | (with_reducible assumption) | (with_reducible refine Below.drew ?_) | (with_reducible refine below_drewN ?_ _) | (with_reducible refine Below.alloc ?_ ?_ _) | (with_reducible refine Below.setCell ?_ ?_ _) | (with_reducible refine Below.step (by assumption) ?_ ?_))); all_goals (first | omega | (simp; done) | (simp; omega))); rintro e w9 ⟨An9, cn9, Al9, cl9, rfl, ho9, hb9⟩; (first | (with_reducible have hcf9 := bcell_drew hb9) | have hcf9 := bcell hb9); obtain ⟨hc9, hf9⟩ := hcf9; have hz9 := hb9.size; (try simp at hz9); (try have hp9_0 : w.heap.size < w9.heap.size := by omega); (try have hp9_1 : w.heap.size + 1 < w9.heap.size := by omega); (try have hp9_2 : w.heap.size + 1 + 1 < w9.heap.size := by omega); (try have hp9_3 : w.heap.size + 1 + 1 + 1 < w9.heap.size := by omega); (have mm9 : B5 < w9.heap.size := by omega)) | (go_at_call 33; refine (eqWindow_any _ _ _ _ ns ls _ (r8n.below ?c2) (r8l.below ?c2) (ho9.1.reads) (ho9.2.1.reads)).mono ?_; (case c2 => (repeat' (first | (with_reducible exact Below.refl _ _) | (with_reducible assumption) | (with_reducible refine Below.drew ?_) | (with_reducible refine below_drewN ?_ _) | (with_reducible refine Below.alloc ?_ ?_ _) | (with_reducible refine Below.setCell ?_ ?_ _) | (with_reducible refine Below.step (by assumption) ?_ ?_))); all_goals (first | omega | (simp; done) | (simp; omega))); rintro e w10 ⟨rfl, hb10⟩; (first | (with_reducible have hcf10 := bcell_drew hb10) | have hcf10 := bcell hb10); obtain ⟨hc10, hf10⟩ := hcf10; have hz10 := hb10.size; (try simp at hz10); (try have hp10_0 : w.heap.size < w10.heap.size := by omega); (try have hp10_1 : w.heap.size + 1 < w10.heap.size := by omega); (try have hp10_2 : w.heap.size + 1 + 1 < w10.heap.size := by omega); (try have hp10_3 : w.heap.size + 1 + 1 + 1 < w10.heap.size := by omega)))
        have hb810 : Below w8.heap.size w8 w10 := by
          refine Below.trans ?_ (hb10.mono ?_)
          · (repeat' (first | (with_reducible exact Below.refl _ _) | (with_reducible assumption) | (with_reducible refine Below.drew ?_) | (with_reducible refine below_drewN ?_ _) | (with_reducible refine Below.alloc ?_ ?_ _) | (with_reducible refine Below.setCell ?_ ?_ _) | (with_reducible refine Below.step (by assumption) ?_ ?_))); all_goals (first | omega | (simp; done) | (simp; omega))
          · omega
        have hW10 := hW8.below hb810 m2
        have hY10 := hY8.below hb810 m4
        have hbw10 : Below w.heap.size w w10 := hbw8.trans (hb810.mono (by omega))
        have r10n := r9n.below hb810
        have r10l := r9l.below hb810
        have k1 : w.heap.size + 1 < w10.heap.size := by omega
        have k2 : B6 < w10.heap.size := by omega
        clear hb810 hb9 hb10 hc9 hf9 hc10 hf10 hV8 hX8 hW8 hY8 r8n r8l r9n r9l hbw8 a_0 a_1 x_0 x_1 ho9
        (have a_0 := hW10.cell 0); (have a_1 := hW10.cell 1); simp only [List.getElem?_toArray, List.getElem?_cons_succ, List.getElem?_cons_zero] at a_0 a_1
        (have x_0 := hY10.cell 0); (have x_1 := hY10.cell 1); simp only [List.getElem?_toArray, List.getElem?_cons_succ, List.getElem?_cons_zero] at x_0 x_1
        go_wp2_with fail
        go_region_held3 (fun w' => w'.cell? ⟨w.heap.size + 1, 0, none⟩ = some un ∧ w'.cell? ⟨w.heap.size + 1, 1, none⟩ = some ul ∧ w'.cell? ⟨B6, 0, none⟩ = some (.slice An6 ms.length cn6) ∧ w'.cell? ⟨B6, 1, none⟩ = some (.slice Al6 ks.length cl6))
          (go_keep)
          (first | (go_at_call 31; refine Calls.mono (toWindow_any un ul ms ks _ (hn'.below ?c1) (hl'.below ?c1) s5 s6) ?_; (case c1 => (repeat' (first | (with_reducible exact Below.refl _ _) | (with_reducible assumption) | (with_reducible refine Below.drew ?_) | (with_reducible refine below_drewN ?_ _) | (with_reducible refine Below.alloc ?_ ?_ _) | (with_reducible refine Below.setCell ?_ ?_ _) | (with_reducible refine Below.step (by assumption) ?_ ?_))); all_goals (first | omega | (simp; done) | (simp; omega))); rintro e w11 ⟨An11, cn11, Al11, cl11, rfl, ho11, hb11⟩; (first | (with_reducible have hcf11 := bcell_drew hb11) | have hcf11 := bcell hb11); obtain ⟨hc11, hf11⟩ := hcf11; have hz11 := hb11.size; (try simp at hz11); (try have hp11_0 : w.heap.size < w11.heap.size := by omega); (try have hp11_1 : w.heap.size + 1 < w11.heap.size := by omega); (try have hp11_2 : w.heap.size + 1 + 1 < w11.heap.size := by omega); (try have hp11_3 : w.heap.size + 1 + 1 + 1 < w11.heap.size := by omega); (have mm11 : B6 < w11.heap.size := by omega)) | (go_at_call 33; refine (eqWindow_any _ _ _ _ ms ks _ (r10n.below ?c2) (r10l.below ?c2) (ho11.1.reads) (ho11.2.1.reads)).mono ?_; (case c2 => (repeat' (first | (with_reducible exact Below.refl _ _) | (with_reducible assumption) | (with_reducible refine Below.drew ?_) | (with_reducible refine below_drewN ?_ _) | (with_reducible refine Below.alloc ?_ ?_ _) | (with_reducible refine Below.setCell ?_ ?_ _) | (with_reducible refine Below.step (by assumption) ?_ ?_))); all_goals (first | omega | (simp; done) | (simp; omega))); rintro e w12 ⟨rfl, hb12⟩; (first | (with_reducible have hcf12 := bcell_drew hb12) | have hcf12 := bcell hb12); obtain ⟨hc12, hf12⟩ := hcf12; have hz12 := hb12.size; (try simp at hz12); (try have hp12_0 : w.heap.size < w12.heap.size := by omega); (try have hp12_1 : w.heap.size + 1 < w12.heap.size := by omega); (try have hp12_2 : w.heap.size + 1 + 1 < w12.heap.size := by omega); (try have hp12_3 : w.heap.size + 1 + 1 + 1 < w12.heap.size := by omega)))
        go_wp2
        go_ret
        exact ⟨rfl, by (repeat' (first | (with_reducible exact Below.refl _ _) | (with_reducible assumption) | (with_reducible refine Below.drew ?_) | (with_reducible refine below_drewN ?_ _) | (with_reducible refine Below.alloc ?_ ?_ _) | (with_reducible refine Below.setCell ?_ ?_ _) | (with_reducible refine Below.step (by assumption) ?_ ?_))); all_goals (first | omega | (simp; done) | (simp; omega))⟩

end Go.Proofs.Ytdladmmhmncpoaa
