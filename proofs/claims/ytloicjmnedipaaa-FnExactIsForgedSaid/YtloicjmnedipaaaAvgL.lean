/-
  The law of the average, walked.
-/
import Derived.Test.YtloicjmnedipaaaAvgI
import Derived.Test.YtloicjmnedipaaaToRecs
set_option linter.unusedSimpArgs false
set_option linter.unusedVariables false
namespace Go.Proofs.Ytloicjmnedipaaa
open Go.RowKit

theorem sAvg_at (v : Value) (l : List Rc) (s a b c : Int) (t : Bool) (w : World) (h : RR w v l) (hx : Hid (avgF l = (⟨s, a, b, c⟩, t))) :
    Calls Try.prog 40 #[v] w fun e w' => e = .returned (.tuple #[.agg #[.int .i64 s, .int .i64 a, .int .i64 b, .int .i64 c], .bool t]) ∧ Below w.heap.size w w' :=
  (sAvg_any v l w h).mono fun e w' ⟨he, hw⟩ => ⟨he.trans (by rw [hx.out]; rfl), hw⟩
theorem iAvg_at (v : Value) (l : List Rc) (s a b c : Int) (t : Bool) (w : World) (h : RR w v l) (hx : Hid (avgF l = (⟨s, a, b, c⟩, t))) :
    Calls Try.prog 42 #[v] w fun e w' => e = .returned (.tuple #[.agg #[.int .i64 s, .int .i64 a, .int .i64 b, .int .i64 c], .bool t]) ∧ Below w.heap.size w w' :=
  (iAvg_any v l w h).mono fun e w' ⟨he, hw⟩ => ⟨he.trans (by rw [hx.out]; rfl), hw⟩
theorem eqRecipe_same (a b c d : Int) (w : World) :
    Calls Try.prog 43 #[.agg #[.int .i64 a, .int .i64 b, .int .i64 c, .int .i64 d], .agg #[.int .i64 a, .int .i64 b, .int .i64 c, .int .i64 d]] w
      fun e w' => e = .returned (.bool true) ∧ Below w.heap.size w w' :=
  (eqRecipe_any a b c d a b c d w).mono fun e w' ⟨he, hw⟩ => ⟨he.trans (by simp), hw⟩
theorem szRecipeS_less (v : Value) (l : List Rc) (w : World) (h : RR w v l) (hlt : 1048576 < l.length) :
    Calls Try.prog 39 #[v, .int .i64 1048576] w fun e w' => e = .returned (.int .i64 (-1)) ∧ w = w' :=
  (szRecipeS_any v l 1048576 w h (by omega) (by omega)).mono fun e w' ⟨he, hw⟩ => ⟨he.trans (ret_int (by unfold szF; rw [if_pos (by omega)])), hw⟩
theorem szRecipeS_more (v : Value) (l : List Rc) (w : World) (h : RR w v l) (hlt : l.length ≤ 1048576) :
    Calls Try.prog 39 #[v, .int .i64 1048576] w fun e w' => e = .returned (.int .i64 (1048576 - l.length)) ∧ w = w' :=
  (szRecipeS_any v l 1048576 w h (by omega) (by omega)).mono fun e w' ⟨he, hw⟩ => ⟨he.trans (ret_int (by unfold szF; rw [if_neg (by omega)])), hw⟩

set_option maxHeartbeats 4000000 in
set_option maxRecDepth 100000 in
theorem avgLaw_any (v : Value) (l : List Rc) (w : World) (h : RR w v l) :
    Calls Try.prog 8 #[v] w fun e w' => e = .returned (.bool true) ∧ Below w.heap.size w w' := by
  by_cases hbig : 1048576 < l.length
  · go_enter Try.func8, Try.ntmps8
    go_wp2_with fail
    refine (szRecipeS_less v l _ h hbig).mono ?_
    rintro e w' ⟨rfl, rfl⟩
    go_wp2
    go_ret
    exact ⟨rfl, Below.refl _ _⟩
  · have hle : l.length ≤ 1048576 := by omega
    have hpos : ¬ (1048576 : Int) - l.length < 0 := by omega
    have hpos2 : (0 : Int) ≤ 1048576 - l.length := by omega
    obtain ⟨⟨⟨s, a, b, c⟩, t⟩, hx⟩ : ∃ x, avgF l = x := ⟨_, rfl⟩
    have HX := Lib.hid hx
    clear hx
    go_enter Try.func8, Try.ntmps8
    go_wp2_with fail
    refine (szRecipeS_more v l _ h hle).mono ?_
    rintro e w' ⟨rfl, rfl⟩
    go_wp2_with fail
    refine (toRecipeS_any v l _ h hle).mono ?_
    rintro e w1 ⟨v1, rfl, ho1, hb1⟩; (first | (with_reducible have hcf1 := bcell_drew hb1) | have hcf1 := bcell hb1); obtain ⟨hc1, hf1⟩ := hcf1; have hz1 := hb1.size; (try simp at hz1); (try have hp1_0 : w.heap.size < w1.heap.size := by omega); (try have hp1_1 : w.heap.size + 1 < w1.heap.size := by omega); (try have hp1_2 : w.heap.size + 2 < w1.heap.size := by omega)
    go_wp2_with fail
    refine (sAvg_at _ l s a b c t _ ho1.reads HX).mono ?_
    rintro e w2 ⟨rfl, hb2⟩; (first | (with_reducible have hcf2 := bcell_drew hb2) | have hcf2 := bcell hb2); obtain ⟨hc2, hf2⟩ := hcf2; have hz2 := hb2.size; (try simp at hz2); (try have hp2_0 : w.heap.size < w2.heap.size := by omega); (try have hp2_1 : w.heap.size + 1 < w2.heap.size := by omega); (try have hp2_2 : w.heap.size + 2 < w2.heap.size := by omega)
    go_wp2_with fail
    refine (toRecipeS_any v l _ (h.below (by (repeat (first | exact Below.refl _ _ | assumption | refine Below.drew ?_ | refine below_drewN ?_ _ | refine Below.alloc ?_ (by first | omega | (simp; done) | (simp; omega)) _ | refine Below.setCell ?_ (by first | omega | (simp; done) | (simp; omega)) _ | refine Below.step (by assumption) ?_ (by first | omega | (simp; done) | (simp; omega)) | refine Below.mark (by assumption) (by assumption) ?_ (by first | omega | (simp; done) | (simp; omega)) (by first | omega | (simp; done) | (simp; omega)))))) hle).mono ?_
    rintro e w3 ⟨v3, rfl, ho3, hb3⟩; (first | (with_reducible have hcf3 := bcell_drew hb3) | have hcf3 := bcell hb3); obtain ⟨hc3, hf3⟩ := hcf3; have hz3 := hb3.size; (try simp at hz3); (try have hp3_0 : w.heap.size < w3.heap.size := by omega); (try have hp3_1 : w.heap.size + 1 < w3.heap.size := by omega); (try have hp3_2 : w.heap.size + 2 < w3.heap.size := by omega)
    go_wp2_with fail
    refine (iAvg_at _ l s a b c t _ ho3.reads HX).mono ?_
    rintro e w4 ⟨rfl, hb4⟩; (first | (with_reducible have hcf4 := bcell_drew hb4) | have hcf4 := bcell hb4); obtain ⟨hc4, hf4⟩ := hcf4; have hz4 := hb4.size; (try simp at hz4); (try have hp4_0 : w.heap.size < w4.heap.size := by omega); (try have hp4_1 : w.heap.size + 1 < w4.heap.size := by omega); (try have hp4_2 : w.heap.size + 2 < w4.heap.size := by omega)
    have hp0 : w2.heap.size < w3.heap.size := by omega
    have hp1 : w2.heap.size < w4.heap.size := by omega
    go_wp2_with fail
    refine (eqRecipe_same _ _ _ _ _).mono ?_
    rintro e w5 ⟨rfl, hb5⟩; (first | (with_reducible have hcf5 := bcell_drew hb5) | have hcf5 := bcell hb5); obtain ⟨hc5, hf5⟩ := hcf5; have hz5 := hb5.size; (try simp at hz5); (try have hp5_0 : w.heap.size < w5.heap.size := by omega); (try have hp5_1 : w.heap.size + 1 < w5.heap.size := by omega); (try have hp5_2 : w.heap.size + 2 < w5.heap.size := by omega)
    go_wp2_with fail
    refine (toRecipeS_any v l _ (h.below (by (repeat (first | exact Below.refl _ _ | assumption | refine Below.drew ?_ | refine below_drewN ?_ _ | refine Below.alloc ?_ (by first | omega | (simp; done) | (simp; omega)) _ | refine Below.setCell ?_ (by first | omega | (simp; done) | (simp; omega)) _ | refine Below.step (by assumption) ?_ (by first | omega | (simp; done) | (simp; omega)) | refine Below.mark (by assumption) (by assumption) ?_ (by first | omega | (simp; done) | (simp; omega)) (by first | omega | (simp; done) | (simp; omega)))))) hle).mono ?_
    rintro e w6 ⟨v6, rfl, ho6, hb6⟩; (first | (with_reducible have hcf6 := bcell_drew hb6) | have hcf6 := bcell hb6); obtain ⟨hc6, hf6⟩ := hcf6; have hz6 := hb6.size; (try simp at hz6); (try have hp6_0 : w.heap.size < w6.heap.size := by omega); (try have hp6_1 : w.heap.size + 1 < w6.heap.size := by omega); (try have hp6_2 : w.heap.size + 2 < w6.heap.size := by omega)
    have hb36 : Below w3.heap.size w3 w6 := by (repeat (first | exact Below.refl _ _ | assumption | refine Below.drew ?_ | refine below_drewN ?_ _ | refine Below.alloc ?_ (by first | omega | (simp; done) | (simp; omega)) _ | refine Below.setCell ?_ (by first | omega | (simp; done) | (simp; omega)) _ | refine Below.step (by assumption) ?_ (by first | omega | (simp; done) | (simp; omega)) | refine Below.mark (by assumption) (by assumption) ?_ (by first | omega | (simp; done) | (simp; omega)) (by first | omega | (simp; done) | (simp; omega))))
    go_wp2_with fail
    refine (eqRecipeS_any _ _ l _ (ho3.reads.below hb36) ho6.reads).mono ?_
    rintro e w7 ⟨rfl, hb7⟩; (first | (with_reducible have hcf7 := bcell_drew hb7) | have hcf7 := bcell hb7); obtain ⟨hc7, hf7⟩ := hcf7; have hz7 := hb7.size; (try simp at hz7); (try have hp7_0 : w.heap.size < w7.heap.size := by omega); (try have hp7_1 : w.heap.size + 1 < w7.heap.size := by omega); (try have hp7_2 : w.heap.size + 2 < w7.heap.size := by omega)
    go_wp2
    go_ret
    exact ⟨rfl, by (repeat (first | exact Below.refl _ _ | assumption | refine Below.drew ?_ | refine below_drewN ?_ _ | refine Below.alloc ?_ (by first | omega | (simp; done) | (simp; omega)) _ | refine Below.setCell ?_ (by first | omega | (simp; done) | (simp; omega)) _ | refine Below.step (by assumption) ?_ (by first | omega | (simp; done) | (simp; omega)) | refine Below.mark (by assumption) (by assumption) ?_ (by first | omega | (simp; done) | (simp; omega)) (by first | omega | (simp; done) | (simp; omega))))⟩

end Go.Proofs.Ytloicjmnedipaaa
