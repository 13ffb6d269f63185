/-
  Recipes: the tests, the distance, and the conversions.
-/
import Derived.Test.YtloicjmnedipaaaSmall
import Derived.Deep.QuietTactic
import Derived.BigQuiet
set_option linter.unusedSimpArgs false
set_option linter.unusedVariables false
namespace Go.Proofs.Ytloicjmnedipaaa
open Go.RowKit

def recipeB (a b c d : Int) : Bool := inB a 0 1000 && inB b 0 1000 && inB c 0 1000 && inB d 0 1000 && (a + b + c + d == 1000)
theorem recipeB_bd {a b c d : Int} (h : recipeB a b c d = true) : (0 ≤ a ∧ a ≤ 1000) ∧ (0 ≤ b ∧ b ≤ 1000) ∧ (0 ≤ c ∧ c ≤ 1000) ∧ (0 ≤ d ∧ d ≤ 1000) ∧ a + b + c + d = 1000 := by
  simp [recipeB, inB] at h; omega
def distB (a b c d a' b' c' d' : Int) : Int :=
  if recipeB a b c d && recipeB a' b' c' d' then ((a - a').natAbs : Int) + ((b - b').natAbs : Int) + ((c - c').natAbs : Int) + ((d - d').natAbs : Int) else -1

set_option maxHeartbeats 400000 in
theorem toRecipe_any (a b c d : Int) (w : World) :
    Calls Try.prog 27 #[.agg #[.int .i64 a, .int .i64 b, .int .i64 c, .int .i64 d]] w fun e w' => e = .returned (.agg #[.int .i64 a, .int .i64 b, .int .i64 c, .int .i64 d]) ∧ Below w.heap.size w w' := by
  go_enter Try.func27, Try.ntmps27
  go_wp2
  exact bodyPost_ret (v := .agg #[.int .i64 a, .int .i64 b, .int .i64 c, .int .i64 d]) (by simp [results, Try.results27, go_sem]) rfl ⟨rfl, by (repeat (first | exact Below.refl _ _ | assumption | refine Below.drew ?_ | refine below_drewN ?_ _ | refine Below.alloc ?_ (by first | omega | (simp; done) | (simp; omega)) _ | refine Below.setCell ?_ (by first | omega | (simp; done) | (simp; omega)) _ | refine Below.step (by assumption) ?_ (by first | omega | (simp; done) | (simp; omega))))⟩

set_option maxHeartbeats 1000000 in
theorem sRecipeOk_any (a b c d : Int) (w : World) :
    Calls Try.prog 26 #[.agg #[.int .i64 a, .int .i64 b, .int .i64 c, .int .i64 d]] w fun e w' => e = .returned (.bool (recipeB a b c d)) ∧ Below w.heap.size w w' := by
  by_cases h : inB a 0 1000 = true ∧ inB b 0 1000 = true ∧ inB c 0 1000 = true ∧ inB d 0 1000 = true
  · obtain ⟨ha, hb, hc, hd⟩ := h
    have b1 := inB_true.1 ha
    have b2 := inB_true.1 hb
    have b3 := inB_true.1 hc
    have b4 := inB_true.1 hd
    have hr : recipeB a b c d = (a + b + c + d == 1000) := by simp [recipeB, ha, hb, hc, hd]
    have HR := Lib.hid hr
    clear hr
    obtain ⟨b11, b12⟩ := b1
    obtain ⟨b21, b22⟩ := b2
    obtain ⟨b31, b32⟩ := b3
    obtain ⟨b41, b42⟩ := b4
    go_enter Try.func26, Try.ntmps26
    go_wp2_with (go_at_call 99; refine (l01In_any _ _ _ _).mono ?_; rintro e w' ⟨rfl, rfl⟩)
    all_goals go_ret
    all_goals exact ⟨ret_bool HR.out.symm, by (repeat (first | exact Below.refl _ _ | assumption | refine Below.drew ?_ | refine below_drewN ?_ _ | refine Below.alloc ?_ (by first | omega | (simp; done) | (simp; omega)) _ | refine Below.setCell ?_ (by first | omega | (simp; done) | (simp; omega)) _ | refine Below.step (by assumption) ?_ (by first | omega | (simp; done) | (simp; omega))))⟩
  · have hr : recipeB a b c d = false := by
      cases h1 : inB a 0 1000 <;> cases h2 : inB b 0 1000 <;> cases h3 : inB c 0 1000 <;> cases h4 : inB d 0 1000 <;> simp_all [recipeB]
    have HR := Lib.hid hr
    clear hr
    have HN := Lib.hid h
    clear h
    go_enter Try.func26, Try.ntmps26
    go_wp2_with (go_at_call 99; refine (l01In_any _ _ _ _).mono ?_; rintro e w' ⟨rfl, rfl⟩)
    all_goals first
      | (go_ret; exact ⟨ret_bool HR.out.symm, by (repeat (first | exact Below.refl _ _ | assumption | refine Below.drew ?_ | refine below_drewN ?_ _ | refine Below.alloc ?_ (by first | omega | (simp; done) | (simp; omega)) _ | refine Below.setCell ?_ (by first | omega | (simp; done) | (simp; omega)) _ | refine Below.step (by assumption) ?_ (by first | omega | (simp; done) | (simp; omega))))⟩)
      | (exfalso; exact HN.out ⟨by assumption, by assumption, by assumption, not_false_of (by assumption)⟩)

set_option maxHeartbeats 1000000 in
theorem iRecipeOk_any (a b c d : Int) (w : World) :
    Calls Try.prog 28 #[.agg #[.int .i64 a, .int .i64 b, .int .i64 c, .int .i64 d]] w fun e w' => e = .returned (.bool (recipeB a b c d)) ∧ Below w.heap.size w w' := by
  have hall : [a, b, c, d].all (inB · 0 1000) = (inB a 0 1000 && inB b 0 1000 && inB c 0 1000 && inB d 0 1000) := by simp [Bool.and_assoc]
  cases hq : (inB a 0 1000 && inB b 0 1000 && inB c 0 1000 && inB d 0 1000)
  · have hr : recipeB a b c d = false := by simp [recipeB, hq]
    have HR := Lib.hid hr
    have HQ := Lib.hid (hall.trans hq)
    clear hr hq hall
    go_enter Try.func28, Try.ntmps28
    go_wp2_with fail
    refine (allWithin_any _ [a, b, c, d] _ _ _ (RI_lit (by simp) (by simp [vI]) rfl rfl (by simp [maxLen]))).mono ?_
    rintro e w' ⟨rfl, rfl⟩
    rw [HQ.out]
    go_wp2
    go_ret
    exact ⟨ret_bool HR.out.symm, by (repeat (first | exact Below.refl _ _ | assumption | refine Below.drew ?_ | refine below_drewN ?_ _ | refine Below.alloc ?_ (by first | omega | (simp; done) | (simp; omega)) _ | refine Below.setCell ?_ (by first | omega | (simp; done) | (simp; omega)) _ | refine Below.step (by assumption) ?_ (by first | omega | (simp; done) | (simp; omega))))⟩
  · have hr : recipeB a b c d = (a + b + c + d == 1000) := by simp [recipeB, hq]
    have hbd : (0 ≤ a ∧ a ≤ 1000) ∧ (0 ≤ b ∧ b ≤ 1000) ∧ (0 ≤ c ∧ c ≤ 1000) ∧ (0 ≤ d ∧ d ≤ 1000) := by simp [inB] at hq; omega
    have HR := Lib.hid hr
    have HQ := Lib.hid (hall.trans hq)
    clear hr hq hall
    obtain ⟨⟨b11, b12⟩, ⟨b21, b22⟩, ⟨b31, b32⟩, ⟨b41, b42⟩⟩ := hbd
    go_enter Try.func28, Try.ntmps28
    go_wp2_with fail
    refine (allWithin_any _ [a, b, c, d] _ _ _ (RI_lit (by simp) (by simp [vI]) rfl rfl (by simp [maxLen]))).mono ?_
    rintro e w' ⟨rfl, rfl⟩
    rw [HQ.out]
    go_wp2
    go_ret
    exact ⟨ret_bool HR.out.symm, by (repeat (first | exact Below.refl _ _ | assumption | refine Below.drew ?_ | refine below_drewN ?_ _ | refine Below.alloc ?_ (by first | omega | (simp; done) | (simp; omega)) _ | refine Below.setCell ?_ (by first | omega | (simp; done) | (simp; omega)) _ | refine Below.step (by assumption) ?_ (by first | omega | (simp; done) | (simp; omega))))⟩

set_option maxHeartbeats 1000000 in
theorem recipeLaw_any (a b c d : Int) (w : World) :
    Calls Try.prog 4 #[.agg #[.int .i64 a, .int .i64 b, .int .i64 c, .int .i64 d]] w fun e w' => e = .returned (.bool true) ∧ Below w.heap.size w w' := by
  go_enter Try.func4, Try.ntmps4
  go_wp2_with fail
  refine (toRecipe_any _ _ _ _ _).mono ?_
  rintro e w1 ⟨rfl, hb1⟩; (first | (with_reducible have hcf1 := bcell_drew hb1) | have hcf1 := bcell hb1); obtain ⟨hc1, hf1⟩ := hcf1; have hz1 := hb1.size; (try simp at hz1); (try have hp1_0 : w.heap.size < w1.heap.size := by omega); (try have hp1_1 : w.heap.size + 1 < w1.heap.size := by omega); (try have hp1_2 : w.heap.size + 2 < w1.heap.size := by omega)
  go_wp2_with fail
  refine (sRecipeOk_any _ _ _ _ _).mono ?_
  rintro e w2 ⟨rfl, hb2⟩; (first | (with_reducible have hcf2 := bcell_drew hb2) | have hcf2 := bcell hb2); obtain ⟨hc2, hf2⟩ := hcf2; have hz2 := hb2.size; (try simp at hz2); (try have hp2_0 : w.heap.size < w2.heap.size := by omega); (try have hp2_1 : w.heap.size + 1 < w2.heap.size := by omega); (try have hp2_2 : w.heap.size + 2 < w2.heap.size := by omega)
  go_wp2_with fail
  refine (toRecipe_any _ _ _ _ _).mono ?_
  rintro e w3 ⟨rfl, hb3⟩; (first | (with_reducible have hcf3 := bcell_drew hb3) | have hcf3 := bcell hb3); obtain ⟨hc3, hf3⟩ := hcf3; have hz3 := hb3.size; (try simp at hz3); (try have hp3_0 : w.heap.size < w3.heap.size := by omega); (try have hp3_1 : w.heap.size + 1 < w3.heap.size := by omega); (try have hp3_2 : w.heap.size + 2 < w3.heap.size := by omega)
  go_wp2_with fail
  refine (iRecipeOk_any _ _ _ _ _).mono ?_
  rintro e w4 ⟨rfl, hb4⟩; (first | (with_reducible have hcf4 := bcell_drew hb4) | have hcf4 := bcell hb4); obtain ⟨hc4, hf4⟩ := hcf4; have hz4 := hb4.size; (try simp at hz4); (try have hp4_0 : w.heap.size < w4.heap.size := by omega); (try have hp4_1 : w.heap.size + 1 < w4.heap.size := by omega); (try have hp4_2 : w.heap.size + 2 < w4.heap.size := by omega)
  go_wp2
  go_ret
  exact ⟨rfl, by (repeat (first | exact Below.refl _ _ | assumption | refine Below.drew ?_ | refine below_drewN ?_ _ | refine Below.alloc ?_ (by first | omega | (simp; done) | (simp; omega)) _ | refine Below.setCell ?_ (by first | omega | (simp; done) | (simp; omega)) _ | refine Below.step (by assumption) ?_ (by first | omega | (simp; done) | (simp; omega))))⟩

end Go.Proofs.Ytloicjmnedipaaa
