/-
  Recipes: the tests, the distance, and the conversions.
-/
import Derived.Test.YtdladmmhmncpoaaSmall
import Derived.Deep.QuietTactic
import Derived.BigQuiet
set_option linter.unusedSimpArgs false
set_option linter.unusedVariables false
namespace Go.Proofs.Ytdladmmhmncpoaa
open Go.RowKit

def recipeB (a b c d : Int) : Bool := inB a 0 1000 && inB b 0 1000 && inB c 0 1000 && inB d 0 1000 && (a + b + c + d == 1000)

theorem recipeB_bd {a b c d : Int} (h : recipeB a b c d = true) : (0 ≤ a ∧ a ≤ 1000) ∧ (0 ≤ b ∧ b ≤ 1000) ∧ (0 ≤ c ∧ c ≤ 1000) ∧ (0 ≤ d ∧ d ≤ 1000) ∧ a + b + c + d = 1000 := by
  simp [recipeB, inB] at h; omega

def distB (a b c d a' b' c' d' : Int) : Int :=
  if recipeB a b c d && recipeB a' b' c' d' then ((a - a').natAbs : Int) + ((b - b').natAbs : Int) + ((c - c').natAbs : Int) + ((d - d').natAbs : Int) else -1

set_option maxHeartbeats 400000 in
theorem toRecipe_any (a b c d : Int) (w : World) :
    Calls Try.prog 86 #[.agg #[.int .i64 a, .int .i64 b, .int .i64 c, .int .i64 d]] w fun e w' => e = .returned (.agg #[.int .i64 a, .int .i64 b, .int .i64 c, .int .i64 d]) ∧ Below w.heap.size w w' := by
  go_enter Try.func86, Try.ntmps86
  go_wp2
  exact bodyPost_ret (v := .agg #[.int .i64 a, .int .i64 b, .int .i64 c, .int .i64 d]) (by simp [results, Try.results86, go_sem]) rfl ⟨rfl, by (repeat (first | exact Below.refl _ _ | assumption | refine Below.drew ?_ | refine below_drewN ?_ _ | refine Below.alloc ?_ (by first | omega | (simp; done) | (simp; omega)) _ | refine Below.setCell ?_ (by first | omega | (simp; done) | (simp; omega)) _ | refine Below.step (by assumption) ?_ (by first | omega | (simp; done) | (simp; omega)) | refine Below.mark (by assumption) (by assumption) ?_ (by first | omega | (simp; done) | (simp; omega)) (by first | omega | (simp; done) | (simp; omega))))⟩

set_option maxHeartbeats 1000000 in
theorem sRecipeOk_any (a b c d : Int) (w : World) :
    Calls Try.prog 111 #[.agg #[.int .i64 a, .int .i64 b, .int .i64 c, .int .i64 d]] w fun e w' => e = .returned (.bool (recipeB a b c d)) ∧ Below w.heap.size w w' := by
  by_cases h : inB a 0 1000 = true ∧ inB b 0 1000 = true ∧ inB c 0 1000 = true ∧ inB d 0 1000 = true
  · obtain ⟨ha, hb, hc, hd⟩ := h
    have b1 := inB_true.1 ha
    have b2 := inB_true.1 hb
    have b3 := inB_true.1 hc
    have b4 := inB_true.1 hd
    have hr : recipeB a b c d = (a + b + c + d == 1000) := by simp [recipeB, ha, hb, hc, hd]
    have HR := Lib.hid hr
    clear hr
    obtain ⟨b11, b12⟩ := b1
    obtain ⟨b21, b22⟩ := b2
    obtain ⟨b31, b32⟩ := b3
    obtain ⟨b41, b42⟩ := b4
    go_enter Try.func111, Try.ntmps111
    go_wp2_with (go_at_call 62; refine (l01In_any _ _ _ _).mono ?_; rintro e w' ⟨rfl, rfl⟩)
    all_goals go_ret
    all_goals exact ⟨ret_bool HR.out.symm, by (repeat (first | exact Below.refl _ _ | assumption | refine Below.drew ?_ | refine below_drewN ?_ _ | refine Below.alloc ?_ (by first | omega | (simp; done) | (simp; omega)) _ | refine Below.setCell ?_ (by first | omega | (simp; done) | (simp; omega)) _ | refine Below.step (by assumption) ?_ (by first | omega | (simp; done) | (simp; omega)) | refine Below.mark (by assumption) (by assumption) ?_ (by first | omega | (simp; done) | (simp; omega)) (by first | omega | (simp; done) | (simp; omega))))⟩
  · have hr : recipeB a b c d = false := by
      cases h1 : inB a 0 1000 <;> cases h2 : inB b 0 1000 <;> cases h3 : inB c 0 1000 <;> cases h4 : inB d 0 1000 <;> simp_all [recipeB]
    have HR := Lib.hid hr
    clear hr
    have HN := Lib.hid h
    clear h
    go_enter Try.func111, Try.ntmps111
    go_wp2_with (go_at_call 62; refine (l01In_any _ _ _ _).mono ?_; rintro e w' ⟨rfl, rfl⟩)
    all_goals first
      | (go_ret; exact ⟨ret_bool HR.out.symm, by (repeat (first | exact Below.refl _ _ | assumption | refine Below.drew ?_ | refine below_drewN ?_ _ | refine Below.alloc ?_ (by first | omega | (simp; done) | (simp; omega)) _ | refine Below.setCell ?_ (by first | omega | (simp; done) | (simp; omega)) _ | refine Below.step (by assumption) ?_ (by first | omega | (simp; done) | (simp; omega)) | refine Below.mark (by assumption) (by assumption) ?_ (by first | omega | (simp; done) | (simp; omega)) (by first | omega | (simp; done) | (simp; omega))))⟩)
      | (exfalso; exact HN.out ⟨by assumption, by assumption, by assumption, not_false_of (by assumption)⟩)

set_option maxHeartbeats 1000000 in
theorem iRecipeOk_any (a b c d : Int) (w : World) :
    Calls Try.prog 28 #[.agg #[.int .i64 a, .int .i64 b, .int .i64 c, .int .i64 d]] w fun e w' => e = .returned (.bool (recipeB a b c d)) ∧ Below w.heap.size w w' := by
  have hall : [a, b, c, d].all (inB · 0 1000) = (inB a 0 1000 && inB b 0 1000 && inB c 0 1000 && inB d 0 1000) := by simp [Bool.and_assoc]
  cases hq : (inB a 0 1000 && inB b 0 1000 && inB c 0 1000 && inB d 0 1000)
  · have hr : recipeB a b c d = false := by simp [recipeB, hq]
    have HR := Lib.hid hr
    have HQ := Lib.hid (hall.trans hq)
    clear hr hq hall
    go_enter Try.func28, Try.ntmps28
    go_wp2_with fail
    refine (allWithin_any _ [a, b, c, d] _ _ _ (RI_lit (by simp) (by simp [vI]) rfl rfl (by simp [maxLen]))).mono ?_
    rintro e w' ⟨rfl, rfl⟩
    rw [HQ.out]
    go_wp2
    go_ret
    exact ⟨ret_bool HR.out.symm, by (repeat (first | exact Below.refl _ _ | assumption | refine Below.drew ?_ | refine below_drewN ?_ _ | refine Below.alloc ?_ (by first | omega | (simp; done) | (simp; omega)) _ | refine Below.setCell ?_ (by first | omega | (simp; done) | (simp; omega)) _ | refine Below.step (by assumption) ?_ (by first | omega | (simp; done) | (simp; omega)) | refine Below.mark (by assumption) (by assumption) ?_ (by first | omega | (simp; done) | (simp; omega)) (by first | omega | (simp; done) | (simp; omega))))⟩
  · have hr : recipeB a b c d = (a + b + c + d == 1000) := by simp [recipeB, hq]
    have hbd : (0 ≤ a ∧ a ≤ 1000) ∧ (0 ≤ b ∧ b ≤ 1000) ∧ (0 ≤ c ∧ c ≤ 1000) ∧ (0 ≤ d ∧ d ≤ 1000) := by simp [inB] at hq; omega
    have HR := Lib.hid hr
    have HQ := Lib.hid (hall.trans hq)
    clear hr hq hall
    obtain ⟨⟨b11, b12⟩, ⟨b21, b22⟩, ⟨b31, b32⟩, ⟨b41, b42⟩⟩ := hbd
    go_enter Try.func28, Try.ntmps28
    go_wp2_with fail
    refine (allWithin_any _ [a, b, c, d] _ _ _ (RI_lit (by simp) (by simp [vI]) rfl rfl (by simp [maxLen]))).mono ?_
    rintro e w' ⟨rfl, rfl⟩
    rw [HQ.out]
    go_wp2
    go_ret
    exact ⟨ret_bool HR.out.symm, by (repeat (first | exact Below.refl _ _ | assumption | refine Below.drew ?_ | refine below_drewN ?_ _ | refine Below.alloc ?_ (by first | omega | (simp; done) | (simp; omega)) _ | refine Below.setCell ?_ (by first | omega | (simp; done) | (simp; omega)) _ | refine Below.step (by assumption) ?_ (by first | omega | (simp; done) | (simp; omega)) | refine Below.mark (by assumption) (by assumption) ?_ (by first | omega | (simp; done) | (simp; omega)) (by first | omega | (simp; done) | (simp; omega))))⟩



end Go.Proofs.Ytdladmmhmncpoaa
