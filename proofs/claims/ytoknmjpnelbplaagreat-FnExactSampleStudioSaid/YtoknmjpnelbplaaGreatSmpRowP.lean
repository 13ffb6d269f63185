/-
  FnExactSampleStudio: The program's SampleStudio returns what the reference's returns. No condition.
-/
import Derived.Test.YtoknmjpnelbplaaGreatLPk43
import Derived.Test.YtoknmjpnelbplaaGreatRows
set_option linter.unusedSimpArgs false
set_option linter.unusedVariables false
namespace Go.Proofs.YtoknmjpnelbplaaGreat
open Go.ChangeShapes Go.WideShapes Go.ChangeAt Go.RowKit Go.Joins

set_option maxRecDepth 100000 in
theorem smp_lifted (os : Os) (started : os.Started) (H : Type) (enc : TypeId × Value → H) : ReturnsInHanded {} Tryz.checked os 5 .any (Rows.fnExactSampleStudioSpec.pre6 enc Tryz.prog Tryz.f5 Rows.fnExactSampleStudioRow.domain false) (Rows.fnExactSampleStudioSpec.post enc Tryz.prog Tryz.f5 false true false false) := by
  refine returnsInHanded_of_change (C := Tryz.checked) ownK started (by kernel_rfl) Tryz.func5 (ChangeSpec.witness6 (enc := enc) (C := Tryz.checked) false ⟨#[], #[], []⟩ 0 (by kernel_rfl) (by kernel_rfl) (by kernel_rfl) (by kernel_rfl)) ?_
  intro W base args ds gs before hval0 hW hcnd _; have hval : ∀ (j : Nat) t v, Tryz.f5.params[j]? = some t → args[j]? = some v → Value.okWide Tryz.prog W .any base t v := hval0; have hW' := hW; obtain ⟨p, q, hA0, hV, rfl, hfz, hnd⟩ := hW; have hA : DataW.TrodAll enc Tryz.prog W 0 (fun _ => true) true Tryz.f5.params.toList args.toList ds p := hA0; rw [Tryz.params5] at hA hval
  obtain ⟨ha, rfl, rfl⟩ := trodAll_nil hA
  obtain rfl : args = #[] := by cases args; simp_all
  refine (sampleLaw_any W).mono fun e W' ⟨he, hb⟩ => ?_
  subst he
  exact ⟨_, rfl, law_post laidOutK Tryz.underlying4 rfl rfl (fun ds h => by match ds, h with | [], _ => rfl) (by rw [Tryz.params5]; intro t ht; simp at ht) hW' rfl hb⟩

set_option maxHeartbeats 8000000 in
theorem smp_holds : Rows.FnExactSampleStudioSaid :=
  OpenClaim.holds_of_wide 5 Tryz.f5 rfl rfl rfl rfl rfl rfl rfl ⟨rfl, rfl, rfl, rfl, rfl⟩ rfl rfl rfl rfl rfl (by as_aux_lemma => kernel_rfl) Tryz.func5 (by show joinedFacts Tryz.prog 5 Tryz.f5 Rows.fnExactSampleStudioSpec Rows.fnExactSampleStudioRow = true; unfold joinedFacts; simp only [Bool.and_eq_true]; (repeat' apply And.intro); all_goals first | with_reducible exact laidOutK | with_reducible exact mapsRowedK | with_reducible exact mayEnterK | with_reducible exact lift_eq rfl | with_reducible exact make_eq rfl | as_aux_lemma => kernel_rfl) (by as_aux_lemma => exact of_decide_eq_true (by kernel_rfl)) (by unfold Func.isWrapper; rw [if_neg (by as_aux_lemma => exact of_decide_eq_false (by kernel_rfl))]; exact ⟨rfl, rfl⟩) (fun os started H enc _ => smp_lifted os started H enc)

end Go.Proofs.YtoknmjpnelbplaaGreat
