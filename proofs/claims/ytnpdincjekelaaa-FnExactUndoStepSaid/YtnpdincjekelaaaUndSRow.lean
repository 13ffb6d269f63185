/-
  FnExactUndoStep: The program's UndoStep returns what the reference's returns, for all arguments. No condition.
-/
import Derived.Test.YtnpdincjekelaaaUndSL
import Derived.Test.YtnpdincjekelaaaLaw
set_option linter.unusedSimpArgs false
set_option linter.unusedVariables false
namespace Go.Proofs.Ytnpdincjekelaaa
open Go.ChangeShapes Go.WideShapes Go.ChangeAt Go.RowKit Go.Joins

set_option maxRecDepth 100000 in
theorem unds_lifted (os : Os) (started : os.Started) (H : Type) (enc : TypeId × Value → H) : ReturnsInHanded {} Try.checked os 9 .any (Rows.fnExactUndoStepSpec.pre6 enc Try.prog Try.f9 Rows.fnExactUndoStepRow.domain false) (Rows.fnExactUndoStepSpec.post enc Try.prog Try.f9 false true false false) := by
  refine returnsInHanded_of_change (C := Try.checked) ownK started (by kernel_rfl) Try.func9 (ChangeSpec.witness6 (enc := enc) (C := Try.checked) false ⟨#[], #[.agg #[.slice none 0 0, .slice none 0 0, .slice none 0 0, .slice none 0 0, .slice none 0 0]], []⟩ 8 (by kernel_rfl) (by kernel_rfl) (by kernel_rfl) (by kernel_rfl)) ?_
  intro W base args ds gs before hval0 hW hcnd _; have hval : ∀ (j : Nat) t v, Try.f9.params[j]? = some t → args[j]? = some v → Value.okWide Try.prog W .any base t v := hval0; have hW' := hW; obtain ⟨p, q, hA0, hV, rfl, hfz, hnd⟩ := hW; have hA : DataW.TrodAll enc Try.prog W 0 (fun _ => true) true Try.f9.params.toList args.toList ds p := hA0; rw [Try.params9] at hA hval
  obtain ⟨v0, d0, rfl, rfl, h0⟩ := trodAll_one hA
  obtain ⟨x00, x01, x02, x03, x04, D0, rfl, hd0⟩ := open_draft (hval 0 54 v0 rfl rfl) h0
  refine (undoStepLaw_any _ _ _ _ _ D0 W hd0).mono fun e W' ⟨he, hb⟩ => ?_
  subst he
  exact ⟨_, rfl, law_post laidOutK Try.underlying4 rfl rfl (fun ds h => by match ds, h with | [_], _ => rfl) (by rw [Try.params9]; simp only [List.mem_cons, List.mem_nil_iff, or_false, forall_eq_or_imp, forall_eq]; repeat (first | exact ⟨by kernel_rfl, of_decide_eq_true (by kernel_rfl)⟩ | refine ⟨⟨by kernel_rfl, of_decide_eq_true (by kernel_rfl)⟩, ?_⟩)) hW' rfl hb⟩

set_option maxHeartbeats 8000000 in
theorem unds_holds : Rows.FnExactUndoStepSaid :=
  OpenClaim.holds_of_wide 9 Try.f9 rfl rfl rfl rfl rfl rfl rfl ⟨rfl, rfl, rfl, rfl, rfl⟩ rfl rfl rfl rfl rfl (by as_aux_lemma => kernel_rfl) Try.func9 (by show joinedFacts Try.prog 9 Try.f9 Rows.fnExactUndoStepSpec Rows.fnExactUndoStepRow = true; unfold joinedFacts; simp only [Bool.and_eq_true]; (repeat' apply And.intro); all_goals first | with_reducible exact laidOutK | with_reducible exact mapsRowedK | with_reducible exact mayEnterK | with_reducible exact lift_eq rfl | with_reducible exact make_eq rfl | as_aux_lemma => kernel_rfl) (by as_aux_lemma => exact of_decide_eq_true (by kernel_rfl)) (by unfold Func.isWrapper; rw [if_neg (by as_aux_lemma => exact of_decide_eq_false (by kernel_rfl))]; exact ⟨rfl, rfl⟩) (fun os started H enc _ => unds_lifted os started H enc)

end Go.Proofs.Ytnpdincjekelaaa
