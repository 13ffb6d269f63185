/-
  FnExactIsReplay: The program's IsReplay returns what the reference's returns, for all arguments. No condition.
-/
import Derived.Test.YtnjcpljhmhdhkaaGreatUPk39
import Derived.Test.YtnjcpljhmhdhkaaGreatRows
set_option linter.unusedSimpArgs false
set_option linter.unusedVariables false
namespace Go.Proofs.YtnjcpljhmhdhkaaGreat
open Go.ChangeShapes Go.WideShapes Go.ChangeAt Go.RowKit Go.Joins

set_option maxRecDepth 100000 in
theorem isr_lifted (os : Os) (started : os.Started) (H : Type) (enc : TypeId × Value → H) : ReturnsInHanded {} Tryz.checked os 10 .any (Rows.fnExactIsReplaySpec.pre6 enc Tryz.prog Tryz.f10 Rows.fnExactIsReplayRow.domain false) (Rows.fnExactIsReplaySpec.post enc Tryz.prog Tryz.f10 false true false false) := by
  refine returnsInHanded_of_change (C := Tryz.checked) ownK started (by kernel_rfl) Tryz.func10 (ChangeSpec.witness6 (enc := enc) (C := Tryz.checked) false ⟨#[], #[.agg #[.slice none 0 0, .slice none 0 0, .slice none 0 0, .slice none 0 0, .slice none 0 0, .slice none 0 0, .slice none 0 0, .int .i64 0], .slice none 0 0, .slice none 0 0], []⟩ 8 (by kernel_rfl) (by kernel_rfl) (by kernel_rfl) (by kernel_rfl)) ?_
  intro W base args ds gs before hval0 hW hcnd _; have hval : ∀ (j : Nat) t v, Tryz.f10.params[j]? = some t → args[j]? = some v → Value.okWide Tryz.prog W .any base t v := hval0; have hW' := hW; obtain ⟨p, q, hA0, hV, rfl, hfz, hnd⟩ := hW; have hA : DataW.TrodAll enc Tryz.prog W 0 (fun _ => true) true Tryz.f10.params.toList args.toList ds p := hA0; rw [Tryz.params10] at hA hval
  obtain ⟨v0, v1, v2, d0, d1, d2, p0, p1, p2, rfl, rfl, rfl, h0, h1, h2⟩ := trodAll_three hA
  obtain ⟨x00, x01, x02, x03, x04, x05, x06, S0, rfl, hs0⟩ := zaA (hval 0 61 v0 rfl rfl) h0
  obtain ⟨l1, hl1⟩ := zba (hval 1 84 v1 rfl rfl) h1
  obtain ⟨zs2, hz2, _⟩ := V3 Tryz.underlying31 Tryz.underlying3 (by kernel_rfl) (hval 2 31 v2 rfl rfl) h2
  refine (JK _ _ _ _ _ _ _ _ _ S0 l1 zs2 W hs0 hl1 hz2).mono fun e W' ⟨he, hb⟩ => ?_
  subst he
  exact ⟨_, rfl, zbj zbg Tryz.underlying4 rfl rfl (fun ds h => by match ds, h with | [_, _, _], _ => rfl) (by rw [Tryz.params10]; simp only [List.mem_cons, List.mem_nil_iff, or_false, forall_eq_or_imp, forall_eq]; repeat (first | exact ⟨by kernel_rfl, of_decide_eq_true (by kernel_rfl)⟩ | refine ⟨⟨by kernel_rfl, of_decide_eq_true (by kernel_rfl)⟩, ?_⟩)) hW' rfl hb⟩

set_option maxHeartbeats 8000000 in
theorem isr_holds : Rows.FnExactIsReplaySaid :=
  OpenClaim.holds_of_wide 10 Tryz.f10 rfl rfl rfl rfl rfl rfl rfl ⟨rfl, rfl, rfl, rfl, rfl⟩ rfl rfl rfl rfl rfl (by as_aux_lemma => kernel_rfl) Tryz.func10 (by show joinedFacts Tryz.prog 10 Tryz.f10 Rows.fnExactIsReplaySpec Rows.fnExactIsReplayRow = true; unfold joinedFacts; simp only [Bool.and_eq_true]; (repeat' apply And.intro); all_goals first | with_reducible exact zbg | with_reducible exact zaR | with_reducible exact zbb | with_reducible exact zbl rfl | with_reducible exact zbk rfl | as_aux_lemma => kernel_rfl) (by as_aux_lemma => exact of_decide_eq_true (by kernel_rfl)) (by unfold Func.isWrapper; rw [if_neg (by as_aux_lemma => exact of_decide_eq_false (by kernel_rfl))]; exact ⟨rfl, rfl⟩) (fun os started H enc _ => isr_lifted os started H enc)

end Go.Proofs.YtnjcpljhmhdhkaaGreat
