/-
  FnExactDoAct: The program's DoAct returns what the reference's returns, for all arguments. No condition.
-/
import Derived.Test.YtnjcpljhmhdhkaaGreatUPk36
import Derived.Test.YtnjcpljhmhdhkaaGreatRows
set_option linter.unusedSimpArgs false
set_option linter.unusedVariables false
namespace Go.Proofs.YtnjcpljhmhdhkaaGreat
open Go.ChangeShapes Go.WideShapes Go.ChangeAt Go.RowKit Go.Joins

set_option maxRecDepth 100000 in
theorem doa_lifted (os : Os) (started : os.Started) (H : Type) (enc : TypeId × Value → H) : ReturnsInHanded {} Tryz.checked os 11 .any (Rows.fnExactDoActSpec.pre6 enc Tryz.prog Tryz.f11 Rows.fnExactDoActRow.domain false) (Rows.fnExactDoActSpec.post enc Tryz.prog Tryz.f11 false true false false) := by
  refine returnsInHanded_of_change (C := Tryz.checked) ownK started (by kernel_rfl) Tryz.func11 (ChangeSpec.witness6 (enc := enc) (C := Tryz.checked) false ⟨#[], #[.agg #[.slice none 0 0, .slice none 0 0, .slice none 0 0, .slice none 0 0, .slice none 0 0, .slice none 0 0, .slice none 0 0, .int .i64 0], .agg #[.int .i64 0, .int .i64 0, .int .i64 0]], []⟩ 8 (by kernel_rfl) (by kernel_rfl) (by kernel_rfl) (by kernel_rfl)) ?_
  intro W base args ds gs before hval0 hW hcnd _; have hval : ∀ (j : Nat) t v, Tryz.f11.params[j]? = some t → args[j]? = some v → Value.okWide Tryz.prog W .any base t v := hval0; have hW' := hW; obtain ⟨p, q, hA0, hV, rfl, hfz, hnd⟩ := hW; have hA : DataW.TrodAll enc Tryz.prog W 0 (fun _ => true) true Tryz.f11.params.toList args.toList ds p := hA0; rw [Tryz.params11] at hA hval
  obtain ⟨v0, v1, d0, d1, p0, p1, rfl, rfl, rfl, h0, h1⟩ := trodAll_two hA
  obtain ⟨x00, x01, x02, x03, x04, x05, x06, S0, rfl, hs0⟩ := zaA (hval 0 61 v0 rfl rfl) h0
  obtain ⟨c00, c01, c02, y00, y01, y02, m0, rfl, hdd, hpp, hy00, hy01, hy02⟩ := open_agg3 Tryz.underlying90 (by kernel_rfl) (by kernel_rfl) (hval 1 90 v1 rfl rfl) h1
  obtain ⟨a00, e00, hp0, wa00⟩ := DataW.trod_int Tryz.underlying3 hy00
  obtain ⟨a01, e01, hp1, wa01⟩ := DataW.trod_int Tryz.underlying3 hy01
  obtain ⟨a02, e02, hp2, wa02⟩ := DataW.trod_int Tryz.underlying3 hy02
  simp at e00 e01 e02
  subst e00 e01 e02
  refine (JR _ _ _ _ _ _ _ S0 _ _ _ W hs0).mono fun e W' ⟨he, hb⟩ => ?_
  subst he
  exact ⟨_, rfl, zbj zbg Tryz.underlying4 rfl rfl (fun ds h => by match ds, h with | [_, _], _ => rfl) (by rw [Tryz.params11]; simp only [List.mem_cons, List.mem_nil_iff, or_false, forall_eq_or_imp, forall_eq]; repeat (first | exact ⟨by kernel_rfl, of_decide_eq_true (by kernel_rfl)⟩ | refine ⟨⟨by kernel_rfl, of_decide_eq_true (by kernel_rfl)⟩, ?_⟩)) hW' rfl hb⟩

set_option maxHeartbeats 8000000 in
theorem doa_holds : Rows.FnExactDoActSaid :=
  OpenClaim.holds_of_wide 11 Tryz.f11 rfl rfl rfl rfl rfl rfl rfl ⟨rfl, rfl, rfl, rfl, rfl⟩ rfl rfl rfl rfl rfl (by as_aux_lemma => kernel_rfl) Tryz.func11 (by show joinedFacts Tryz.prog 11 Tryz.f11 Rows.fnExactDoActSpec Rows.fnExactDoActRow = true; unfold joinedFacts; simp only [Bool.and_eq_true]; (repeat' apply And.intro); all_goals first | with_reducible exact zbg | with_reducible exact zaR | with_reducible exact zbb | with_reducible exact zbl rfl | with_reducible exact zbk rfl | as_aux_lemma => kernel_rfl) (by as_aux_lemma => exact of_decide_eq_true (by kernel_rfl)) (by unfold Func.isWrapper; rw [if_neg (by as_aux_lemma => exact of_decide_eq_false (by kernel_rfl))]; exact ⟨rfl, rfl⟩) (fun os started H enc _ => doa_lifted os started H enc)

end Go.Proofs.YtnjcpljhmhdhkaaGreat
