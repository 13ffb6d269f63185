/-
  FnExactWindowText: the program's WindowText returns what the reference's returns, for all arguments. The library's tables hold what the program's text lays down.
-/
import Derived.Test.YtoghnlcnacocgaaDoorWtxtL
import Derived.Test.YtoghnlcnacocgaaDoorOpenW
import Derived.Test.YtoghnlcnacocgaaDoorDoor
import Derived.Test.YtoghnlcnacocgaaDoorLaw
set_option linter.unusedSimpArgs false
set_option linter.unusedVariables false
namespace Go.Proofs.YtoghnlcnacocgaaDoor
open Go.ChangeShapes Go.WideShapes Go.ChangeAt Go.RowKit Go.Joins

set_option maxRecDepth 100000 in
theorem wtxt_lifted (os : Os) (started : os.Started) (H : Type) (enc : TypeId × Value → H) : ReturnsInHanded {} Tryd.checked os 6 .any (fun w args => (Rows.fnExactWindowTextSpec.pre enc Tryd.prog Tryd.f6 [] false w args ∧ laidMetH Tryd.prog laidK w) ∧ sizedMet enc Tryd.prog Tryd.f6 (OpenSpec.ofChange Rows.fnExactWindowTextSpec) false w args) (Rows.fnExactWindowTextSpec.post enc Tryd.prog Tryd.f6 false true false false) := by
  refine returnsInHanded_of_change_and (C := Tryd.checked) (X := fun w _ => laidMetH Tryd.prog laidK w) (fun _ _ _ hh h => h.of_heap hh) ownK started (by kernel_rfl) Tryd.func6 (ChangeSpec.witness_shaped (enc := enc) (C := Tryd.checked) (os := os) (X := fun w _ => laidMetH Tryd.prog laidK w) false (World.doorLaid Tryd.prog 400 os) #[.agg #[.slice none 0 0, .slice none 0 0]] 8 rfl (World.shaped_of_RefB (by kernel_rfl) (by kernel_rfl)) (by kernel_rfl) (by kernel_rfl) (by kernel_rfl) (door_met os _)) ?_
  intro W base args ds gs before hval0 hW _ _ hL _; have hval : ∀ (j : Nat) t v, Tryd.f6.params[j]? = some t → args[j]? = some v → Value.okWide Tryd.prog W .any base t v := hval0; have hW' := hW; obtain ⟨p, q, hA0, hV, rfl, hfz, hnd⟩ := hW; have hA : DataW.TrodAll enc Tryd.prog W 0 (fun _ => true) true Tryd.f6.params.toList args.toList ds p := hA0; rw [Tryd.params6] at hA hval
  obtain ⟨v0, d0, rfl, rfl, h0⟩ := trodAll_one hA
  obtain ⟨vn0, vl0, ns0, ls0, rfl, hn0, hl0⟩ := open_window (hval 0 45 v0 rfl rfl) h0
  refine (wtxtLaw_any _ _ ns0 ls0 W hn0 hl0).mono fun e W' ⟨he, hb⟩ => ?_
  subst he
  exact ⟨_, rfl, law_post laidOutK Tryd.underlying4 rfl rfl (fun ds h => by match ds, h with | [_], _ => rfl) (by rw [Tryd.params6]; simp only [List.mem_cons, List.mem_nil_iff, or_false, forall_eq_or_imp, forall_eq]; repeat (first | exact ⟨by kernel_rfl, of_decide_eq_true (by kernel_rfl)⟩ | refine ⟨⟨by kernel_rfl, of_decide_eq_true (by kernel_rfl)⟩, ?_⟩)) hW' rfl hb⟩

set_option maxHeartbeats 8000000 in
theorem wtxt_said : Rows.FnExactWindowTextSaid :=
  OpenClaim.holds_of_wide 6 Tryd.f6 rfl rfl rfl rfl rfl rfl rfl ⟨rfl, rfl, rfl, rfl, rfl⟩ rfl rfl rfl rfl rfl (by as_aux_lemma => kernel_rfl) Tryd.func6 (by show joinedFacts Tryd.prog 6 Tryd.f6 Rows.fnExactWindowTextSpec Rows.fnExactWindowTextRow = true; unfold joinedFacts; simp only [Bool.and_eq_true]; (repeat' apply And.intro); all_goals first | with_reducible exact laidOutK | with_reducible exact mapsRowedK | with_reducible exact mayEnterK | with_reducible exact lift_eq rfl | with_reducible exact make_eq rfl | as_aux_lemma => kernel_rfl) (by as_aux_lemma => exact of_decide_eq_true (by kernel_rfl)) (by unfold Func.isWrapper; rw [if_neg (by as_aux_lemma => exact of_decide_eq_false (by kernel_rfl))]; exact ⟨rfl, rfl⟩) (fun os started H enc _ => wtxt_lifted os started H enc)

set_option maxRecDepth 100000 in
theorem wtxt_holds : Rows.FnExactWindowTextCardSaid :=
  Claim7.holds_tied_plain_at .later [] _ true Rows.fnExactWindowTextCard.stood.harness false wtxt_said (fun _ h => by cases h) (by kernel_rfl) (fun _ h => by cases h) fnExactWindowText_row_tie rfl ⟨rfl, rfl⟩ (by kernel_rfl) rfl (fun f fn hf hfn => by (obtain rfl : f = 6 := Option.some.inj ((show Tryd.prog.funcNamed Rows.fnExactWindowTextRow.func = some 6 by kernel_rfl).symm.trans hf) |>.symm); (obtain rfl : fn = Tryd.f6 := (Option.some.inj (Tryd.func6.symm.trans hfn)).symm); exact ⟨by kernel_rfl, fun j t ht => by (rw [Tryd.params6] at ht); (have hm : t ∈ [45] := by simpa using Array.mem_of_getElem? ht); (have hall : ([45].all fun u => !Tryd.prog.wantsStandIn u) = true := by kernel_rfl); exact (show Tryd.prog.wantsStandIn t = false by simpa using List.all_eq_true.1 hall t hm)⟩) (by kernel_rfl)

end Go.Proofs.YtoghnlcnacocgaaDoor
