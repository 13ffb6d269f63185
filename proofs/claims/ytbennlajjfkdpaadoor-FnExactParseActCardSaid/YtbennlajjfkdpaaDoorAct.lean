/-
  Acts: the test of the program and that of the reference.
-/
import Derived.Test.YtbennlajjfkdpaaDoorSmall
set_option linter.unusedSimpArgs false
set_option linter.unusedVariables false
namespace Go.Proofs.YtbennlajjfkdpaaDoor
open Go.RowKit



def actB (k a b : Int) : Bool :=
  if k == 1 || k == 6 then inB a 0 40 && inB b 0 40
  else if k == 7 then inB a 0 40 && inB b 1 50
  else if k == 2 || k == 3 || k == 5 || k == 8 then inB a 0 40 && b == 0
  else if k == 4 || k == 9 then a == 0 && b == 0
  else false

set_option maxHeartbeats 2000000 in
theorem iActOk_any (k a b : Int) (w : World) :
    Calls Tryd.prog 38 #[.agg #[.int .i64 k, .int .i64 a, .int .i64 b]] w fun e w' => e = .returned (.bool (actB k a b)) ∧ Below w.heap.size w w' := by
  go_enter Tryd.func38, Tryd.ntmps38
  go_wp2_with (go_at_call 49; refine (within_any _ _ _ _).mono ?_; rintro e w' ⟨rfl, rfl⟩)
  all_goals go_ret
  all_goals refine ⟨ret_bool ?_, by exact bel_⟩
  all_goals simp_all [actB]

set_option maxHeartbeats 2000000 in
theorem sActOk_any (k a b : Int) (w : World) :
    Calls Tryd.prog 35 #[.agg #[.int .i64 k, .int .i64 a, .int .i64 b]] w fun e w' => e = .returned (.bool (actB k a b)) ∧ Below w.heap.size w w' := by
  go_enter Tryd.func35, Tryd.ntmps35
  go_wp2_with (go_at_call 14; refine (l01In_any _ _ _ _).mono ?_; rintro e w' ⟨rfl, rfl⟩)
  all_goals go_ret
  all_goals refine ⟨ret_bool ?_, by exact bel_⟩
  all_goals simp_all [actB]



end Go.Proofs.YtbennlajjfkdpaaDoor
