/-
  The law of the average, walked.
-/
import Derived.Test.YtdladmmhmncpoaaAvgI
import Derived.Test.YtdladmmhmncpoaaToRecs
set_option linter.unusedSimpArgs false
set_option linter.unusedVariables false
namespace Go.Proofs.Ytdladmmhmncpoaa
open Go.RowKit



theorem iAvg_at (v : Value) (l : List Rc) (s a b c : Int) (t : Bool) (w : World) (h : RR w v l) (hx : Hid (avgF l = (⟨s, a, b, c⟩, t))) :
    Calls Try.prog 26 #[v] w fun e w' => e = .returned (.tuple #[.agg #[.int .i64 s, .int .i64 a, .int .i64 b, .int .i64 c], .bool t]) ∧ Below w.heap.size w w' :=
  (iAvg_any v l w h).mono fun e w' ⟨he, hw⟩ => ⟨he.trans (by rw [hx.out]; rfl), hw⟩

theorem eqRecipe_same (a b c d : Int) (w : World) :
    Calls Try.prog 87 #[.agg #[.int .i64 a, .int .i64 b, .int .i64 c, .int .i64 d], .agg #[.int .i64 a, .int .i64 b, .int .i64 c, .int .i64 d]] w
      fun e w' => e = .returned (.bool true) ∧ Below w.heap.size w w' :=
  (eqRecipe_any a b c d a b c d w).mono fun e w' ⟨he, hw⟩ => ⟨he.trans (by simp), hw⟩

theorem szRecipeS_less (v : Value) (l : List Rc) (w : World) (h : RR w v l) (hlt : 1048576 < l.length) :
    Calls Try.prog 34 #[v, .int .i64 1048576] w fun e w' => e = .returned (.int .i64 (-1)) ∧ w = w' :=
  (szRecipeS_any v l 1048576 w h (by omega) (by omega)).mono fun e w' ⟨he, hw⟩ => ⟨he.trans (ret_int (by unfold szF; rw [if_pos (by omega)])), hw⟩

theorem szRecipeS_more (v : Value) (l : List Rc) (w : World) (h : RR w v l) (hlt : l.length ≤ 1048576) :
    Calls Try.prog 34 #[v, .int .i64 1048576] w fun e w' => e = .returned (.int .i64 (1048576 - l.length)) ∧ w = w' :=
  (szRecipeS_any v l 1048576 w h (by omega) (by omega)).mono fun e w' ⟨he, hw⟩ => ⟨he.trans (ret_int (by unfold szF; rw [if_neg (by omega)])), hw⟩



end Go.Proofs.Ytdladmmhmncpoaa
