/-
  Acts: what a valid one is, told small.
-/
import Derived.Test.YtbennlajjfkdpaaDoorAct
set_option linter.unusedSimpArgs false
set_option linter.unusedVariables false
namespace Go.Proofs.YtbennlajjfkdpaaDoor
open Go.RowKit

theorem actB_bd {k a b : Int} (h : actB k a b = true) : (1 ≤ k ∧ k ≤ 9) ∧ (0 ≤ a ∧ a ≤ 40) ∧ 0 ≤ b ∧ b ≤ 50 := by
  unfold actB at h
  split at h
  · rename_i hk
    rw [Bool.or_eq_true, beq_iff_eq, beq_iff_eq] at hk
    rw [Bool.and_eq_true, inB_true, inB_true] at h
    omega
  · split at h
    · rename_i hk
      rw [beq_iff_eq] at hk
      rw [Bool.and_eq_true, inB_true, inB_true] at h
      omega
    · split at h
      · rename_i hk
        simp only [Bool.or_eq_true, beq_iff_eq] at hk
        rw [Bool.and_eq_true, inB_true, beq_iff_eq] at h
        omega
      · split at h
        · rename_i hk
          simp only [Bool.or_eq_true, beq_iff_eq] at hk
          rw [Bool.and_eq_true, beq_iff_eq, beq_iff_eq] at h
          omega
        · cases h

theorem iActOk_at (k a b : Int) (x : Bool) (w : World) (h : actB k a b = x) :
    Calls Tryd.prog 38 #[.agg #[.int .i64 k, .int .i64 a, .int .i64 b]] w fun e w' => e = .returned (.bool x) ∧ Below w.heap.size w w' := by
  subst h; exact iActOk_any k a b w

theorem sActOk_at (k a b : Int) (x : Bool) (w : World) (h : actB k a b = x) :
    Calls Tryd.prog 35 #[.agg #[.int .i64 k, .int .i64 a, .int .i64 b]] w fun e w' => e = .returned (.bool x) ∧ Below w.heap.size w w' := by
  subst h; exact sActOk_any k a b w

end Go.Proofs.YtbennlajjfkdpaaDoor
