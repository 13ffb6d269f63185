/-
  Less and greater of two and three ints, as functions that a walk does not open.
-/
import Derived.Test.YtbennlajjfkdpaaDoorBase
set_option linter.unusedSimpArgs false
set_option linter.unusedVariables false
namespace Go.Proofs.YtbennlajjfkdpaaDoor
open Go.RowKit

def mn2 (x y : Int) : Int := if y < x then y else x

def mx2 (x y : Int) : Int := if x < y then y else x

def mn3 (x y z : Int) : Int := mn2 (mn2 x y) z

def mx3 (x y z : Int) : Int := mx2 (mx2 x y) z

theorem mn2_eq (x y : Int) : mn2 x y = min x y := by unfold mn2; split <;> omega

theorem mx2_eq (x y : Int) : mx2 x y = max x y := by unfold mx2; split <;> omega

theorem mn3_eq (x y z : Int) : mn3 x y z = min (min x y) z := by unfold mn3; rw [mn2_eq, mn2_eq]

theorem mx3_eq (x y z : Int) : mx3 x y z = max (max x y) z := by unfold mx3; rw [mx2_eq, mx2_eq]

section
variable {P : Program} (w : World)

theorem run_mn2 (ts : Array TypeId) (t : TypeId) (k k' : IntKind) (x y : Int) : (Builtin.min_ ts t #[.int k x, .int k' y]).run P w = .ok (.int k (mn2 x y)) w := by
  rw [run_min_int2]; rfl

theorem run_mx2 (ts : Array TypeId) (t : TypeId) (k k' : IntKind) (x y : Int) : (Builtin.max_ ts t #[.int k x, .int k' y]).run P w = .ok (.int k (mx2 x y)) w := by
  rw [mx2_eq]
  simp [Builtin.max_, Builtin.max2]
  split <;> omega

theorem run_mn3 (ts : Array TypeId) (t : TypeId) (k k' k'' : IntKind) (x y z : Int) : (Builtin.min_ ts t #[.int k x, .int k' y, .int k'' z]).run P w = .ok (.int k (mn3 x y z)) w := by
  rw [run_min_int3]; rfl

theorem run_mx3 (ts : Array TypeId) (t : TypeId) (k k' k'' : IntKind) (x y z : Int) : (Builtin.max_ ts t #[.int k x, .int k' y, .int k'' z]).run P w = .ok (.int k (mx3 x y z)) w := by
  rw [mx3_eq]
  simp [Builtin.max_, Builtin.max2]
  split <;> split <;> omega
end

end Go.Proofs.YtbennlajjfkdpaaDoor
