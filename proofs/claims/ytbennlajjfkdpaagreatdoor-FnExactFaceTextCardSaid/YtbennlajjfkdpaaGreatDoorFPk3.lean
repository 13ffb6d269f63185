/- part 3 -/
import Derived.Test.YtbennlajjfkdpaaGreatDoorFPk0
set_option linter.unusedSimpArgs false
set_option linter.unusedVariables false
namespace Go.Proofs.YtbennlajjfkdpaaGreatDoor
open Go.RowKit
def mn2 (x y : Int) : Int := if y < x then y else x
def mx2 (x y : Int) : Int := if x < y then y else x
theorem mn2_eq (x y : Int) : mn2 x y = min x y := by unfold mn2; split <;> omega
theorem mx2_eq (x y : Int) : mx2 x y = max x y := by unfold mx2; split <;> omega
section
variable {P : Program} (w : World)
theorem run_mn2 (ts : Array TypeId) (t : TypeId) (k k' : IntKind) (x y : Int) : (Builtin.min_ ts t #[.int k x, .int k' y]).run P w = .ok (.int k (mn2 x y)) w := by
  rw [run_min_int2]; rfl
theorem run_mx2 (ts : Array TypeId) (t : TypeId) (k k' : IntKind) (x y : Int) : (Builtin.max_ ts t #[.int k x, .int k' y]).run P w = .ok (.int k (mx2 x y)) w := by
  rw [mx2_eq]
  simp [Builtin.max_, Builtin.max2]
  split <;> omega
end
end Go.Proofs.YtbennlajjfkdpaaGreatDoor
