/-
  The program's FormatInt at every number that is not negative, over the library's table.
-/
import Derived.Test.YtbennlajjfkdpaaDoorFmt
import Derived.Test.YtbennlajjfkdpaaDoorItxt
import Derived.WalkSmall
import Derived.Lib.AppendIntMem
set_option linter.unusedSimpArgs false
set_option linter.unusedVariables false
namespace Go.Proofs.YtbennlajjfkdpaaDoor
open Go.RowKit

/-- The library's table of powers of ten stands. -/
def TabW (w : World) : Prop := Lib.TabIs Tryd.prog w "internal/strconv.uint64pow10" .u64 Lib.pow10Tab
theorem TabW.below {w w' : World} (h : TabW w) (hb : Below w.heap.size w w') : TabW w' := by
  obtain ⟨g, hg⟩ : ∃ g, Tryd.prog.globalNamed "internal/strconv.uint64pow10" = some g := Option.isSome_iff_exists.1 (by kernel_rfl)
  have hc := Lib.TabIs.cell h hg 0 (by decide)
  have hlt := World.block_lt_of_cell? _ _ hc
  exact var?_below hb hg hlt h

set_option maxHeartbeats 2000000 in
set_option maxRecDepth 100000 in
theorem iFmtB_any (n : Nat) (h : n < 10000000000) (w : World) (ht : TabW w) :
    Calls Tryd.prog 37 #[.int .i64 n] w fun e w' => e = .returned (.string ⟨(Lib.decDigits n).toArray⟩) ∧ Below w.heap.size w w' := by
  have hc : Calls Tryd.prog 59 #[.int .i64 n] w fun e w' => e = .returned (.string ⟨(Lib.decDigits n).toArray⟩) ∧ Below w.heap.size w w' := by
    refine (Tryd.strconv_Itoa n (by omega) (by omega) w ht).mono ?_
    rintro e w' ⟨rfl, k, os, rfl⟩
    exact ⟨by rw [Lib.itoa_nonneg], Lib.below_grow _ _ (Nat.le_refl _) _ _⟩
  go_enter Tryd.func37, Tryd.ntmps37
  go_wp2_with fail
  refine hc.mono ?_
  rintro e w1 ⟨rfl, hb⟩
  go_wp2
  go_ret
  exact ⟨rfl, hb⟩

end Go.Proofs.YtbennlajjfkdpaaDoor
