/-
  Lists of ints: compared, marked, and found marked.
-/
import Derived.Test.YtbennlajjfkdpaaDoorOwn
import Derived.Deep.QuietTactic
import Derived.BigQuiet
set_option linter.unusedSimpArgs false
set_option linter.unusedVariables false
namespace Go.Proofs.YtbennlajjfkdpaaDoor
open Go.RowKit

theorem take_eq_succ {α : Type} [DecidableEq α] {l r : List α} {k : Nat} (h : l.take k = r.take k) (hl : k < l.length) (hr : k < r.length) (he : l[k] = r[k]) : l.take (k + 1) = r.take (k + 1) := by
  rw [List.take_succ_eq_append_getElem hl, List.take_succ_eq_append_getElem hr, h, he]



end Go.Proofs.YtbennlajjfkdpaaDoor
