/-
  Drawn recipes.
-/
import Derived.Test.YtnpdincjekelaaaDraw
import Derived.Test.YtnpdincjekelaaaAvgLaw
import Derived.Deep.RegionWith
set_option linter.unusedSimpArgs false
set_option linter.unusedVariables false
namespace Go.Proofs.Ytnpdincjekelaaa
open Go.RowKit

/-- A drawn recipe. -/
def DrR (r : Rc) : Prop := 100 ≤ r.a ∧ r.a ≤ 210 ∧ 150 ≤ r.l ∧ r.l ≤ 220 ∧ 0 ≤ r.m ∧ r.m ≤ 19 ∧ r.s = 1000 - r.a - r.l - r.m

theorem CurOk.alloc {W0 w : World} {v : Value} {g : Nat} (h : CurOk W0 v g w) (o : Obj) : CurOk W0 v g (w.alloc o) := by
  obtain ⟨hg, hbl, i, s, hi, hB⟩ := h
  exact ⟨hg, hbl.alloc hbl.size o, i, s, hi, hB.alloc o⟩

theorem CurOk.lt {W0 w : World} {v : Value} {g : Nat} (h : CurOk W0 v g w) : g < w.heap.size := by
  obtain ⟨hg, hbl, i, s, hi, hB⟩ := h
  exact hB.lt

theorem CurOk.far {W0 w : World} {v : Value} {g : Nat} (h : CurOk W0 v g w) {p : Addr} (hp : g < p.block) (x : Value) : CurOk W0 v g (w.setCell p x) := by
  obtain ⟨hg, hbl, i, s, hi, hB⟩ := h
  exact ⟨hg, hbl.setCell (by omega) _, i, s, hi, hB.far (by omega) x⟩

def DrawnR (W0 : World) (v : Value) (g : Nat) (w : World) (e : Ending) (w' : World) : Prop :=
  ∃ s a l m : Int, e = .returned (.agg #[.int .i64 s, .int .i64 a, .int .i64 l, .int .i64 m]) ∧ DrR ⟨s, a, l, m⟩ ∧ CurOk W0 v g w' ∧ w.grownBy w' (some g)



end Go.Proofs.Ytnpdincjekelaaa
