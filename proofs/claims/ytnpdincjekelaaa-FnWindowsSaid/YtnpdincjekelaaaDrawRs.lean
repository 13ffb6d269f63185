/-
  Three drawn recipes.
-/
import Derived.Test.YtnpdincjekelaaaDrawR
import Derived.Deep.RegionHeld3
import Derived.Outline
set_option linter.unusedSimpArgs false
set_option linter.unusedVariables false
namespace Go.Proofs.Ytnpdincjekelaaa
open Go.RowKit

theorem CurOk.drew {W0 w : World} {v : Value} {g : Nat} (h : CurOk W0 v g w) : CurOk W0 v g w.drew := by
  obtain ⟨hg, hbl, i, s, hi, hB⟩ := h
  exact ⟨hg, hbl.drew, i, s, hi, hB.drew⟩

def DrawnRs (W0 : World) (e : Ending) (w' : World) : Prop :=
  ∃ r0 r1 r2 r3 s0 s1 s2 s3 t0 t1 t2 t3 : Int, e = .returned (.tuple #[.agg #[.int .i64 r0, .int .i64 r1, .int .i64 r2, .int .i64 r3], .agg #[.int .i64 s0, .int .i64 s1, .int .i64 s2, .int .i64 s3], .agg #[.int .i64 t0, .int .i64 t1, .int .i64 t2, .int .i64 t3]]) ∧
    DrR ⟨r0, r1, r2, r3⟩ ∧ DrR ⟨s0, s1, s2, s3⟩ ∧ DrR ⟨t0, t1, t2, t3⟩ ∧ Below W0.heap.size W0 w'

/-- A new cursor, its block a letter. -/
def NewCur (v : Value) (w : World) (e : Ending) (w' : World) : Prop := ∃ g : Nat, e = .returned (.pointer (some ⟨g, 0, none⟩)) ∧ CurOk w v g w'

theorem new_at (v : Value) (zs : List Int) (w : World) (h : RB w v zs) (hle : zs.length ≤ 1048576) :
    Calls Try.prog 46 #[v] w (NewCur v w) :=
  (new_any v zs w h hle).mono fun e w' ⟨he, hc⟩ => ⟨_, he, hc⟩

theorem Below.cur {W0 w : World} {v : Value} {g : Nat} (h : CurOk W0 v g w) : Below W0.heap.size W0 w := h.2.1



end Go.Proofs.Ytnpdincjekelaaa
