/-
  Lists of ints that a call has made: what it owns, and how it grows.
-/
import Derived.Test.YtbennlajjfkdpaaDoorBase
import Derived.Test.YtbennlajjfkdpaaDoorProg
import Derived.OwnWalk
import Derived.Maps.AppendAt
set_option linter.unusedSimpArgs false
set_option linter.unusedVariables false
namespace Go.Proofs.YtbennlajjfkdpaaDoor
open Go.RowKit

theorem infoInt : (Tryd.prog.info? 3).map (fun i => (i.zero, i.size, i.bytes)) = some (some (.int .i64 0), 1, 8) := by kernel_rfl

/-- v is a list of ints that lies in a block of its own, not below base. -/
def OwnI (base : Nat) (w : World) (v : Value) (zs : List Int) : Prop := w.ownsRow base 3 1 v zs.length (zs.map vI)

theorem OwnI.nil (base : Nat) (w : World) : OwnI base w (.slice none 0 0) [] := World.ownsRow_nil _ _ _ _

theorem OwnI.drewN {base : Nat} {w : World} {v : Value} {zs : List Int} (h : OwnI base w v zs) (n : Nat) : OwnI base (w.drewN n) v zs := h

theorem OwnI.alloc {base : Nat} {w : World} {v : Value} {zs : List Int} (h : OwnI base w v zs) (o : Obj) : OwnI base (w.alloc o) v zs := World.ownsRow.alloc h o

theorem OwnI.kept {base : Nat} {w w' : World} {v : Value} {zs : List Int} (h : OwnI base w v zs) (hb : Below w.heap.size w w') : OwnI base w' v zs := by
  refine World.ownsRow.kept (row := none) h ⟨hb.os, hb.tape, hb.output, hb.size, fun k hk _ => hb.block k hk⟩ ?_
  cases hv : v.ownBlock with
  | none => exact .inl rfl
  | some k => exact .inr (by simp)

theorem OwnI.mono {base base' : Nat} {w : World} {v : Value} {zs : List Int} (h : OwnI base w v zs) (hb : base' ≤ base) : OwnI base' w v zs := by
  obtain ⟨h1, h2⟩ := h
  refine ⟨h1, ?_⟩
  rcases h2 with h2 | ⟨g, cap, cur, e1, e2, e3⟩
  · exact .inl h2
  · exact .inr ⟨g, cap, cur, e1, Nat.le_trans hb e2, e3⟩

theorem OwnI.lt {base : Nat} {w : World} {v : Value} {zs : List Int} (h : OwnI base w v zs) : ∀ k, v.ownBlock = some k → base ≤ k ∧ k < w.heap.size := World.ownsRow.lt h
/-- What is owned can be read. -/
theorem OwnI.reads {base : Nat} {w : World} {v : Value} {zs : List Int} (h : OwnI base w v zs) : RI w v zs := by
  obtain ⟨h1, h2⟩ := h
  refine ⟨h1, ?_⟩
  rcases h2 with ⟨rfl, hn⟩ | ⟨g, cap, cur, rfl, _, hh, hnc, hcm, hsz, hxs⟩
  · exact ⟨none, 0, by rw [hn], by omega, by rw [hn]; simp [maxLen], fun hp => absurd hp (by omega)⟩
  · refine ⟨_, cap, rfl, hnc, by omega, fun hp => ⟨g, 0, rfl, ?_, fun j u hu => ?_⟩⟩
    · rcases Nat.lt_or_ge g w.heap.size with hlt | hge
      · exact hlt
      · rw [Array.getElem?_eq_none hge] at hh; cases hh
    · rw [Nat.zero_add, cell_of_row _ _ _ cur 3 (0, 0) hh]
      rw [← hxs] at hu
      rw [List.getElem?_take] at hu
      split at hu
      · simpa using hu
      · cases hu

theorem OwnI.snoc {base : Nat} {w : World} {v : Value} {zs : List Int} {x : Int} (h : w.ownsRow base 3 1 v (zs.length + 1) (zs.map vI ++ [.int .i64 x])) : OwnI base w v (zs ++ [x]) := by
  unfold OwnI
  rw [List.length_append, List.map_append]
  exact h

/-- A call returns a list of ints in new memory and leaves what was there alone. -/
def RetI (zs : List Int) (w : World) (e : Ending) (w' : World) : Prop := ∃ v, e = .returned v ∧ OwnI w.heap.size w' v zs ∧ Below w.heap.size w w'

/-- Behind an append to what the call owns: what was there when the call began is as it was. -/
theorem below_own {a w w' : World} {zs : List Int} {v : Value} (h : Below a.heap.size a w) (ho : OwnI a.heap.size w v zs) (hg : w.grownBy w' v.ownBlock) : Below a.heap.size a w' :=
  h.grown hg h.size (fun k hk => (ho.lt k hk).1)

end Go.Proofs.YtbennlajjfkdpaaDoor
