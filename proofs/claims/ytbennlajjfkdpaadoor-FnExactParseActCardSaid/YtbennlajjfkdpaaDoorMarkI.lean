/-
  Lists of ints: marked with running numbers, and found marked.
-/
import Derived.Test.YtbennlajjfkdpaaDoorEqI
set_option linter.unusedSimpArgs false
set_option linter.unusedVariables false
namespace Go.Proofs.YtbennlajjfkdpaaDoor
open Go.RowKit

/-- n numbers from a on. -/
def runI (a : Int) (n : Nat) : List Int := (List.range n).map fun (i : Nat) => a + (i : Int)

theorem runI_length (a : Int) (n : Nat) : (runI a n).length = n := by simp [runI]

theorem runI_get (a : Int) (n i : Nat) (h : i < n) : (runI a n).getD i 0 = a + i := by simp [runI, List.getD, h]

/-- Of the list the first k are marked. -/
def markI (a : Int) (zs : List Int) (k : Nat) : List Int := runI a k ++ zs.drop k

theorem markI_length (a : Int) (zs : List Int) (k : Nat) (h : k ≤ zs.length) : (markI a zs k).length = zs.length := by simp [markI, runI_length]; omega

theorem markI_zero (a : Int) (zs : List Int) : markI a zs 0 = zs := by simp [markI, runI]

theorem markI_all (a : Int) (zs : List Int) : markI a zs zs.length = runI a zs.length := by simp [markI]

theorem markI_succ (a : Int) (zs : List Int) (k : Nat) (h : k < zs.length) : markI a zs (k + 1) = (markI a zs k).set k (a + k) := by
  unfold markI runI
  rw [List.range_succ, List.map_append, List.set_append]
  simp only [List.map_cons, List.map_nil, List.length_map, List.length_range, Nat.lt_irrefl, if_false, Nat.sub_self, List.append_assoc, List.cons_append, List.nil_append]
  rw [List.drop_eq_getElem_cons h, List.set_cons_zero]

/-- Only what v owns may have turned. -/
def Marks (base : Nat) (v : Value) (w : World) (r : Value) (zs : List Int) (e : Ending) (w' : World) : Prop :=
  e = .returned r ∧ OwnI base w' v zs ∧ w.grownBy w' v.ownBlock

theorem grownBy_trans {a b c : World} {row : Option Nat} (h : a.grownBy b row) (k : b.grownBy c row) : a.grownBy c row := World.grownBy.trans h k

theorem grownBy_set {a w : World} {g : Nat} (h : a.grownBy w (some g)) (j : Nat) (u : Value) : a.grownBy (w.setCell ⟨g, j, none⟩ u) (some g) :=
  ⟨h.os, h.tape, h.output, by simpa [World.setCell] using h.size, fun i hi hne => (Below.heap_setCell w ⟨g, j, none⟩ u i (fun e => hne (by rw [e]))).trans (h.block i hi hne)⟩



/-- What heldIntS answers. -/
def heldF (zs : List Int) (a : Int) : Int := if zs = runI a zs.length then a + zs.length else -1

theorem runI_take (a : Int) (n k : Nat) (h : k ≤ n) : (runI a n).take k = runI a k := by
  unfold runI
  rw [← List.map_take, List.take_range, Nat.min_eq_left h]





/-- A mark leaves all blocks below those that are owned. -/
theorem Below.mark {B base : Nat} {a w w' w0 : World} {v : Value} {zs : List Int} (hg : w.grownBy w' v.ownBlock) (ho : OwnI base w0 v zs) (h : Below B a w) (hB : B ≤ base) (hB' : B ≤ w.heap.size) : Below B a w' :=
  h.grown hg hB' (fun k hk => Nat.le_trans hB (ho.lt k hk).1)

end Go.Proofs.YtbennlajjfkdpaaDoor
