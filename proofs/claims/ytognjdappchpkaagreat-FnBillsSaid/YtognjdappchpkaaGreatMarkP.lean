/-
  Lists of pairs marked with running numbers, and found marked; what turns.
-/
import Derived.Test.YtognjdappchpkaaGreatPrL
import Derived.Test.YtognjdappchpkaaGreatMarkI
set_option linter.unusedSimpArgs false
set_option linter.unusedVariables false
namespace Go.Proofs.YtognjdappchpkaaGreat
open Go.RowKit

/-- n pairs of running numbers from a on. -/
def runP (a : Int) (n : Nat) : List (Int × Int) := (List.range n).map fun (i : Nat) => (a + 2 * (i : Int), a + 2 * (i : Int) + 1)
theorem runP_length (a : Int) (n : Nat) : (runP a n).length = n := by simp [runP]
def markPs (a : Int) (l : List (Int × Int)) (k : Nat) : List (Int × Int) := runP a k ++ l.drop k
theorem markPs_length (a : Int) (l : List (Int × Int)) (k : Nat) (h : k ≤ l.length) : (markPs a l k).length = l.length := by simp [markPs, runP_length]; omega
theorem markPs_zero (a : Int) (l : List (Int × Int)) : markPs a l 0 = l := by simp [markPs, runP]
theorem markPs_all (a : Int) (l : List (Int × Int)) : markPs a l l.length = runP a l.length := by simp [markPs]
theorem markPs_succ (a : Int) (l : List (Int × Int)) (k : Nat) (h : k < l.length) : markPs a l (k + 1) = (markPs a l k).set k (a + 2 * k, a + 2 * k + 1) := by
  unfold markPs runP
  rw [List.range_succ, List.map_append, List.set_append]
  simp only [List.map_cons, List.map_nil, List.length_map, List.length_range, Nat.lt_irrefl, if_false, Nat.sub_self, List.append_assoc, List.cons_append, List.nil_append]
  rw [List.drop_eq_getElem_cons h, List.set_cons_zero]
theorem runP_get (a : Int) (n k : Nat) (h : k < (runP a n).length) : (runP a n)[k] = (a + 2 * (k : Int), a + 2 * (k : Int) + 1) := by simp [runP]









/-- Only the blocks of S may have turned. -/
structure Turns (S : Nat → Prop) (w w' : World) : Prop where
  os : w'.os = w.os
  tape : w'.tape = w.tape
  output : w'.output = w.output
  size : w.heap.size ≤ w'.heap.size
  block : ∀ i, i < w.heap.size → ¬ S i → w'.heap[i]? = w.heap[i]?

theorem Turns.ofGrown {w w' : World} {row : Option Nat} {S : Nat → Prop} (h : w.grownBy w' row) (hs : ∀ k, row = some k → S k) : Turns S w w' :=
  ⟨h.os, h.tape, h.output, h.size, fun i hi hn => h.block i hi (fun e => hn (hs i e.symm))⟩
theorem Turns.ofBelow {w w' : World} {S : Nat → Prop} (h : Below w.heap.size w w') : Turns S w w' := ⟨h.os, h.tape, h.output, h.size, fun i hi _ => h.block i hi⟩
theorem Turns.trans {a b c : World} {S : Nat → Prop} (h : Turns S a b) (k : Turns S b c) : Turns S a c :=
  ⟨k.os.trans h.os, k.tape.trans h.tape, k.output.trans h.output, Nat.le_trans h.size k.size, fun i hi hn => (k.block i (Nat.lt_of_lt_of_le hi h.size) hn).trans (h.block i hi hn)⟩
theorem Turns.mono {a b : World} {S S' : Nat → Prop} (h : Turns S a b) (hs : ∀ k, S k → S' k) : Turns S' a b := ⟨h.os, h.tape, h.output, h.size, fun i hi hn => h.block i hi (fun e => hn (hs i e))⟩
theorem Turns.below {a b : World} {S : Nat → Prop} {B : Nat} (h : Turns S a b) (hs : ∀ k, S k → B ≤ k) (hB : B ≤ a.heap.size) : Below B a b :=
  ⟨h.os, h.tape, h.output, h.size, fun i hi => h.block i (by omega) (fun e => by have := hs i e; omega)⟩
theorem Turns.refl (S : Nat → Prop) (w : World) : Turns S w w := ⟨rfl, rfl, rfl, Nat.le_refl _, fun _ _ _ => rfl⟩

/-- A row of its own that lies apart from what turned is as it was. -/
theorem own_turned {base : Nat} {w w' : World} {e : TypeId} {size : Nat} {v : Value} {n : Nat} {xs : List Value} {S : Nat → Prop} (h : w.ownsRow base e size v n xs) (hb : Turns S w w') (hs : ∀ k, v.ownBlock = some k → ¬ S k) :
    w'.ownsRow base e size v n xs := by
  obtain ⟨h1, h2⟩ := h
  refine ⟨h1, ?_⟩
  rcases h2 with ⟨rfl, hn⟩ | ⟨g, cap, cur, rfl, e1, hh, r⟩
  · exact .inl ⟨rfl, hn⟩
  · refine .inr ⟨g, cap, cur, rfl, e1, ?_, r⟩
    have hlt : g < w.heap.size := by
      rcases Nat.lt_or_ge g w.heap.size with hlt | hge
      · exact hlt
      · rw [Array.getElem?_eq_none hge] at hh; cases hh
    rw [hb.block g hlt (hs g rfl)]
    exact hh

theorem OwnP.turned {t : TypeId} {base : Nat} {w w' : World} {v : Value} {l : List (Int × Int)} {S : Nat → Prop} (h : OwnP t base w v l) (hb : Turns S w w') (hs : ∀ k, v.ownBlock = some k → ¬ S k) : OwnP t base w' v l := own_turned h hb hs

end Go.Proofs.YtognjdappchpkaaGreat
