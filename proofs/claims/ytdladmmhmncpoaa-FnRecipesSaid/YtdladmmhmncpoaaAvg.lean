/-
  The average of recipes.
-/
import Derived.Test.YtdladmmhmncpoaaRecs
import Derived.BigRegion
set_option linter.unusedSimpArgs false
set_option linter.unusedVariables false
namespace Go.Proofs.Ytdladmmhmncpoaa
open Go.RowKit

def Blk (w : World) (g : Nat) (t : TypeId) (cs : Array Value) : Prop := w.heap[g]? = some (.cells cs t (0, 0))
section
variable {w w' : World} {g : Nat} {t : TypeId} {cs : Array Value}
theorem Blk.lt (h : Blk w g t cs) : g < w.heap.size := by
  rcases Nat.lt_or_ge g w.heap.size with hlt | hge
  · exact hlt
  · unfold Blk at h; rw [Array.getElem?_eq_none hge] at h; cases h

theorem Blk.cell (h : Blk w g t cs) (i : Nat) : w.cell? ⟨g, i, none⟩ = cs[i]? := cell_of_row w g i cs t (0, 0) h

theorem Blk.frozen (h : Blk w g t cs) (i : Nat) : w.frozen? ⟨g, i, none⟩ = false := by
  unfold Blk at h
  simp [World.frozen?, h]

theorem Blk.new (w : World) (t : TypeId) (cs : Array Value) : Blk (w.alloc (.cells cs t)) w.heap.size t cs := heap_alloc_new w _

theorem Blk.drew (h : Blk w g t cs) : Blk w.drew g t cs := h

theorem Blk.drewN (h : Blk w g t cs) (n : Nat) : Blk (w.drewN n) g t cs := h

theorem Blk.alloc (h : Blk w g t cs) (o : Obj) : Blk (w.alloc o) g t cs := (Below.heap_alloc w o g h.lt).trans h

theorem Blk.set_ (h : Blk w g t cs) (i : Nat) (u : Value) : Blk (w.setCell ⟨g, i, none⟩ u) g t (cs.setIfInBounds i u) := by
  unfold Blk at h ⊢
  simp [World.setCell, Array.getElem?_modify, h]

theorem Blk.far (h : Blk w g t cs) {p : Addr} (hp : g ≠ p.block) (u : Value) : Blk (w.setCell p u) g t cs := (Below.heap_setCell w p u g hp).trans h

theorem Blk.below {B : Nat} (h : Blk w g t cs) (hb : Below B w w') (hg : g < B) : Blk w' g t cs := (hb.block g hg).trans h
end

def sumF (f : Rc → Int) : List Rc → Int
  | [] => 0
  | r :: l => f r + sumF f l

theorem sumF_append (f : Rc → Int) : ∀ l l', sumF f (l ++ l') = sumF f l + sumF f l'
  | [], l' => by simp [sumF]
  | r :: l, l' => by simp [sumF, sumF_append f l l']; omega

theorem sumF_succ (f : Rc → Int) (l : List Rc) (k : Nat) (h : k < l.length) : sumF f (l.take (k + 1)) = sumF f (l.take k) + f l[k] := by
  rw [List.take_succ_eq_append_getElem h, sumF_append]; simp [sumF]

theorem sumF_bd (f : Rc → Int) (n : Int) (hn : 0 ≤ n) : ∀ l : List Rc, (∀ r ∈ l, 0 ≤ f r ∧ f r ≤ n) → 0 ≤ sumF f l ∧ sumF f l ≤ n * l.length
  | [], _ => by simp [sumF]
  | r :: l, h => by
    have h1 := h r (by simp)
    have h2 := sumF_bd f n hn l (fun x hx => h x (by simp [hx]))
    simp only [sumF, List.length_cons]
    have : n * ((l.length + 1 : Nat) : Int) = n * l.length + n := by rw [Int.natCast_add, Int.mul_add]; simp
    omega

def avgR (l : List Rc) : Rc :=
  let n : Int := l.length
  let a := sumF Rc.a l / n
  let b := sumF Rc.l l / n
  let c := sumF Rc.m l / n
  ⟨1000 - a - b - c, a, b, c⟩

def avgF (l : List Rc) : Rc × Bool := if l.length == 0 || !recipesB l then (⟨0, 0, 0, 0⟩, false) else (avgR l, true)

def avgV (x : Rc × Bool) : Value := .tuple #[x.1.v, .bool x.2]

theorem recipes_bd {l : List Rc} (h : recipesB l = true) : l.length ≤ 20 ∧ ∀ k, (0 ≤ sumF Rc.a (l.take k) ∧ sumF Rc.a (l.take k) ≤ 20000) ∧ (0 ≤ sumF Rc.l (l.take k) ∧ sumF Rc.l (l.take k) ≤ 20000) ∧ (0 ≤ sumF Rc.m (l.take k) ∧ sumF Rc.m (l.take k) ≤ 20000) := by
  unfold recipesB at h
  rw [Bool.and_eq_true] at h
  have h20 : l.length ≤ 20 := by simpa using h.2
  refine ⟨h20, fun k => ?_⟩
  have hall := List.all_eq_true.1 h.1
  have hlen : ((l.take k).length : Int) ≤ 20 := by have : (l.take k).length ≤ l.length := List.length_take_le' _ _; omega
  have g : ∀ f : Rc → Int, (∀ r, r.ok = true → 0 ≤ f r ∧ f r ≤ 1000) → 0 ≤ sumF f (l.take k) ∧ sumF f (l.take k) ≤ 20000 := by
    intro f hf
    have := sumF_bd f 1000 (by omega) (l.take k) (fun r hr => hf r (hall r (List.mem_of_mem_take hr)))
    omega
  refine ⟨g _ ?_, g _ ?_, g _ ?_⟩ <;> (intro r hr; have := recipeB_bd hr; omega)



end Go.Proofs.Ytdladmmhmncpoaa
