/-
  Lists of recipes in memory, and the tests over them.
-/
import Derived.Test.YtnpdincjekelaaaDist
import Derived.Test.YtnpdincjekelaaaBlk
set_option linter.unusedSimpArgs false
set_option linter.unusedVariables false
namespace Go.Proofs.Ytnpdincjekelaaa
open Go.RowKit

/-- A recipe. -/
structure Rc where
  s : Int
  a : Int
  l : Int
  m : Int

def Rc.v (r : Rc) : Value := .agg #[.int .i64 r.s, .int .i64 r.a, .int .i64 r.l, .int .i64 r.m]

def Rc.cs (r : Rc) : List Value := [.int .i64 r.s, .int .i64 r.a, .int .i64 r.l, .int .i64 r.m]

def Rc.ok (r : Rc) : Bool := recipeB r.s r.a r.l r.m

def Rc.dist (r t : Rc) : Int := distB r.s r.a r.l r.m t.s t.a t.l t.m

/-- v reads as the list of recipes. -/
def RR (w : World) (v : Value) (l : List Rc) : Prop := RS w 4 v l.length (l.flatMap Rc.cs)

theorem RR.below {w w' : World} {v : Value} {l : List Rc} (h : RR w v l) (hb : Below w.heap.size w w') : RR w' v l := RS.below h hb

theorem RR.form {w : World} {v : Value} {l : List Rc} (h : RR w v l) : ∃ A c, v = .slice A l.length c ∧ l.length ≤ c ∧ l.length ≤ maxLen ∧
    (0 < l.length → ∃ b off, A = some ⟨b, off, none⟩ ∧ b < w.heap.size ∧ ∀ k (hk : k < l.length), w.cell? ⟨b, off + k * 4, none⟩ = some (.int .i64 l[k].s) ∧ w.cell? ⟨b, off + k * 4 + 1, none⟩ = some (.int .i64 l[k].a) ∧
      w.cell? ⟨b, off + k * 4 + 2, none⟩ = some (.int .i64 l[k].l) ∧ w.cell? ⟨b, off + k * 4 + 3, none⟩ = some (.int .i64 l[k].m)) := by
  obtain ⟨_, A, c, hv, h1, h2, h3⟩ := h
  refine ⟨A, c, hv, h1, h2, fun hn => ?_⟩
  obtain ⟨b, off, hA, hlt, hc⟩ := h3 hn
  refine ⟨b, off, hA, hlt, fun k hk => ?_⟩
  have g := fun j hj => flat_get Rc.cs 4 (fun _ => rfl) l k j hk hj
  refine ⟨?_, ?_, ?_, ?_⟩
  · exact hc (k * 4 + 0) _ (by rw [g 0 (by omega)]; rfl)
  · have := hc (k * 4 + 1) _ (by rw [g 1 (by omega)]; rfl); rwa [← Nat.add_assoc] at this
  · have := hc (k * 4 + 2) _ (by rw [g 2 (by omega)]; rfl); rwa [← Nat.add_assoc] at this
  · have := hc (k * 4 + 3) _ (by rw [g 3 (by omega)]; rfl); rwa [← Nat.add_assoc] at this

def recipesB (l : List Rc) : Bool := l.all Rc.ok && decide (l.length ≤ 20)





end Go.Proofs.Ytnpdincjekelaaa
