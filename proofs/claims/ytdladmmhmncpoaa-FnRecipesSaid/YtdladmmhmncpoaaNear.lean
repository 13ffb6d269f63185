/-
  The nearest recipe.
-/
import Derived.Test.YtdladmmhmncpoaaToRecs
import Derived.Test.YtdladmmhmncpoaaAvg
import Derived.Deep.RegionHeld3
set_option linter.unusedSimpArgs false
set_option linter.unusedVariables false
namespace Go.Proofs.Ytdladmmhmncpoaa
open Go.RowKit

/-- The first of the nearest among the first k; -1 where there is none. -/
def nearK (l : List Rc) (r : Rc) : Nat → Int
  | 0 => -1
  | k + 1 =>
    let b := nearK l r k
    if b < 0 then k else if (l.getD k ⟨0, 0, 0, 0⟩).dist r < (l.getD b.toNat ⟨0, 0, 0, 0⟩).dist r then k else b

theorem nearK_bd (l : List Rc) (r : Rc) : ∀ k, (0 < k → 0 ≤ nearK l r k) ∧ -1 ≤ nearK l r k ∧ nearK l r k < k
  | 0 => by simp [nearK]
  | k + 1 => by
    have ih := nearK_bd l r k
    simp only [nearK]
    split
    · omega
    · split <;> omega

def nearF (l : List Rc) (r : Rc) : Int := if recipesB l && r.ok then nearK l r l.length else -1

theorem dist_bd (r t : Rc) : -1 ≤ r.dist t ∧ r.dist t ≤ 4000 := by
  unfold Rc.dist distB
  split
  · rename_i h
    simp only [Bool.and_eq_true] at h
    have h1 := recipeB_bd h.1
    have h2 := recipeB_bd h.2
    omega
  · omega

theorem nearF_no1 {l : List Rc} {r : Rc} (h : recipesB l = false) : nearF l r = -1 := by simp [nearF, h]

theorem nearF_no2 {l : List Rc} {r : Rc} (h : r.ok = false) : nearF l r = -1 := by simp [nearF, h]

theorem nearF_yes {l : List Rc} {r : Rc} (h : recipesB l = true) (h' : r.ok = true) : nearF l r = nearK l r l.length := by simp [nearF, h, h']

theorem nearK_first {l : List Rc} {r : Rc} {k : Nat} (h : nearK l r k < 0) : nearK l r (k + 1) = k := by simp [nearK, h]

theorem nearK_new {l : List Rc} {r : Rc} {k m : Nat} (hm : nearK l r k = m) (hk : k < l.length) (hmk : m < l.length) (h : l[k].dist r < l[m].dist r) : nearK l r (k + 1) = k := by
  have e1 : l.getD k ⟨0, 0, 0, 0⟩ = l[k] := by simp [List.getD, List.getElem?_eq_getElem hk]
  have e2 : l.getD m ⟨0, 0, 0, 0⟩ = l[m] := by simp [List.getD, List.getElem?_eq_getElem hmk]
  simp only [nearK, hm, Int.toNat_natCast, e1, e2, if_neg (show ¬ (m : Int) < 0 by omega), if_pos h]

theorem nearK_old {l : List Rc} {r : Rc} {k m : Nat} (hm : nearK l r k = m) (hk : k < l.length) (hmk : m < l.length) (h : ¬ l[k].dist r < l[m].dist r) : nearK l r (k + 1) = m := by
  have e1 : l.getD k ⟨0, 0, 0, 0⟩ = l[k] := by simp [List.getD, List.getElem?_eq_getElem hk]
  have e2 : l.getD m ⟨0, 0, 0, 0⟩ = l[m] := by simp [List.getD, List.getElem?_eq_getElem hmk]
  simp only [nearK, hm, Int.toNat_natCast, e1, e2, if_neg (show ¬ (m : Int) < 0 by omega), if_neg h]



end Go.Proofs.Ytdladmmhmncpoaa
