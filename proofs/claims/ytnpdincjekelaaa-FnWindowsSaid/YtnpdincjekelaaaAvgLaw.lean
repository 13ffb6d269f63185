/-
  Lists of recipes converted and compared, and the law of the average.
-/
import Derived.Test.YtnpdincjekelaaaRecs
import Derived.Deep.RegionHeld3
set_option linter.unusedSimpArgs false
set_option linter.unusedVariables false
namespace Go.Proofs.Ytnpdincjekelaaa
open Go.RowKit







/-- The first k recipes are there, the rest is zero. -/
def fillR (l : List Rc) (k : Nat) : List Value := (l.take k).flatMap Rc.cs ++ List.replicate ((l.length - k) * 4) (.int .i64 0)

theorem fillR_length (l : List Rc) (k : Nat) (h : k ≤ l.length) : (fillR l k).length = l.length * 4 := by
  unfold fillR
  rw [List.length_append, flat_len Rc.cs 4 (fun _ => rfl), List.length_replicate, List.length_take, Nat.min_eq_left h, ← Nat.add_mul]
  congr 1; omega

theorem fillR_all (l : List Rc) : fillR l l.length = l.flatMap Rc.cs := by simp [fillR]

theorem fillR_get (l : List Rc) (k j : Nat) (h : k < l.length) (hj : j < 4) : (fillR l k)[k * 4 + j]? = some (.int .i64 0) := by
  unfold fillR
  have hl : ((l.take k).flatMap Rc.cs).length = k * 4 := by rw [flat_len Rc.cs 4 (fun _ => rfl), List.length_take, Nat.min_eq_left (by omega)]
  rw [List.getElem?_append_right (by omega), hl, Nat.add_sub_cancel_left, List.getElem?_replicate, if_pos]
  have : 1 * 4 ≤ (l.length - k) * 4 := Nat.mul_le_mul_right _ (by omega)
  omega

theorem fillR_succ (l : List Rc) (k : Nat) (h : k < l.length) :
    fillR l (k + 1) = (((((fillR l k).set (k * 4) (.int .i64 l[k].s)).set (k * 4 + 1) (.int .i64 l[k].a)).set (k * 4 + 2) (.int .i64 l[k].l)).set (k * 4 + 3) (.int .i64 l[k].m)) := by
  unfold fillR
  have hl : ((l.take k).flatMap Rc.cs).length = k * 4 := by rw [flat_len Rc.cs 4 (fun _ => rfl), List.length_take, Nat.min_eq_left (by omega)]
  have hr : (l.length - k) * 4 = (l.length - (k + 1)) * 4 + 1 + 1 + 1 + 1 := by
    have : l.length - k = (l.length - (k + 1)) + 1 := by omega
    rw [this, Nat.add_mul]
  rw [List.take_succ_eq_append_getElem h, List.flatMap_append, hr]
  have e0 : ∀ (x : List Value) (y : List Value) (n j : Nat) (u : Value), x.length = n → (x ++ y).set (n + j) u = x ++ y.set j u := by
    intro x y n j u hx
    rw [List.set_append, if_neg (by omega), hx, Nat.add_sub_cancel_left]
  rw [show k * 4 = k * 4 + 0 from rfl, e0 _ _ _ 0 _ hl, Nat.add_zero, e0 _ _ _ 1 _ hl, e0 _ _ _ 2 _ hl, e0 _ _ _ 3 _ hl]
  simp [List.replicate_succ, Rc.cs]

end Go.Proofs.Ytnpdincjekelaaa
