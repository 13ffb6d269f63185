/-
  Lists of recipes converted and compared, and the law of the average.
-/
import Derived.Test.YtdladmmhmncpoaaRecs
import Derived.Deep.RegionHeld3
set_option linter.unusedSimpArgs false
set_option linter.unusedVariables false
namespace Go.Proofs.Ytdladmmhmncpoaa
open Go.RowKit

/-- What is left of a bound behind n things, or -1. -/
def szF (n : Int) (k : Nat) : Int := if n < k then -1 else n - k

set_option maxHeartbeats 1000000 in
theorem szRecipeS_any (v : Value) (l : List Rc) (n : Int) (w : World) (h : RR w v l) (h0 : 0 ≤ n) (h1 : n ≤ 1000000000) :
    Calls Try.prog 34 #[v, .int .i64 n] w fun e w' => e = .returned (.int .i64 (szF n l.length)) ∧ w = w' := by
  obtain ⟨A, c, rfl, hc, hm, hcell⟩ := h.form
  unfold maxLen at hm
  clear h hcell
  by_cases hlt : n < l.length
  · have hneg : n - (l.length : Int) < 0 := by omega
    have HF : Hid (szF n l.length = -1) := Lib.hid (by unfold szF; rw [if_pos hlt])
    go_enter Try.func34, Try.ntmps34
    go_wp2
    all_goals go_ret
    all_goals exact ⟨ret_int HF.out.symm, rfl⟩
  · have hneg : ¬ n - (l.length : Int) < 0 := by omega
    have HF : Hid (szF n l.length = n - l.length) := Lib.hid (by unfold szF; rw [if_neg hlt])
    go_enter Try.func34, Try.ntmps34
    go_wp2
    all_goals go_ret
    all_goals exact ⟨ret_int HF.out.symm, rfl⟩

theorem own_reads {base : Nat} {w : World} {e : TypeId} {size : Nat} {v : Value} {n : Nat} {xs : List Value} (h : w.ownsRow base e size v n xs) : RS w size v n xs := by
  obtain ⟨h1, h2⟩ := h
  refine ⟨h1, ?_⟩
  rcases h2 with ⟨rfl, hn⟩ | ⟨g, cap, cur, rfl, _, hh, hnc, hcm, hsz, hxs⟩
  · exact ⟨none, 0, by rw [hn], by omega, by rw [hn]; simp [maxLen], fun hp => absurd hp (by omega)⟩
  · refine ⟨_, cap, rfl, hnc, by omega, fun hp => ⟨g, 0, rfl, ?_, fun j u hu => ?_⟩⟩
    · rcases Nat.lt_or_ge g w.heap.size with hlt | hge
      · exact hlt
      · rw [Array.getElem?_eq_none hge] at hh; cases hh
    · rw [Nat.zero_add, cell_of_row _ _ _ cur e (0, 0) hh]
      rw [← hxs] at hu
      rw [List.getElem?_take] at hu
      split at hu
      · simpa using hu
      · cases hu

theorem own_kept {base : Nat} {w w' : World} {e : TypeId} {size : Nat} {v : Value} {n : Nat} {xs : List Value} (h : w.ownsRow base e size v n xs) (hb : Below w.heap.size w w') : w'.ownsRow base e size v n xs := by
  refine World.ownsRow.kept (row := none) h ⟨hb.os, hb.tape, hb.output, hb.size, fun k hk _ => hb.block k hk⟩ ?_
  cases hv : v.ownBlock with
  | none => exact .inl rfl
  | some k => exact .inr (by simp)

set_option maxHeartbeats 1000000 in
theorem eqRecipe_any (a b c d a' b' c' d' : Int) (w : World) :
    Calls Try.prog 87 #[.agg #[.int .i64 a, .int .i64 b, .int .i64 c, .int .i64 d], .agg #[.int .i64 a', .int .i64 b', .int .i64 c', .int .i64 d']] w
      fun e w' => e = .returned (.bool (a == a' && b == b' && c == c' && d == d')) ∧ Below w.heap.size w w' := by
  go_enter Try.func87, Try.ntmps87
  go_wp2
  all_goals go_ret
  all_goals refine ⟨ret_bool ?_, by (repeat (first | exact Below.refl _ _ | assumption | refine Below.drew ?_ | refine below_drewN ?_ _ | refine Below.alloc ?_ (by first | omega | (simp; done) | (simp; omega)) _ | refine Below.setCell ?_ (by first | omega | (simp; done) | (simp; omega)) _ | refine Below.step (by assumption) ?_ (by first | omega | (simp; done) | (simp; omega)) | refine Below.mark (by assumption) (by assumption) ?_ (by first | omega | (simp; done) | (simp; omega)) (by first | omega | (simp; done) | (simp; omega))))⟩
  all_goals simp_all

theorem infoRecipe : (Try.prog.info? 46).map (fun i => (i.zero, i.size, i.bytes)) = some (some (.agg #[.int .i64 0, .int .i64 0, .int .i64 0, .int .i64 0]), 4, 32) := by kernel_rfl

/-- The first k recipes are there, the rest is zero. -/
def fillR (l : List Rc) (k : Nat) : List Value := (l.take k).flatMap Rc.cs ++ List.replicate ((l.length - k) * 4) (.int .i64 0)

theorem fillR_length (l : List Rc) (k : Nat) (h : k ≤ l.length) : (fillR l k).length = l.length * 4 := by
  unfold fillR
  rw [List.length_append, flat_len Rc.cs 4 (fun _ => rfl), List.length_replicate, List.length_take, Nat.min_eq_left h, ← Nat.add_mul]
  congr 1; omega

theorem fillR_all (l : List Rc) : fillR l l.length = l.flatMap Rc.cs := by simp [fillR]

theorem fillR_get (l : List Rc) (k j : Nat) (h : k < l.length) (hj : j < 4) : (fillR l k)[k * 4 + j]? = some (.int .i64 0) := by
  unfold fillR
  have hl : ((l.take k).flatMap Rc.cs).length = k * 4 := by rw [flat_len Rc.cs 4 (fun _ => rfl), List.length_take, Nat.min_eq_left (by omega)]
  rw [List.getElem?_append_right (by omega), hl, Nat.add_sub_cancel_left, List.getElem?_replicate, if_pos]
  have : 1 * 4 ≤ (l.length - k) * 4 := Nat.mul_le_mul_right _ (by omega)
  omega

theorem fillR_succ (l : List Rc) (k : Nat) (h : k < l.length) :
    fillR l (k + 1) = (((((fillR l k).set (k * 4) (.int .i64 l[k].s)).set (k * 4 + 1) (.int .i64 l[k].a)).set (k * 4 + 2) (.int .i64 l[k].l)).set (k * 4 + 3) (.int .i64 l[k].m)) := by
  unfold fillR
  have hl : ((l.take k).flatMap Rc.cs).length = k * 4 := by rw [flat_len Rc.cs 4 (fun _ => rfl), List.length_take, Nat.min_eq_left (by omega)]
  have hr : (l.length - k) * 4 = (l.length - (k + 1)) * 4 + 1 + 1 + 1 + 1 := by
    have : l.length - k = (l.length - (k + 1)) + 1 := by omega
    rw [this, Nat.add_mul]
  rw [List.take_succ_eq_append_getElem h, List.flatMap_append, hr]
  have e0 : ∀ (x : List Value) (y : List Value) (n j : Nat) (u : Value), x.length = n → (x ++ y).set (n + j) u = x ++ y.set j u := by
    intro x y n j u hx
    rw [List.set_append, if_neg (by omega), hx, Nat.add_sub_cancel_left]
  rw [show k * 4 = k * 4 + 0 from rfl, e0 _ _ _ 0 _ hl, Nat.add_zero, e0 _ _ _ 1 _ hl, e0 _ _ _ 2 _ hl, e0 _ _ _ 3 _ hl]
  simp [List.replicate_succ, Rc.cs]

end Go.Proofs.Ytdladmmhmncpoaa
