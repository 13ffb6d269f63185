/-
  A list of recipes marked with running numbers: only its own block turns.
-/
import Derived.Test.YtdladmmhmncpoaaToRecs
import Derived.Test.YtdladmmhmncpoaaMarkI
set_option linter.unusedSimpArgs false
set_option linter.unusedVariables false
namespace Go.Proofs.Ytdladmmhmncpoaa
open Go.RowKit

/-- A row of its own of s cells an element, whatever they hold. -/
def OwnAny (base : Nat) (w : World) (t : TypeId) (s : Nat) (v : Value) (n : Nat) : Prop := ∃ cs : List Value, w.ownsRow base t s v n cs

theorem OwnAny.cell {base : Nat} {w : World} {t : TypeId} {s g cap n : Nat} (h : OwnAny base w t s (.slice (some ⟨g, 0, none⟩) n cap) n) {q : Nat} (hq : q < n * s) : ∃ x, w.cell? ⟨g, q, none⟩ = some x := by
  obtain ⟨cs, ho⟩ := h
  have hl := ho.1
  rw [ho.cellAt q (by omega), List.getElem?_eq_getElem (show q < cs.length by omega)]
  exact ⟨_, rfl⟩

theorem OwnAny.frz {base : Nat} {w : World} {t : TypeId} {s g cap n : Nat} (h : OwnAny base w t s (.slice (some ⟨g, 0, none⟩) n cap) n) (q : Nat) : w.frozen? ⟨g, q, none⟩ = false := by
  obtain ⟨cs, ho⟩ := h
  exact ho.frozenAt q

theorem OwnAny.set_ {base : Nat} {w : World} {t : TypeId} {s g cap n : Nat} (h : OwnAny base w t s (.slice (some ⟨g, 0, none⟩) n cap) n) (q : Nat) (x : Value) : OwnAny base (w.setCell ⟨g, q, none⟩ x) t s (.slice (some ⟨g, 0, none⟩) n cap) n := by
  obtain ⟨cs, ho⟩ := h
  exact ⟨_, (ho.stored q x).1⟩

set_option maxHeartbeats 2000000 in
theorem markRecipeS_any (base : Nat) (v : Value) (l : List Rc) (a : Int) (w : World) (h : OwnR base w v l) (ha : 0 ≤ a) (hb : a + 4 * l.length ≤ 1000000000000) :
    Calls Try.prog 39 #[v, .int .i64 a] w fun e w' => e = .returned (.int .i64 (a + 4 * l.length)) ∧ w.grownBy w' v.ownBlock := by
  rcases hcase : h.2 with ⟨rfl, hn⟩ | ⟨g, cap, cur, rfl, hbg, hh, hnc, hcm, hsz, hxs⟩
  · have hz : l = [] := List.eq_nil_of_length_eq_zero hn
    subst hz
    clear hcase hn hb
    go_enter Try.func39, Try.ntmps39
    go_wp2
    go_loop [1, 5] (fun x i => i = .int .i64 0 ∧ x = .int .i64 a) (fun _ _ => 0)
    case atStart => exact ⟨rfl, rfl⟩
    case round =>
      obtain ⟨rfl, rfl⟩ := hrel
      go_wp2
      go_ret
      exact ⟨by simp, World.grownBy.refl _ _⟩
  · clear hcase hh hxs hsz
    have hml : l.length ≤ 1000000000000 := by omega
    have h0 : OwnAny base w 46 4 (.slice (some ⟨g, 0, none⟩) l.length cap) l.length := ⟨_, h⟩
    clear h
    go_enter Try.func39, Try.ntmps39
    go_wp2
    go_loopw [1, 5] (fun x i wr => ∃ k : Nat, k ≤ l.length ∧ i = .int .i64 k ∧ x = .int .i64 (a + 4 * k) ∧ OwnAny base wr 46 4 (.slice (some ⟨g, 0, none⟩) l.length cap) l.length ∧ w.grownBy wr (some g)) (fun _ i _ => l.length - (intOf i).toNat)
    case atStart => exact ⟨0, Nat.zero_le _, rfl, by simp, h0, World.grownBy.refl _ _⟩
    case round =>
      obtain ⟨k, hk, rfl, rfl, ho, hg⟩ := hrel
      clear h0
      by_cases hlt : k < l.length
      · have o1 := ho.set_ (k * 4) (.int .i64 (a + 4 * k))
        have o2 := o1.set_ (k * 4 + 1) (.int .i64 (a + 4 * k + 1))
        have o3 := o2.set_ (k * 4 + 2) (.int .i64 (a + 4 * k + 1 + 1))
        have HS := Lib.hid (o3.set_ (k * 4 + 3) (.int .i64 (a + 4 * k + 1 + 1 + 1)))
        have HG := Lib.hid (grownBy_set (grownBy_set (grownBy_set (grownBy_set hg (k * 4) (.int .i64 (a + 4 * k))) (k * 4 + 1) (.int .i64 (a + 4 * k + 1))) (k * 4 + 2) (.int .i64 (a + 4 * k + 1 + 1))) (k * 4 + 3) (.int .i64 (a + 4 * k + 1 + 1 + 1)))
        obtain ⟨x0, c0⟩ := ho.cell (q := k * 4) (by omega)
        obtain ⟨x1, c1⟩ := ho.cell (q := k * 4 + 1) (by omega)
        obtain ⟨x2, c2⟩ := ho.cell (q := k * 4 + 2) (by omega)
        obtain ⟨x3, c3⟩ := ho.cell (q := k * 4 + 3) (by omega)
        have f0 := ho.frz (k * 4)
        have f1 := ho.frz (k * 4 + 1)
        have f2 := ho.frz (k * 4 + 2)
        have f3 := ho.frz (k * 4 + 3)
        clear o1 o2 o3 ho hg
        go_wp2
        go_roundw
        case rel => exact ⟨k + 1, by omega, by go_num, by go_num, HS.out, HG.out⟩
        case measure => simp [intOf]; omega
      · have hkk : k = l.length := by omega
        subst hkk
        clear ho
        go_wp2
        go_ret
        exact ⟨rfl, hg⟩

end Go.Proofs.Ytdladmmhmncpoaa
