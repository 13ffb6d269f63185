/-
  What the law of the recipes asks, in plain terms, of three drawn recipes.
-/
import Derived.Test.YtdladmmhmncpoaaGrpI
import Derived.Test.YtdladmmhmncpoaaDrawRs
set_option linter.unusedSimpArgs false
set_option linter.unusedVariables false
namespace Go.Proofs.Ytdladmmhmncpoaa
open Go.RowKit

theorem DrR.ok {s a l m : Int} (h : DrR ⟨s, a, l, m⟩) : recipeB s a l m = true := by
  obtain ⟨h1, h2, h3, h4, h5, h6, h7⟩ := h
  simp only at h1 h2 h3 h4 h5 h6 h7
  unfold recipeB
  simp [inB]
  omega

theorem dr_dist {s a l m s' a' l' m' : Int} (h : DrR ⟨s, a, l, m⟩) (h' : DrR ⟨s', a', l', m'⟩) :
    distB s a l m s' a' l' m' = ((s - s').natAbs : Int) + ((a - a').natAbs : Int) + ((l - l').natAbs : Int) + ((m - m').natAbs : Int) := by
  unfold distB
  rw [h.ok, h'.ok]
  rfl

theorem dr_bd {s a l m s' a' l' m' : Int} (h : DrR ⟨s, a, l, m⟩) (h' : DrR ⟨s', a', l', m'⟩) :
    0 ≤ distB s a l m s' a' l' m' ∧ distB s a l m s' a' l' m' ≤ 4000 ∧ distB s a l m s' a' l' m' % 2 = 0 ∧ (distB s a l m s' a' l' m' = 0 ↔ (s = s' ∧ a = a' ∧ l = l' ∧ m = m')) := by
  rw [dr_dist h h']
  obtain ⟨h1, h2, h3, h4, h5, h6, h7⟩ := h
  obtain ⟨k1, k2, k3, k4, k5, k6, k7⟩ := h'
  simp only at *
  refine ⟨by omega, by omega, by omega, by omega⟩

theorem dr_tri {s a l m s' a' l' m' s2 a2 l2 m2 : Int} (h : DrR ⟨s, a, l, m⟩) (h' : DrR ⟨s', a', l', m'⟩) (h2 : DrR ⟨s2, a2, l2, m2⟩) :
    distB s a l m s2 a2 l2 m2 ≤ distB s a l m s' a' l' m' + distB s' a' l' m' s2 a2 l2 m2 := by
  rw [dr_dist h h', dr_dist h h2, dr_dist h' h2]
  have key : ∀ x y z : Int, ((x - z).natAbs : Int) ≤ ((x - y).natAbs : Int) + ((y - z).natAbs : Int) := by intro x y z; omega
  exact Int.le_trans (Int.add_le_add (Int.add_le_add (Int.add_le_add (key s s' s2) (key a a' a2)) (key l l' l2)) (key m m' m2)) (by
    generalize ((s - s').natAbs : Int) = x1
    generalize ((s' - s2).natAbs : Int) = x2
    generalize ((a - a').natAbs : Int) = x3
    generalize ((a' - a2).natAbs : Int) = x4
    generalize ((l - l').natAbs : Int) = x5
    generalize ((l' - l2).natAbs : Int) = x6
    generalize ((m - m').natAbs : Int) = x7
    generalize ((m' - m2).natAbs : Int) = x8
    omega)

theorem dr_ok {r : Rc} (h : DrR r) : r.ok = true := by
  obtain ⟨s, a, l, m⟩ := r
  exact h.ok

theorem dr_recipes3 {r s t : Rc} (hr : DrR r) (hs : DrR s) (ht : DrR t) : recipesB [r, s, t] = true := by
  simp [recipesB, dr_ok hr, dr_ok hs, dr_ok ht]

theorem dr_recipes2 {s t : Rc} (hs : DrR s) (ht : DrR t) : recipesB [s, t] = true := by
  simp [recipesB, dr_ok hs, dr_ok ht]

theorem grp3 {r s t : Rc} (hr : DrR r) (hs : DrR s) (ht : DrR t) {lim : Int} (h0 : 0 ≤ lim) (h1 : lim ≤ 255) :
    ∃ x y : Int, groupsI [r, s, t] lim = [0, x, y] ∧ (r.dist s ≤ lim → x = 0) ∧ (r.dist t ≤ lim → y = 0) := by
  have e : groupsI [r, s, t] lim = roundsI [r, s, t] lim 3 := groupsI_yes (dr_recipes3 hr hs ht) (by simp [inB]; omega)
  have hL := roundsI_least [r, s, t] lim
  rw [e]
  obtain ⟨hl, hc⟩ := hL
  change (roundsI [r, s, t] lim 3).length = 3 at hl
  change ∀ i, i < 3 → ∃ m : Nat, m < 3 ∧ (roundsI [r, s, t] lim 3).getD i 0 = m ∧ Conn 3 (adjF [r, s, t] lim) i m ∧ ∀ j, j < 3 → Conn 3 (adjF [r, s, t] lim) i j → m ≤ j at hc
  generalize roundsI [r, s, t] lim 3 = g at *
  match g, hl with
  | [z, x, y], _ =>
    obtain ⟨m0, _, e0, _, l0⟩ := hc 0 (by omega)
    obtain ⟨m1, _, e1, _, l1⟩ := hc 1 (by omega)
    obtain ⟨m2, _, e2, _, l2⟩ := hc 2 (by omega)
    have q0 := l0 0 (by omega) (.refl _)
    simp at e0 e1 e2
    refine ⟨x, y, by rw [e0]; simp; omega, fun h => ?_, fun h => ?_⟩
    · have := l1 0 (by omega) (.step _ _ _ (.refl _) (by omega) (by omega) (by
        rw [adjF_comm]; simp only [adjF, decide_eq_true_eq]; exact h))
      omega
    · have := l2 0 (by omega) (.step _ _ _ (.refl _) (by omega) (by omega) (by
        rw [adjF_comm]; simp only [adjF, decide_eq_true_eq]; exact h))
      omega

theorem avg3 {s a l m s' a' l' m' s2 a2 l2 m2 : Int} (h : DrR ⟨s, a, l, m⟩) (h' : DrR ⟨s', a', l', m'⟩) (h2 : DrR ⟨s2, a2, l2, m2⟩) :
    ∃ x0 x1 x2 x3 : Int, avgF [⟨s, a, l, m⟩, ⟨s', a', l', m'⟩, ⟨s2, a2, l2, m2⟩] = (⟨x0, x1, x2, x3⟩, true) ∧ recipeB x0 x1 x2 x3 = true ∧ min (min a a') a2 ≤ x1 ∧ x1 ≤ max (max a a') a2 := by
  refine ⟨_, _, _, _, by unfold avgF; rw [dr_recipes3 h h' h2]; rfl, ?_, ?_, ?_⟩
  · obtain ⟨h1, h2', h3, h4, h5, h6, h7⟩ := h
    obtain ⟨k1, k2, k3, k4, k5, k6, k7⟩ := h'
    obtain ⟨j1, j2, j3, j4, j5, j6, j7⟩ := h2
    simp only at *
    unfold recipeB
    simp [inB, sumF]
    omega
  · simp [sumF]; omega
  · simp [sumF]; omega

theorem near2 {r s t : Rc} (hr : DrR r) (hs : DrR s) (ht : DrR t) : nearF [s, t] r = if t.dist r < s.dist r then 1 else 0 := by
  rw [nearF_yes (dr_recipes2 hs ht) (dr_ok hr)]
  simp [nearK, List.getD]

theorem forg3 {r s t : Rc} (hr : DrR r) (hs : DrR s) (ht : DrR t) : forgedF [r, s, t] r 0 = false := by
  have e : nearF [r, s, t] r = 0 := by
    rw [nearF_yes (dr_recipes3 hr hs ht) (dr_ok hr)]
    have d0 : r.dist r = 0 := by
      obtain ⟨a, b, c, d⟩ := r
      exact ((dr_bd hr hr).2.2.2).2 ⟨rfl, rfl, rfl, rfl⟩
    have d1 : 0 ≤ s.dist r := by obtain ⟨a, b, c, d⟩ := r; obtain ⟨a', b', c', d'⟩ := s; exact (dr_bd hs hr).1
    have d2 : 0 ≤ t.dist r := by obtain ⟨a, b, c, d⟩ := r; obtain ⟨a', b', c', d'⟩ := t; exact (dr_bd ht hr).1
    have n1 : nearK [r, s, t] r 1 = ((0 : Nat) : Int) := nearK_first (by simp [nearK])
    have n2 : nearK [r, s, t] r 2 = ((0 : Nat) : Int) := nearK_old n1 (by simp) (by simp) (by show ¬ s.dist r < r.dist r; omega)
    have n3 : nearK [r, s, t] r 3 = ((0 : Nat) : Int) := nearK_old n2 (by simp) (by simp) (by show ¬ t.dist r < r.dist r; omega)
    exact n3
  have d0 : r.dist r = 0 := by
    obtain ⟨a, b, c, d⟩ := r
    exact ((dr_bd hr hr).2.2.2).2 ⟨rfl, rfl, rfl, rfl⟩
  simp [forgedF, e, d0]

theorem forg2 {r s t : Rc} (hr : DrR r) (hs : DrR s) (ht : DrR t) {lim : Int} (h0 : 0 ≤ lim) (h1 : lim ≤ 255) : forgedF [s, t] r lim = decide (lim < if t.dist r < s.dist r then t.dist r else s.dist r) := by
  have hin : inB lim 0 2000 = true := by simp [inB]; omega
  unfold forgedF
  rw [near2 hr hs ht, hin]
  split
  · simp
  · simp

end Go.Proofs.Ytdladmmhmncpoaa
