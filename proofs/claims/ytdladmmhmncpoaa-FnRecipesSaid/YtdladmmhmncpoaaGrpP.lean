/-
  The groups of recipes, in plain terms: the program's sweeps, and why both lists are the same.
-/
import Derived.Test.YtdladmmhmncpoaaGrpS
set_option linter.unusedSimpArgs false
set_option linter.unusedVariables false
namespace Go.Proofs.Ytdladmmhmncpoaa
open Go.RowKit

/-- One step of the program: out i takes the less of its own and out k. -/
def stepI (l : List Rc) (lim : Int) (g : List Int) (i k : Nat) : List Int := if adjF l lim i k then g.set i (min (g.getD i 0) (g.getD k 0)) else g

def rowI (l : List Rc) (lim : Int) (i : Nat) (g : List Int) : Nat → List Int
  | 0 => g
  | k + 1 => stepI l lim (rowI l lim i g k) i k

def sweepI (l : List Rc) (lim : Int) (g : List Int) : Nat → List Int
  | 0 => g
  | i + 1 => rowI l lim i (sweepI l lim g i) l.length

def roundsI (l : List Rc) (lim : Int) : Nat → List Int
  | 0 => runI 0 l.length
  | r + 1 => sweepI l lim (roundsI l lim r) l.length

def groupsI (l : List Rc) (lim : Int) : List Int := if recipesB l && inB lim 0 2000 then roundsI l lim l.length else []

/-- Joined by steps over neighbours. -/
inductive Conn (n : Nat) (adj : Nat → Nat → Bool) : Nat → Nat → Prop
  | refl (i : Nat) : Conn n adj i i
  | step (i j k : Nat) : Conn n adj i j → j < n → k < n → adj j k = true → Conn n adj i k

theorem Conn.trans {n : Nat} {adj : Nat → Nat → Bool} {i j k : Nat} (h : Conn n adj i j) (h' : Conn n adj j k) : Conn n adj i k := by
  induction h' with
  | refl => exact h
  | step b c _ hb hc ha ih => exact .step _ _ _ ih hb hc ha

theorem Conn.symm {n : Nat} {adj : Nat → Nat → Bool} (hs : ∀ i k, adj i k = adj k i) {i j : Nat} (h : Conn n adj i j) : Conn n adj j i := by
  induction h with
  | refl => exact .refl _
  | step b c _ hb hc ha ih => exact (Conn.step c c b (.refl _) hc hb (by rw [hs]; exact ha)).trans ih

/-- What both lists are: each number belongs to the component, and none of the component is less. -/
def Least (n : Nat) (adj : Nat → Nat → Bool) (g : List Int) : Prop :=
  g.length = n ∧ ∀ i, i < n → ∃ m : Nat, m < n ∧ g.getD i 0 = m ∧ Conn n adj i m ∧ ∀ j, j < n → Conn n adj i j → m ≤ j

theorem Least.unique {n : Nat} {adj : Nat → Nat → Bool} {g h : List Int} (hg : Least n adj g) (hh : Least n adj h) : g = h := by
  refine List.ext_getElem (by rw [hg.1, hh.1]) fun i h1 h2 => ?_
  have hi : i < n := by rw [← hg.1]; exact h1
  obtain ⟨m, hm, e1, c1, l1⟩ := hg.2 i hi
  obtain ⟨m', hm', e2, c2, l2⟩ := hh.2 i hi
  have : m = m' := Nat.le_antisymm (l1 m' hm' c2) (l2 m hm c1)
  subst this
  simpa [List.getD, List.getElem?_eq_getElem h1, List.getElem?_eq_getElem h2] using e1.trans e2.symm

/-- Members of the component, not above their place, alike at neighbours: that is the least. -/
theorem Least.of {n : Nat} {adj : Nat → Nat → Bool} {g : List Int} (hl : g.length = n)
    (hm : ∀ i, i < n → ∃ m : Nat, m < n ∧ g.getD i 0 = m ∧ Conn n adj i m ∧ m ≤ i) (he : ∀ i k, i < n → k < n → adj i k = true → g.getD i 0 = g.getD k 0) : Least n adj g := by
  have hc : ∀ i j, Conn n adj i j → g.getD i 0 = g.getD j 0 := by
    intro i j h
    induction h with
    | refl => rfl
    | step b c _ hb hc' ha ih => exact ih.trans (he b c hb hc' ha)
  refine ⟨hl, fun i hi => ?_⟩
  obtain ⟨m, h1, h2, h3, _⟩ := hm i hi
  refine ⟨m, h1, h2, h3, fun j hj hij => ?_⟩
  obtain ⟨m', _, e2, _, hle⟩ := hm j hj
  have := hc i j hij
  rw [h2, e2] at this
  omega

/-- The reference's invariant: each number is the name of its group, a member of the component, not above its place. -/
def SInv (n : Nat) (adj : Nat → Nat → Bool) (g : List Int) : Prop :=
  g.length = n ∧ ∀ i, i < n → ∃ m : Nat, m < n ∧ g.getD i 0 = m ∧ Conn n adj i m ∧ m ≤ i ∧ g.getD m 0 = m

theorem SInv.join {n : Nat} {adj : Nat → Nat → Bool} {g : List Int} (h : SInv n adj g) {a b : Nat} (ha : a < n) (hb : b < n) (hga : g.getD a 0 = a) (hgb : g.getD b 0 = b) (hab : a ≤ b) (hc : Conn n adj b a) :
    SInv n adj (joinF g a b) ∧ ∀ x, x < n → (joinF g a b).getD x 0 = if g.getD x 0 = b then (a : Int) else g.getD x 0 := by
  have key : ∀ x, x < n → (joinF g a b).getD x 0 = if g.getD x 0 = b then (a : Int) else g.getD x 0 := by
    intro x hx
    unfold joinF
    simp only [hga, hgb]
    split
    · rename_i e
      split
      · rename_i e2; rw [e2, e]
      · rfl
    · rw [getD_map (by rw [h.1]; exact hx)]
  have hlen : (joinF g a b).length = n := by
    unfold joinF
    simp only
    split
    · exact h.1
    · simpa using h.1
  refine ⟨⟨hlen, fun x hx => ?_⟩, key⟩
  obtain ⟨m, h1, h2, h3, h4, h5⟩ := h.2 x hx
  by_cases hm : m = b
  · subst hm
    refine ⟨a, ha, by rw [key x hx, h2, if_pos rfl], h3.trans hc, by omega, ?_⟩
    rw [key a ha, hga]
    split
    · rfl
    · rfl
  · refine ⟨m, h1, by rw [key x hx, h2, if_neg (by omega)], h3, h4, ?_⟩
    rw [key m h1, h5, if_neg (by omega)]

theorem distB_comm (a b c d a' b' c' d' : Int) : distB a b c d a' b' c' d' = distB a' b' c' d' a b c d := by
  unfold distB
  rw [Bool.and_comm]
  split
  · omega
  · rfl

theorem adjF_comm (l : List Rc) (lim : Int) (i k : Nat) : adjF l lim i k = adjF l lim k i := by
  unfold adjF Rc.dist
  rw [distB_comm]

/-- One step of the reference keeps the invariant, makes neighbours alike, and parts nothing that was alike. -/
theorem SInv.step {l : List Rc} {lim : Int} {g : List Int} (h : SInv l.length (adjF l lim) g) {i k : Nat} (hi : i < l.length) (hk : k < l.length) :
    SInv l.length (adjF l lim) (stepS l lim g i k) ∧ (adjF l lim i k = true → (stepS l lim g i k).getD i 0 = (stepS l lim g i k).getD k 0) ∧
      ∀ x y, x < l.length → y < l.length → g.getD x 0 = g.getD y 0 → (stepS l lim g i k).getD x 0 = (stepS l lim g i k).getD y 0 := by
  unfold stepS
  by_cases ha : adjF l lim i k = true
  · rw [if_pos ha]
    obtain ⟨m, m1, m2, m3, m4, m5⟩ := h.2 i hi
    obtain ⟨q, q1, q2, q3, q4, q5⟩ := h.2 k hk
    have hs := adjF_comm l lim
    have cik : Conn l.length (adjF l lim) i k := .step _ _ _ (.refl _) hi hk ha
    have cmq : Conn l.length (adjF l lim) m q := ((m3.symm hs).trans cik).trans q3
    rw [m2, q2]
    rcases Nat.le_total m q with hmq | hmq
    · rw [show (min (m : Int) (q : Int)).toNat = m from by omega, show (max (m : Int) (q : Int)).toNat = q from by omega]
      obtain ⟨j1, j2⟩ := h.join m1 q1 m5 q5 hmq (cmq.symm hs)
      refine ⟨j1, fun _ => ?_, fun x y hx hy he => by rw [j2 x hx, j2 y hy, he]⟩
      rw [j2 i hi, j2 k hk, m2, q2, if_pos rfl]
      split <;> rfl
    · rw [show (min (m : Int) (q : Int)).toNat = q from by omega, show (max (m : Int) (q : Int)).toNat = m from by omega]
      obtain ⟨j1, j2⟩ := h.join q1 m1 q5 m5 hmq cmq
      refine ⟨j1, fun _ => ?_, fun x y hx hy he => by rw [j2 x hx, j2 y hy, he]⟩
      rw [j2 i hi, j2 k hk, m2, q2, if_pos rfl]
      split <;> rfl
  · rw [if_neg ha]
    exact ⟨h, fun h' => absurd h' ha, fun _ _ _ _ he => he⟩

theorem SInv.inner {l : List Rc} {lim : Int} {g : List Int} (h : SInv l.length (adjF l lim) g) {k : Nat} (hk : k < l.length) : ∀ i, i ≤ l.length →
    SInv l.length (adjF l lim) (innerS l lim k g i) ∧ (∀ x, x < i → adjF l lim x k = true → (innerS l lim k g i).getD x 0 = (innerS l lim k g i).getD k 0) ∧
      ∀ x y, x < l.length → y < l.length → g.getD x 0 = g.getD y 0 → (innerS l lim k g i).getD x 0 = (innerS l lim k g i).getD y 0
  | 0, _ => ⟨h, fun x hx => absurd hx (by omega), fun _ _ _ _ he => he⟩
  | i + 1, hi => by
    obtain ⟨a1, a2, a3⟩ := SInv.inner h hk i (by omega)
    obtain ⟨b1, b2, b3⟩ := a1.step (i := i) (k := k) (by omega) hk
    refine ⟨b1, fun x hx hadj => ?_, fun x y hx hy he => b3 x y hx hy (a3 x y hx hy he)⟩
    by_cases hxi : x = i
    · subst hxi; exact b2 hadj
    · exact b3 x k (by omega) hk (a2 x (by omega) hadj)

theorem SInv.run (n : Nat) (adj : Nat → Nat → Bool) : SInv n adj (runI 0 n) :=
  ⟨runI_length _ _, fun i hi => ⟨i, hi, by rw [runI_get 0 n i hi]; omega, .refl _, Nat.le_refl _, by rw [runI_get 0 n i hi]; omega⟩⟩

theorem SInv.outer (l : List Rc) (lim : Int) : ∀ k, k ≤ l.length →
    SInv l.length (adjF l lim) (outerS l lim k) ∧ ∀ x y, x < y → y < k → adjF l lim x y = true → (outerS l lim k).getD x 0 = (outerS l lim k).getD y 0
  | 0, _ => ⟨SInv.run _ _, fun x y _ hy => absurd hy (by omega)⟩
  | k + 1, hk => by
    obtain ⟨a1, a2⟩ := SInv.outer l lim k (by omega)
    obtain ⟨b1, b2, b3⟩ := a1.inner (k := k) (by omega) k (by omega)
    refine ⟨b1, fun x y hxy hy hadj => ?_⟩
    by_cases hyk : y = k
    · subst hyk; exact b2 x hxy hadj
    · exact b3 x y (by omega) (by omega) (a2 x y hxy (by omega) hadj)

theorem outerS_least (l : List Rc) (lim : Int) : Least l.length (adjF l lim) (outerS l lim l.length) := by
  obtain ⟨h1, h2⟩ := SInv.outer l lim l.length (Nat.le_refl _)
  refine Least.of h1.1 (fun i hi => ?_) (fun i k hi hk ha => ?_)
  · obtain ⟨m, m1, m2, m3, m4, _⟩ := h1.2 i hi
    exact ⟨m, m1, m2, m3, m4⟩
  · rcases Nat.lt_trichotomy i k with h | h | h
    · exact h2 i k h hk ha
    · rw [h]
    · exact (h2 k i h hi (by rw [adjF_comm]; exact ha)).symm

end Go.Proofs.Ytdladmmhmncpoaa
