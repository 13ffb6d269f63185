/-
  The program's sweeps come to the least of each component.
-/
import Derived.Test.YtdladmmhmncpoaaGrpP
set_option linter.unusedSimpArgs false
set_option linter.unusedVariables false
namespace Go.Proofs.Ytdladmmhmncpoaa
open Go.RowKit

def IInv (n : Nat) (adj : Nat → Nat → Bool) (g : List Int) : Prop :=
  g.length = n ∧ ∀ i, i < n → ∃ m : Nat, m < n ∧ g.getD i 0 = m ∧ Conn n adj i m ∧ m ≤ i

theorem getD_set {g : List Int} {i x : Nat} {v : Int} (hi : i < g.length) : (g.set i v).getD x 0 = if x = i then v else g.getD x 0 := by
  simp only [List.getD, List.getElem?_set]
  by_cases h : x = i
  · subst h; simp [hi]
  · rw [if_neg (by omega), if_neg h]

theorem IInv.step {l : List Rc} {lim : Int} {g : List Int} (h : IInv l.length (adjF l lim) g) {i k : Nat} (hi : i < l.length) (hk : k < l.length) :
    IInv l.length (adjF l lim) (stepI l lim g i k) ∧ (adjF l lim i k = true → (stepI l lim g i k).getD i 0 ≤ g.getD k 0) ∧ ∀ x, x < l.length → (stepI l lim g i k).getD x 0 ≤ g.getD x 0 := by
  unfold stepI
  by_cases ha : adjF l lim i k = true
  · rw [if_pos ha]
    have hl : i < g.length := by rw [h.1]; exact hi
    obtain ⟨m, m1, m2, m3, m4⟩ := h.2 i hi
    obtain ⟨q, q1, q2, q3, q4⟩ := h.2 k hk
    have cik : Conn l.length (adjF l lim) i k := .step _ _ _ (.refl _) hi hk ha
    refine ⟨⟨by simpa using h.1, fun x hx => ?_⟩, fun _ => ?_, fun x hx => ?_⟩
    · rw [getD_set hl]
      by_cases hxi : x = i
      · subst hxi
        rw [if_pos rfl, m2, q2]
        rcases Nat.le_total m q with hmq | hmq
        · exact ⟨m, m1, by omega, m3, m4⟩
        · exact ⟨q, q1, by omega, cik.trans q3, by omega⟩
      · rw [if_neg hxi]; exact h.2 x hx
    · rw [getD_set hl, if_pos rfl]; omega
    · rw [getD_set hl]; split
      · rename_i e; subst e; omega
      · omega
  · rw [if_neg ha]
    exact ⟨h, fun h' => absurd h' ha, fun _ _ => Int.le_refl _⟩

theorem IInv.row {l : List Rc} {lim : Int} {g : List Int} (h : IInv l.length (adjF l lim) g) {i : Nat} (hi : i < l.length) : ∀ k, k ≤ l.length →
    IInv l.length (adjF l lim) (rowI l lim i g k) ∧ (∀ x, x < k → adjF l lim i x = true → (rowI l lim i g k).getD i 0 ≤ g.getD x 0) ∧ ∀ x, x < l.length → (rowI l lim i g k).getD x 0 ≤ g.getD x 0
  | 0, _ => ⟨h, fun x hx => absurd hx (by omega), fun _ _ => Int.le_refl _⟩
  | k + 1, hk => by
    obtain ⟨a1, a2, a3⟩ := IInv.row h hi k (by omega)
    obtain ⟨b1, b2, b3⟩ := a1.step (i := i) (k := k) hi (by omega)
    refine ⟨b1, fun x hx ha => ?_, fun x hx => Int.le_trans (b3 x hx) (a3 x hx)⟩
    by_cases hxk : x = k
    · subst hxk; exact Int.le_trans (b2 ha) (a3 x (by omega))
    · exact Int.le_trans (b3 i hi) (a2 x (by omega) ha)

theorem IInv.sweep {l : List Rc} {lim : Int} {g : List Int} (h : IInv l.length (adjF l lim) g) : ∀ i, i ≤ l.length →
    IInv l.length (adjF l lim) (sweepI l lim g i) ∧ (∀ y x, y < i → x < l.length → adjF l lim y x = true → (sweepI l lim g i).getD y 0 ≤ g.getD x 0) ∧ ∀ x, x < l.length → (sweepI l lim g i).getD x 0 ≤ g.getD x 0
  | 0, _ => ⟨h, fun y x hy => absurd hy (by omega), fun _ _ => Int.le_refl _⟩
  | i + 1, hi => by
    obtain ⟨a1, a2, a3⟩ := IInv.sweep h i (by omega)
    obtain ⟨b1, b2, b3⟩ := a1.row (i := i) (by omega) l.length (Nat.le_refl _)
    refine ⟨b1, fun y x hy hx ha => ?_, fun x hx => Int.le_trans (b3 x hx) (a3 x hx)⟩
    by_cases hyi : y = i
    · subst hyi; exact Int.le_trans (b2 x hx ha) (a3 x hx)
    · exact Int.le_trans (b3 y (by omega)) (a2 y x (by omega) hx ha)

theorem IInv.run (n : Nat) (adj : Nat → Nat → Bool) : IInv n adj (runI 0 n) :=
  ⟨runI_length _ _, fun i hi => ⟨i, hi, by rw [runI_get 0 n i hi]; omega, .refl _, Nat.le_refl _⟩⟩

theorem IInv.rounds (l : List Rc) (lim : Int) : ∀ r, IInv l.length (adjF l lim) (roundsI l lim r)
  | 0 => IInv.run _ _
  | r + 1 => ((IInv.rounds l lim r).sweep l.length (Nat.le_refl _)).1

/-- Reached from m in at most r steps. -/
def reachB (n : Nat) (adj : Nat → Nat → Bool) (m : Nat) : Nat → Nat → Bool
  | 0, i => decide (i = m)
  | r + 1, i => reachB n adj m r i || (List.range n).any fun k => reachB n adj m r k && adj k i

theorem reach_mono {n : Nat} {adj : Nat → Nat → Bool} {m r i : Nat} (h : reachB n adj m r i = true) : reachB n adj m (r + 1) i = true := by
  simp [reachB, h]

theorem filter_le {p q : Nat → Bool} : ∀ (l : List Nat), (∀ x ∈ l, p x = true → q x = true) → (l.filter p).length ≤ (l.filter q).length
  | [], _ => by simp
  | a :: l, h => by
    have ih := filter_le l (fun x hx => h x (by simp [hx]))
    have ha := h a (by simp)
    simp only [List.filter_cons]
    split
    · rename_i hp; rw [if_pos (ha hp)]; simpa using ih
    · split
      · simp; omega
      · exact ih

theorem filter_eq {p q : Nat → Bool} : ∀ (l : List Nat), (∀ x ∈ l, p x = true → q x = true) → (l.filter p).length = (l.filter q).length → ∀ x ∈ l, q x = true → p x = true
  | [], _, _ => by simp
  | a :: l, h, he => by
    have hle := filter_le l (fun x hx => h x (by simp [hx]))
    have ha := h a (by simp)
    simp only [List.filter_cons] at he
    have key : (q a = true → p a = true) ∧ (l.filter p).length = (l.filter q).length := by
      by_cases hp : p a = true
      · rw [if_pos hp, if_pos (ha hp)] at he
        exact ⟨fun _ => hp, by simpa using he⟩
      · rw [if_neg hp] at he
        by_cases hq : q a = true
        · rw [if_pos hq] at he; simp at he; omega
        · rw [if_neg hq] at he; exact ⟨fun h => absurd h hq, he⟩
    intro x hx hqx
    rcases List.mem_cons.1 hx with e | hx
    · rw [e] at hqx ⊢; exact key.1 hqx
    · exact filter_eq l (fun x hx => h x (by simp [hx])) key.2 x hx hqx
/-- n steps reach whatever can be reached. -/
theorem reach_all {n : Nat} {adj : Nat → Nat → Bool} {m : Nat} (hm : m < n) {i : Nat} (h : Conn n adj m i) : reachB n adj m n i = true := by
  have grow : ∀ r, (∃ s, s ≤ r ∧ ∀ x, x < n → reachB n adj m (s + 1) x = true → reachB n adj m s x = true) ∨ r + 1 ≤ ((List.range n).filter (reachB n adj m r)).length := by
    intro r
    induction r with
    | zero =>
      right
      have : m ∈ (List.range n).filter (reachB n adj m 0) := by simp [reachB, hm]
      exact List.length_pos_of_mem this
    | succ r ih =>
      rcases ih with ⟨s, hs, h⟩ | ih
      · exact .inl ⟨s, by omega, h⟩
      · have hle := filter_le (p := reachB n adj m r) (q := reachB n adj m (r + 1)) (List.range n) (fun x _ => reach_mono)
        by_cases he : ((List.range n).filter (reachB n adj m r)).length = ((List.range n).filter (reachB n adj m (r + 1))).length
        · refine .inl ⟨r, by omega, fun x hx hq => ?_⟩
          exact filter_eq (List.range n) (fun x _ => reach_mono) he x (by simpa using hx) hq
        · right; omega
  have stab : ∃ s, s ≤ n ∧ ∀ x, x < n → reachB n adj m (s + 1) x = true → reachB n adj m s x = true := by
    rcases grow n with h | h
    · exact h
    · have := List.length_filter_le (reachB n adj m n) (List.range n)
      simp only [List.length_range] at this
      omega
  obtain ⟨s, hs, hst⟩ := stab
  have up : ∀ d x, reachB n adj m s x = true → reachB n adj m (s + d) x = true := by
    intro d x hx
    induction d with
    | zero => exact hx
    | succ d ih => exact reach_mono ih
  have zero : ∀ r, reachB n adj m r m = true := by
    intro r
    induction r with
    | zero => simp [reachB]
    | succ r ih => exact reach_mono ih
  have all : reachB n adj m s i = true := by
    induction h with
    | refl => exact zero s
    | step j k _ hj hk ha ih =>
      refine hst k hk ?_
      simp only [reachB, Bool.or_eq_true]
      right
      rw [List.any_eq_true]
      exact ⟨j, by simpa using hj, by simp [ih, ha]⟩
  have := up (n - s) i all
  rwa [show s + (n - s) = n by omega] at this

theorem rounds_le (l : List Rc) (lim : Int) (m : Nat) (hm : m < l.length) : ∀ r i, i < l.length → reachB l.length (adjF l lim) m r i = true → (roundsI l lim r).getD i 0 ≤ m
  | 0, i, hi, h => by
    have : i = m := by simpa [reachB] using h
    subst this
    show (runI 0 l.length).getD i 0 ≤ i
    rw [runI_get 0 _ i hi]; omega
  | r + 1, i, hi, h => by
    have hs := (IInv.rounds l lim r).sweep l.length (Nat.le_refl _)
    simp only [reachB, Bool.or_eq_true] at h
    rcases h with h | h
    · exact Int.le_trans (hs.2.2 i hi) (rounds_le l lim m hm r i hi h)
    · rw [List.any_eq_true] at h
      obtain ⟨k, hk, hk2⟩ := h
      have hkn : k < l.length := by simpa using hk
      rw [Bool.and_eq_true] at hk2
      exact Int.le_trans (hs.2.1 i k hi hkn (by rw [adjF_comm]; exact hk2.2)) (rounds_le l lim m hm r k hkn hk2.1)

theorem roundsI_least (l : List Rc) (lim : Int) : Least l.length (adjF l lim) (roundsI l lim l.length) := by
  have hI := IInv.rounds l lim l.length
  refine ⟨hI.1, fun i hi => ?_⟩
  obtain ⟨m, m1, m2, m3, _⟩ := hI.2 i hi
  refine ⟨m, m1, m2, m3, fun j hj hc => ?_⟩
  have := rounds_le l lim j hj l.length i hi (reach_all hj (hc.symm (adjF_comm l lim)))
  rw [m2] at this
  omega
/-- Both lists are one. -/
theorem groups_eq (l : List Rc) (lim : Int) : groupsI l lim = groupsS l lim := by
  unfold groupsI groupsS
  split
  · exact (roundsI_least l lim).unique (outerS_least l lim)
  · rfl

end Go.Proofs.Ytdladmmhmncpoaa
