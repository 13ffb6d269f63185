/- part 23 -/
import Derived.Test.YtbennlajjfkdpaaGreatDoorFPk22
set_option linter.unusedSimpArgs false
set_option linter.unusedVariables false
namespace Go.Proofs.YtbennlajjfkdpaaGreatDoor
def addS (s : Nat) (l : Pr) : Nat := if s.testBit l.1.toNat || s.testBit l.2.toNat then s ||| (2 ^ l.1.toNat ||| 2 ^ l.2.toNat) else s
def roundS (s : Nat) (ls : List Pr) : Nat := ls.foldl addS s
def roundsS (s : Nat) (ls : List Pr) : Nat → Nat
  | 0 => s
  | k + 1 => roundS (roundsS s ls k) ls
theorem addS_sub (s : Nat) (l : Pr) {i : Nat} (h : s.testBit i = true) : (addS s l).testBit i = true := by
  unfold addS
  split
  · rw [Nat.testBit_or, h]; rfl
  · exact h
theorem roundS_sub : ∀ (ls : List Pr) (s : Nat) {i : Nat}, s.testBit i = true → (roundS s ls).testBit i = true
  | [], s, i, h => h
  | l :: ls, s, i, h => by
    show (roundS (addS s l) ls).testBit i = true
    exact roundS_sub ls _ (addS_sub s l h)
theorem roundS_append (s : Nat) (a b : List Pr) : roundS s (a ++ b) = roundS (roundS s a) b := by simp [roundS]
theorem addS_lt {s m : Nat} {l : Pr} (hs : s < 2 ^ m) (h1 : l.1.toNat < m) (h2 : l.2.toNat < m) : addS s l < 2 ^ m := by
  unfold addS
  split
  · exact Nat.or_lt_two_pow hs (Nat.or_lt_two_pow (Nat.pow_lt_pow_right (by omega) h1) (Nat.pow_lt_pow_right (by omega) h2))
  · exact hs
theorem roundS_lt {m : Nat} : ∀ (ls : List Pr) (s : Nat), s < 2 ^ m → (∀ l ∈ ls, l.1.toNat < m ∧ l.2.toNat < m) → roundS s ls < 2 ^ m
  | [], s, h, _ => h
  | l :: ls, s, h, hl => by
    show roundS (addS s l) ls < 2 ^ m
    exact roundS_lt ls _ (addS_lt h (hl l (by simp)).1 (hl l (by simp)).2) (fun x hx => hl x (by simp [hx]))
theorem roundsS_lt {m : Nat} {ls : List Pr} {s : Nat} (h : s < 2 ^ m) (hl : ∀ l ∈ ls, l.1.toNat < m ∧ l.2.toNat < m) : ∀ k, roundsS s ls k < 2 ^ m
  | 0 => h
  | k + 1 => roundS_lt ls _ (roundsS_lt h hl k) hl
theorem round_fix {s : Nat} {ls : List Pr} (h : roundS s ls = s) : ∀ l ∈ ls, (s.testBit l.1.toNat = true ↔ s.testBit l.2.toNat = true) := by
  have key : ∀ (ls : List Pr) (t : Nat), (∀ i, s.testBit i = true → t.testBit i = true) → (∀ i, (roundS t ls).testBit i = true → s.testBit i = true) → ∀ l ∈ ls, (s.testBit l.1.toNat = true ↔ s.testBit l.2.toNat = true) := by
    intro ls
    induction ls with
    | nil => intro t _ _ l hl; cases hl
    | cons x ls ih =>
      intro t h1 h2 l hl
      have h3 : ∀ i, (addS t x).testBit i = true → s.testBit i = true := fun i hi => h2 i (roundS_sub ls _ hi)
      rcases List.mem_cons.1 hl with rfl | hl
      · have h4 : s.testBit l.1.toNat = true ∨ s.testBit l.2.toNat = true → s.testBit l.1.toNat = true ∧ s.testBit l.2.toNat = true := by
          intro hor
          have ht : (t.testBit l.1.toNat || t.testBit l.2.toNat) = true := by
            rcases hor with h5 | h5
            · rw [h1 _ h5]; rfl
            · rw [h1 _ h5, Bool.or_true]
          have e : addS t l = t ||| (2 ^ l.1.toNat ||| 2 ^ l.2.toNat) := by unfold addS; rw [if_pos ht]
          constructor
          · exact h3 _ (by rw [e]; simp [Nat.testBit_or, Nat.testBit_two_pow_self])
          · exact h3 _ (by rw [e]; simp [Nat.testBit_or, Nat.testBit_two_pow_self])
        exact ⟨fun h5 => (h4 (.inl h5)).2, fun h5 => (h4 (.inr h5)).1⟩
      · exact ih (addS t x) (fun i hi => addS_sub t x (h1 i hi)) h2 l hl
  exact key ls s (fun _ h => h) (fun i hi => by rw [h] at hi; exact hi)
theorem memS_mono {s t m : Nat} (h : ∀ i, s.testBit i = true → t.testBit i = true) : (memS s m).length ≤ (memS t m).length := by
  induction m with
  | zero => simp [memS]
  | succ m ih =>
    cases hs : s.testBit m
    · rw [memS_succ_no hs]
      cases ht : t.testBit m
      · rw [memS_succ_no ht]; exact ih
      · rw [memS_succ_yes ht]; simp; omega
    · rw [memS_succ_yes hs, memS_succ_yes (h m hs)]; simp; exact ih
theorem memS_strict {s t m : Nat} (h : ∀ i, s.testBit i = true → t.testBit i = true) (hs : s < 2 ^ m) (ht : t < 2 ^ m) (hne : s ≠ t) : (memS s m).length < (memS t m).length := by
  have hi : ∃ i, i < m ∧ s.testBit i = false ∧ t.testBit i = true := by
    apply Classical.byContradiction
    intro hc
    apply hne
    apply Nat.eq_of_testBit_eq
    intro i
    cases h1 : s.testBit i
    · cases h2 : t.testBit i
      · rfl
      · have hm : i < m := by
          apply Classical.byContradiction
          intro hm
          rw [Nat.testBit_lt_two_pow (Nat.lt_of_lt_of_le ht (Nat.pow_le_pow_right (by omega) (by omega)))] at h2
          cases h2
        exact absurd ⟨i, hm, h1, h2⟩ hc
    · exact (h i h1).symm
  obtain ⟨i, him, h1, h2⟩ := hi
  clear hs ht hne
  induction m with
  | zero => omega
  | succ m ih =>
    by_cases he : i = m
    · subst he
      rw [memS_succ_no h1, memS_succ_yes h2]
      have := memS_mono (m := i) h
      simp; omega
    · have := ih (by omega)
      cases hs : s.testBit m
      · rw [memS_succ_no hs]
        cases ht : t.testBit m
        · rw [memS_succ_no ht]; exact this
        · rw [memS_succ_yes ht]; simp; omega
      · rw [memS_succ_yes hs, memS_succ_yes (h m hs)]; simp; exact this
theorem rounds_fix {s m : Nat} {ls : List Pr} (hs : s < 2 ^ m) (h0 : 0 < (memS s m).length) (hl : ∀ l ∈ ls, l.1.toNat < m ∧ l.2.toNat < m) : roundS (roundsS s ls m) ls = roundsS s ls m := by
  apply Classical.byContradiction
  intro hc
  have stay : ∀ k j, roundS (roundsS s ls k) ls = roundsS s ls k → roundsS s ls (k + j) = roundsS s ls k := by
    intro k j hk
    induction j with
    | zero => rfl
    | succ j ih => show roundS (roundsS s ls (k + j)) ls = _; rw [ih, hk]
  have hne : ∀ k, k ≤ m → roundS (roundsS s ls k) ls ≠ roundsS s ls k := by
    intro k hk he
    have := stay k (m - k) he
    rw [show k + (m - k) = m by omega] at this
    rw [this] at hc
    exact hc he
  have grow : ∀ k, k ≤ m → k < (memS (roundsS s ls k) m).length := by
    intro k
    induction k with
    | zero => intro _; exact h0
    | succ k ih =>
      intro hk
      have h1 := ih (by omega)
      have h2 := memS_strict (s := roundsS s ls k) (t := roundS (roundsS s ls k) ls) (m := m) (fun i hi => roundS_sub ls _ hi) (roundsS_lt hs hl k) (roundS_lt ls _ (roundsS_lt hs hl k) hl) (fun e => hne k (by omega) e.symm)
      show k + 1 < (memS (roundS (roundsS s ls k) ls) m).length
      omega
  have h1 := grow m (Nat.le_refl _)
  have h2 := memS_le (roundsS s ls m) m
  omega
theorem joinG_cases (a b x : Int) : joinG a b x = x ∨ (x = mx2 a b ∧ joinG a b x = mn2 a b) := by
  unfold joinG; split
  · rename_i h; exact .inr ⟨h, rfl⟩
  · exact .inl rfl
theorem mxmn (a b : Int) : (mx2 a b = a ∧ mn2 a b = b) ∨ (mx2 a b = b ∧ mn2 a b = a) := by
  rw [mx2_eq, mn2_eq]; omega
theorem getD_mapG {g : List Int} {f : Int → Int} {i : Nat} (h : i < g.length) : (g.map f).getD i 0 = f (g.getD i 0) := by
  simp [List.getD, h]
def EndsIn (n : Nat) (ls : List Pr) : Prop := ∀ j : Nat, j < ls.length → ∃ p q : Nat, (ndI ls j).1 = p ∧ (ndI ls j).2 = q ∧ p < n ∧ q < n
theorem parts_bd {n : Nat} {ls : List Pr} (hl : EndsIn n ls) : ∀ k, k ≤ ls.length → ∀ i, i < n → 0 ≤ (partsK n ls k).getD i 0 ∧ (partsK n ls k).getD i 0 ≤ i
  | 0, _, i, hi => by
    rw [partsK_zero]
    have : (natI (List.range n)).getD i 0 = (i : Int) := by simp [natI, List.getD, hi]
    rw [this]; omega
  | k + 1, hk, i, hi => by
    obtain ⟨p, q, h1, h2, h3, h4⟩ := hl k (by omega)
    rw [partsK_succ n ls k (by omega) p q h1 h2, getD_mapG (by rw [partsK_len]; exact hi)]
    have hb := parts_bd hl k (by omega)
    have hp := hb p h3
    have hq := hb q h4
    have h0 := hb i hi
    rcases joinG_cases ((partsK n ls k).getD p 0) ((partsK n ls k).getD q 0) ((partsK n ls k).getD i 0) with h | ⟨h, h'⟩
    · rw [h]; exact h0
    · rw [h']
      rw [mx2_eq] at h
      rw [mn2_eq]
      omega
theorem parts_closed {n : Nat} {ls : List Pr} (hl : EndsIn n ls) (C : Nat → Prop) (hC : ∀ j : Nat, j < ls.length → ∀ p q : Nat, (ndI ls j).1 = p → (ndI ls j).2 = q → (C p ↔ C q)) : ∀ k, k ≤ ls.length → ∀ i, i < n → (C i ↔ C ((partsK n ls k).getD i 0).toNat)
  | 0, _, i, hi => by
    rw [partsK_zero]
    have : (natI (List.range n)).getD i 0 = (i : Int) := by simp [natI, List.getD, hi]
    rw [this, Int.toNat_natCast]
  | k + 1, hk, i, hi => by
    obtain ⟨p, q, h1, h2, h3, h4⟩ := hl k (by omega)
    rw [partsK_succ n ls k (by omega) p q h1 h2, getD_mapG (by rw [partsK_len]; exact hi)]
    have ih := parts_closed hl C hC k (by omega)
    have hp := ih p h3
    have hq := ih q h4
    have h0 := ih i hi
    have hpq := hC k (by omega) p q h1 h2
    generalize (partsK n ls k).getD p 0 = a at *
    generalize (partsK n ls k).getD q 0 = b at *
    generalize (partsK n ls k).getD i 0 = x at *
    rcases joinG_cases a b x with h | ⟨h, h'⟩
    · rw [h]; exact h0
    · rw [h', h0, h]
      rcases mxmn a b with ⟨e1, e2⟩ | ⟨e1, e2⟩ <;> rw [e1, e2]
      · rw [← hp, ← hq, hpq]
      · rw [← hp, ← hq, hpq]
theorem parts_same {n : Nat} {ls : List Pr} (hl : EndsIn n ls) : ∀ k, k ≤ ls.length → ∀ j, j < k → ∀ p q : Nat, (ndI ls j).1 = p → (ndI ls j).2 = q → (partsK n ls k).getD p 0 = (partsK n ls k).getD q 0
  | 0, _, j, hj, _, _, _, _ => absurd hj (by omega)
  | k + 1, hk, j, hj, p, q, hp, hq => by
    obtain ⟨p', q', h1, h2, h3, h4⟩ := hl k (by omega)
    obtain ⟨p2, q2, g1, g2, g3, g4⟩ := hl j (by omega)
    have e1 : p2 = p := by rw [hp] at g1; omega
    have e2 : q2 = q := by rw [hq] at g2; omega
    subst e1 e2
    rw [partsK_succ n ls k (by omega) p' q' h1 h2, getD_mapG (by rw [partsK_len]; exact g3), getD_mapG (by rw [partsK_len]; exact g4)]
    by_cases he : j = k
    · subst he
      have e3 : p' = p2 := by rw [hp] at h1; omega
      have e4 : q' = q2 := by rw [hq] at h2; omega
      subst e3 e4
      generalize (partsK n ls j).getD p' 0 = a
      generalize (partsK n ls j).getD q' 0 = b
      unfold joinG
      rcases mxmn a b with ⟨x1, x2⟩ | ⟨x1, x2⟩ <;> rw [x1, x2] <;> split <;> split <;> simp_all
    · rw [parts_same hl k (by omega) j (by omega) p2 q2 hp hq]
theorem whole_set {n : Nat} {ls : List Pr} (hl : EndsIn n ls) (hn : 0 < n) :
    (memS (roundsS 1 ls n) n).length = n ↔ (partsK n ls ls.length).all (· == 0) = true := by
  have hl' : ∀ l ∈ ls, l.1.toNat < n ∧ l.2.toNat < n := by
    intro l hm
    obtain ⟨j, hj, e⟩ := List.getElem_of_mem hm
    obtain ⟨p, q, h1, h2, h3, h4⟩ := hl j hj
    rw [ndI_nat ls j hj, e] at h1 h2
    rw [h1, h2, Int.toNat_natCast, Int.toNat_natCast]
    exact ⟨h3, h4⟩
  have h1 : (1 : Nat) < 2 ^ n := Nat.one_lt_two_pow (by omega)
  have hm1 : 0 < (memS 1 n).length := List.length_pos_of_mem (a := 0) (by simp [memS, hn])
  have hf := round_fix (rounds_fix h1 hm1 hl')
  have hsub : ∀ k, (roundsS 1 ls k).testBit 0 = true := by
    intro k
    induction k with
    | zero => show (1 : Nat).testBit 0 = true; decide
    | succ k ih => exact roundS_sub ls _ ih
  generalize hS : roundsS 1 ls n = S at *
  rw [memS_all, List.all_eq_true]
  constructor
  · intro hall x hx
    obtain ⟨i, hi, e⟩ := List.getElem_of_mem hx
    have hin : i < n := by rw [partsK_len] at hi; exact hi
    have lab : ∀ k, ∀ i, i < n → (roundsS 1 ls k).testBit i = true → (partsK n ls ls.length).getD i 0 = (partsK n ls ls.length).getD 0 0 := by
      have step : ∀ (m : Nat), m ≤ ls.length → ∀ s : Nat, (∀ i, i < n → s.testBit i = true → (partsK n ls ls.length).getD i 0 = (partsK n ls ls.length).getD 0 0) → ∀ i, i < n → (roundS s (ls.take m)).testBit i = true → (partsK n ls ls.length).getD i 0 = (partsK n ls ls.length).getD 0 0 := by
        intro m
        induction m with
        | zero => intro _ s h i hi hb; exact h i hi (by simpa [roundS] using hb)
        | succ m ih =>
          intro hm s h i hi hb
          have ih' := ih (by omega) s h
          rw [List.take_succ_eq_append_getElem (by omega), roundS_append] at hb
          generalize roundS s (ls.take m) = t at *
          obtain ⟨p, q, g1, g2, g3, g4⟩ := hl m (by omega)
          have hpq := parts_same hl ls.length (Nat.le_refl _) m (by omega) p q g1 g2
          rw [ndI_nat ls m (by omega)] at g1 g2
          have hb' : (addS t ls[m]).testBit i = true := hb
          unfold addS at hb'
          rw [g1, g2, Int.toNat_natCast, Int.toNat_natCast] at hb'
          split at hb'
          · rename_i hor
            rw [Nat.testBit_or, Nat.testBit_or, Bool.or_eq_true, Bool.or_eq_true] at hb'
            have hlab : (partsK n ls ls.length).getD p 0 = (partsK n ls ls.length).getD 0 0 := by
              rw [Bool.or_eq_true] at hor
              rcases hor with h5 | h5
              · exact ih' p g3 h5
              · rw [hpq]; exact ih' q g4 h5
            rcases hb' with h5 | h5 | h5
            · exact ih' i hi h5
            · rw [Nat.testBit_two_pow] at h5
              have : p = i := by simpa using h5
              rw [← this]; exact hlab
            · rw [Nat.testBit_two_pow] at h5
              have : q = i := by simpa using h5
              rw [← this, ← hpq]; exact hlab
          · exact ih' i hi hb'
      intro k
      induction k with
      | zero =>
        intro i hi hb
        have : i = 0 := by
          apply Classical.byContradiction
          intro h
          rw [show roundsS 1 ls 0 = 2 ^ 0 from rfl, Nat.testBit_two_pow] at hb
          have : 0 = i := by simpa using hb
          omega
        rw [this]
      | succ k ih =>
        intro i hi hb
        have := step ls.length (Nat.le_refl _) (roundsS 1 ls k) ih i hi
        rw [List.take_length] at this
        exact this hb
    have h2 := lab n i hin (by rw [hS]; exact hall i hin)
    have h3 := parts_bd hl ls.length (Nat.le_refl _) 0 hn
    have h4 : (partsK n ls ls.length).getD i 0 = x := by simp [List.getD, hi, e]
    rw [h4] at h2
    have : x = 0 := by omega
    simp [this]
  · intro hall i hi
    have hc := parts_closed hl (fun i => S.testBit i = true) (fun j hj p q hp hq => by
      have := hf ls[j] (List.getElem_mem hj)
      rw [ndI_nat ls j hj] at hp hq
      rw [hp, hq, Int.toNat_natCast, Int.toNat_natCast] at this
      exact this) ls.length (Nat.le_refl _) i hi
    rw [hc]
    have hlen : i < (partsK n ls ls.length).length := by rw [partsK_len]; exact hi
    have h2 := hall (partsK n ls ls.length)[i] (List.getElem_mem hlen)
    have h3 : (partsK n ls ls.length).getD i 0 = 0 := by simpa [List.getD, hlen] using h2
    rw [h3]
    have := hsub n
    rw [hS] at this
    exact this
end Go.Proofs.YtbennlajjfkdpaaGreatDoor
