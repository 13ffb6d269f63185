/- part 19 -/
import Derived.Test.YtbennlajjfkdpaaGreatDoorFPk17
set_option linter.unusedSimpArgs false
set_option linter.unusedVariables false
namespace Go.Proofs.YtbennlajjfkdpaaGreatDoor
theorem insN_has {bf : Nat → Bool} {d e : Nat} {G : List Nat} : e ∈ insN bf d G ↔ e = d ∨ e ∈ G := by
  constructor
  · exact insN_mem
  · intro h
    unfold insN
    rw [List.mem_append, List.mem_cons]
    rcases h with h | h
    · exact .inr (.inl h)
    · rw [← List.take_append_drop (posN bf G G.length) G, List.mem_append] at h
      rcases h with h | h
      · exact .inl h
      · exact .inr (.inr h)
theorem insN_nodup {bf : Nat → Bool} {d : Nat} {G : List Nat} (h : G.Nodup) (hd : d ∉ G) : (insN bf d G).Nodup := by
  unfold insN
  have hs := List.take_append_drop (posN bf G G.length) G
  generalize G.take (posN bf G G.length) = a at *
  generalize G.drop (posN bf G G.length) = b at *
  subst hs
  rw [List.nodup_append] at h ⊢
  rw [List.mem_append, not_or] at hd
  obtain ⟨h1, h2, h3⟩ := h
  refine ⟨h1, List.nodup_cons.2 ⟨hd.2, h2⟩, fun x hx y hy => ?_⟩
  rcases List.mem_cons.1 hy with rfl | hy
  · rintro rfl; exact hd.1 hx
  · exact h3 x hx y hy
theorem ardS_iff (ns ls : List Pr) (k : Nat) : ∀ (m e : Nat), e ∈ ardS ns ls k m ↔ e < m ∧ dFrom ls e = k
  | 0, e => by simp [ardS]
  | m + 1, e => by
    by_cases h : dFrom ls m = k
    · rw [ardS_yes h, insN_has, ardS_iff ns ls k m]
      constructor
      · rintro (rfl | ⟨h1, h2⟩)
        · exact ⟨by omega, h⟩
        · exact ⟨by omega, h2⟩
      · rintro ⟨h1, h2⟩
        by_cases he : e = m
        · exact .inl he
        · exact .inr ⟨by omega, h2⟩
    · rw [ardS_no h, ardS_iff ns ls k m]
      constructor
      · rintro ⟨h1, h2⟩; exact ⟨by omega, h2⟩
      · rintro ⟨h1, h2⟩
        refine ⟨?_, h2⟩
        by_cases he : e = m
        · subst he; exact absurd h2 h
        · omega
theorem ardS_nodup (ns ls : List Pr) (k : Nat) : ∀ m, (ardS ns ls k m).Nodup
  | 0 => by simp [ardS]
  | m + 1 => by
    by_cases h : dFrom ls m = k
    · rw [ardS_yes h]
      exact insN_nodup (ardS_nodup ns ls k m) (fun hm => by have := ((ardS_iff ns ls k m m).1 hm).1; omega)
    · rw [ardS_no h]; exact ardS_nodup ns ls k m
def twin (d : Nat) : Nat := if d % 2 = 0 then d + 1 else d - 1
theorem twin_twin (d : Nat) : twin (twin d) = d := by unfold twin; split <;> split <;> omega
theorem twin_lt {d m : Nat} (h : d < 2 * m) : twin d < 2 * m := by unfold twin; split <;> omega
theorem dFrom_twin (ls : List Pr) (d : Nat) : dFrom ls (twin d) = dTo ls d := by
  unfold dFrom dTo twin
  by_cases h : d % 2 = 0
  · rw [if_pos h, if_pos (by omega), if_neg (by omega), show (d + 1) / 2 = d / 2 by omega]
  · rw [if_neg h, if_neg (by omega), if_pos (by omega), show (d - 1) / 2 = d / 2 by omega]
theorem dTo_twin (ls : List Pr) (d : Nat) : dTo ls (twin d) = dFrom ls d := by
  have := dFrom_twin ls (twin d)
  rw [twin_twin] at this
  exact this.symm
def ringD (ns ls : List Pr) (d : Nat) : List Nat := ardS ns ls (dFrom ls d).toNat (2 * ls.length)
def lastD (ns ls : List Pr) (d : Nat) : Nat := (ringD ns ls d).getD (((ringD ns ls d).idxOf d + (ringD ns ls d).length - 1) % (ringD ns ls d).length) 0
theorem dFrom_nat {ns ls : List Pr} (hld : ∀ j : Nat, j < ls.length → leadB ns (ndI ls j) = true) {d : Nat} (hd : d < 2 * ls.length) : ∃ t : Nat, dFrom ls d = (t : Int) ∧ t < ns.length := by
  have := dTo_nat hld (twin_lt hd)
  rw [dTo_twin] at this
  exact this
theorem mod_pred_inj {i j n : Nat} (hi : i < n) (hj : j < n) (h : (i + n - 1) % n = (j + n - 1) % n) : i = j := by
  rcases Nat.eq_zero_or_pos i with rfl | hi0
  · rcases Nat.eq_zero_or_pos j with rfl | hj0
    · rfl
    · rw [show 0 + n - 1 = n - 1 by omega, Nat.mod_eq_of_lt (by omega), show j + n - 1 = (j - 1) + n by omega, Nat.add_mod_right, Nat.mod_eq_of_lt (by omega)] at h
      omega
  · rcases Nat.eq_zero_or_pos j with rfl | hj0
    · rw [show 0 + n - 1 = n - 1 by omega, Nat.mod_eq_of_lt (show n - 1 < n by omega), show i + n - 1 = (i - 1) + n by omega, Nat.add_mod_right, Nat.mod_eq_of_lt (show i - 1 < n by omega)] at h
      omega
    · rw [show i + n - 1 = (i - 1) + n by omega, show j + n - 1 = (j - 1) + n by omega, Nat.add_mod_right, Nat.add_mod_right, Nat.mod_eq_of_lt (show i - 1 < n by omega), Nat.mod_eq_of_lt (show j - 1 < n by omega)] at h
      omega
section
variable {ns ls : List Pr} (hld : ∀ j : Nat, j < ls.length → leadB ns (ndI ls j) = true)
include hld
theorem ring_iff {d : Nat} (hd : d < 2 * ls.length) (e : Nat) : e ∈ ringD ns ls d ↔ e < 2 * ls.length ∧ dFrom ls e = dFrom ls d := by
  obtain ⟨t, ht, _⟩ := dFrom_nat hld hd
  unfold ringD
  rw [ardS_iff, ht, Int.toNat_natCast]
theorem ring_self {d : Nat} (hd : d < 2 * ls.length) : d ∈ ringD ns ls d := (ring_iff hld hd d).2 ⟨hd, rfl⟩
theorem last_mem {d : Nat} (hd : d < 2 * ls.length) : lastD ns ls d ∈ ringD ns ls d := by
  have h := List.length_pos_of_mem (ring_self hld hd)
  unfold lastD
  have hk : ((ringD ns ls d).idxOf d + (ringD ns ls d).length - 1) % (ringD ns ls d).length < (ringD ns ls d).length := Nat.mod_lt _ h
  rw [List.getD, List.getElem?_eq_getElem hk]
  exact List.getElem_mem hk
theorem last_lt {d : Nat} (hd : d < 2 * ls.length) : lastD ns ls d < 2 * ls.length := ((ring_iff hld hd _).1 (last_mem hld hd)).1
theorem last_from {d : Nat} (hd : d < 2 * ls.length) : dFrom ls (lastD ns ls d) = dFrom ls d := ((ring_iff hld hd _).1 (last_mem hld hd)).2
theorem last_inj {d e : Nat} (hd : d < 2 * ls.length) (he : e < 2 * ls.length) (h : lastD ns ls d = lastD ns ls e) : d = e := by
  have hf : dFrom ls d = dFrom ls e := by rw [← last_from hld hd, h, last_from hld he]
  have hr : ringD ns ls d = ringD ns ls e := by unfold ringD; rw [hf]
  have h1 := ring_self hld hd
  have h2 := ring_self hld he
  rw [hr] at h1
  have hp := List.length_pos_of_mem h2
  have hn : (ringD ns ls e).Nodup := ardS_nodup _ _ _ _
  unfold lastD at h
  rw [hr] at h
  have k1 : ((ringD ns ls e).idxOf d + (ringD ns ls e).length - 1) % (ringD ns ls e).length < (ringD ns ls e).length := Nat.mod_lt _ hp
  have k2 : ((ringD ns ls e).idxOf e + (ringD ns ls e).length - 1) % (ringD ns ls e).length < (ringD ns ls e).length := Nat.mod_lt _ hp
  rw [List.getD, List.getD, List.getElem?_eq_getElem k1, List.getElem?_eq_getElem k2] at h
  simp only [Option.getD_some] at h
  have hi := (List.getElem_inj hn).1 h
  have hx := mod_pred_inj (List.idxOf_lt_length_of_mem h1) (List.idxOf_lt_length_of_mem h2) hi
  have g1 := List.getElem_idxOf (List.idxOf_lt_length_of_mem h1)
  have g2 := List.getElem_idxOf (List.idxOf_lt_length_of_mem h2)
  refine g1.symm.trans (Eq.trans ?_ g2)
  simp only [hx]
end
theorem pigeon : ∀ (n : Nat) (f : Nat → Nat), (∀ i, i ≤ n → f i < n) → ∃ i j, i < j ∧ j ≤ n ∧ f i = f j
  | 0, f, h => absurd (h 0 (Nat.le_refl _)) (by omega)
  | n + 1, f, h => by
    by_cases hc : ∃ i, i < n + 1 ∧ f i = f (n + 1)
    · obtain ⟨i, hi, e⟩ := hc
      exact ⟨i, n + 1, hi, Nat.le_refl _, e⟩
    · have hne : ∀ i, i < n + 1 → f i ≠ f (n + 1) := fun i hi e => hc ⟨i, hi, e⟩
      have hl := h (n + 1) (Nat.le_refl _)
      obtain ⟨i, j, h1, h2, h3⟩ := pigeon n (fun i => if f i < f (n + 1) then f i else f i - 1) (fun i hi => by
        have h4 := hne i (by omega)
        have h5 := h i (by omega)
        show (if f i < f (n + 1) then f i else f i - 1) < n
        split <;> omega)
      refine ⟨i, j, h1, by omega, ?_⟩
      have h4 := hne i (by omega)
      have h5 := hne j (by omega)
      have h3' : (if f i < f (n + 1) then f i else f i - 1) = (if f j < f (n + 1) then f j else f j - 1) := h3
      clear h3
      split at h3' <;> split at h3' <;> omega
def nextD (ns ls : List Pr) (d : Nat) : Nat := lastD ns ls (twin d)
section
variable {ns ls : List Pr} (hld : ∀ j : Nat, j < ls.length → leadB ns (ndI ls j) = true)
include hld
theorem next_lt {d : Nat} (hd : d < 2 * ls.length) : nextD ns ls d < 2 * ls.length := last_lt hld (twin_lt hd)
theorem next_inj {d e : Nat} (hd : d < 2 * ls.length) (he : e < 2 * ls.length) (h : nextD ns ls d = nextD ns ls e) : d = e := by
  have := last_inj hld (twin_lt hd) (twin_lt he) h
  rw [← twin_twin d, this, twin_twin]
end
def orbD (ns ls : List Pr) (d : Nat) : Nat → Nat
  | 0 => d
  | k + 1 => nextD ns ls (orbD ns ls d k)
section
variable {ns ls : List Pr} (hld : ∀ j : Nat, j < ls.length → leadB ns (ndI ls j) = true)
include hld
theorem orb_lt {d : Nat} (hd : d < 2 * ls.length) : ∀ k, orbD ns ls d k < 2 * ls.length
  | 0 => hd
  | k + 1 => next_lt hld (orb_lt hd k)
theorem orb_back {d : Nat} (hd : d < 2 * ls.length) : ∀ i j, orbD ns ls d i = orbD ns ls d (i + j) → orbD ns ls d j = d
  | 0, j, h => by rw [Nat.zero_add] at h; exact h.symm
  | i + 1, j, h => by
    refine orb_back hd i j ?_
    rw [show i + 1 + j = (i + j) + 1 by omega] at h
    exact next_inj hld (orb_lt hld hd i) (orb_lt hld hd (i + j)) h
theorem orb_comes {d : Nat} (hd : d < 2 * ls.length) : ∃ p, 0 < p ∧ p ≤ 2 * ls.length ∧ orbD ns ls d p = d := by
  obtain ⟨i, j, h1, h2, h3⟩ := pigeon (2 * ls.length) (orbD ns ls d) (fun i _ => orb_lt hld hd i)
  refine ⟨j - i, by omega, by omega, orb_back hld hd i (j - i) ?_⟩
  rw [h3, show i + (j - i) = j by omega]
end
def perF (ns ls : List Pr) (d : Nat) : Nat → Nat → Nat
  | 0, k => k
  | m + 1, k => if orbD ns ls d k = d then k else perF ns ls d m (k + 1)
def perD (ns ls : List Pr) (d : Nat) : Nat := perF ns ls d (2 * ls.length) 1
theorem perF_spec (ns ls : List Pr) (d : Nat) : ∀ (m k : Nat), (∃ p, k ≤ p ∧ p < k + m ∧ orbD ns ls d p = d) →
    k ≤ perF ns ls d m k ∧ perF ns ls d m k < k + m ∧ orbD ns ls d (perF ns ls d m k) = d ∧ ∀ j, k ≤ j → j < perF ns ls d m k → orbD ns ls d j ≠ d
  | 0, k, ⟨p, h1, h2, _⟩ => absurd h2 (by omega)
  | m + 1, k, ⟨p, h1, h2, h3⟩ => by
    unfold perF
    split
    · rename_i h
      exact ⟨Nat.le_refl _, by omega, h, fun j hj hj' => by omega⟩
    · rename_i h
      have hp : k ≠ p := fun e => h (e ▸ h3)
      obtain ⟨g1, g2, g3, g4⟩ := perF_spec ns ls d m (k + 1) ⟨p, by omega, by omega, h3⟩
      refine ⟨by omega, by omega, g3, fun j hj hj' => ?_⟩
      by_cases e : j = k
      · subst e; exact h
      · exact g4 j (by omega) hj'
theorem per_spec {ns ls : List Pr} (hld : ∀ j : Nat, j < ls.length → leadB ns (ndI ls j) = true) {d : Nat} (hd : d < 2 * ls.length) :
    0 < perD ns ls d ∧ perD ns ls d ≤ 2 * ls.length ∧ orbD ns ls d (perD ns ls d) = d ∧ ∀ j, 0 < j → j < perD ns ls d → orbD ns ls d j ≠ d := by
  obtain ⟨p, h1, h2, h3⟩ := orb_comes hld hd
  obtain ⟨g1, g2, g3, g4⟩ := perF_spec ns ls d (2 * ls.length) 1 ⟨p, by omega, by omega, h3⟩
  exact ⟨g1, by unfold perD; omega, g3, fun j hj hj' => g4 j (by omega) hj'⟩
def walkK (ns ls : List Pr) (d k : Nat) : List Nat := (List.range k).map (orbD ns ls d)
theorem walkK_succ (ns ls : List Pr) (d k : Nat) : walkK ns ls d (k + 1) = walkK ns ls d k ++ [orbD ns ls d k] := by simp [walkK, List.range_succ]
theorem walkK_length (ns ls : List Pr) (d k : Nat) : (walkK ns ls d k).length = k := by simp [walkK]
def walkD (ns ls : List Pr) (d : Nat) : List Nat := walkK ns ls d (perD ns ls d)
end Go.Proofs.YtbennlajjfkdpaaGreatDoor

namespace Go.Proofs.YtbennlajjfkdpaaGreatDoor
def isoK (lt : Nat → Nat → Bool) (G : List Nat) (i : Nat) : List Nat := (G.take i).foldl (fun S d => insN (lt d) d S) []
theorem isoK_zero (lt : Nat → Nat → Bool) (G : List Nat) : isoK lt G 0 = [] := rfl
theorem isoK_succ (lt : Nat → Nat → Bool) (G : List Nat) (i : Nat) (h : i < G.length) : isoK lt G (i + 1) = insN (lt G[i]) G[i] (isoK lt G i) := by
  unfold isoK
  rw [List.take_succ_eq_append_getElem h, List.foldl_append]
  rfl
theorem isoK_len (lt : Nat → Nat → Bool) (G : List Nat) : ∀ i, i ≤ G.length → (isoK lt G i).length = i
  | 0, _ => rfl
  | i + 1, h => by rw [isoK_succ lt G i (by omega), insN_length, isoK_len lt G i (by omega)]
def isoR (lt : Nat → Nat → Bool) (G : List Nat) (i p : Nat) : List Int := gapI (isoK lt G i) p ((G.getD i 0 : Nat) : Int) ++ natI (G.drop (i + 1))
def isoH (lt : Nat → Nat → Bool) (G : List Nat) (i : Nat) : List Int := natI (isoK lt G i) ++ natI (G.drop i)
theorem isoH_zero (lt : Nat → Nat → Bool) (G : List Nat) : isoH lt G 0 = natI G := by simp [isoH, isoK_zero, natI]
theorem isoH_all (lt : Nat → Nat → Bool) (G : List Nat) : isoH lt G G.length = natI (isoK lt G G.length) := by simp [isoH, natI]
theorem isoR_len (lt : Nat → Nat → Bool) (G : List Nat) (i p : Nat) (h : i < G.length) (hp : p ≤ i) : (isoR lt G i p).length = G.length := by
  unfold isoR
  rw [List.length_append, gapI_length _ _ _ (by rw [isoK_len lt G i (by omega)]; exact hp), isoK_len lt G i (by omega), natI_length, List.length_drop]
  omega
theorem isoR_start (lt : Nat → Nat → Bool) (G : List Nat) (i : Nat) (h : i < G.length) : isoR lt G i i = isoH lt G i := by
  unfold isoR isoH
  have hl := isoK_len lt G i (by omega)
  have e : gapI (isoK lt G i) i ((G.getD i 0 : Nat) : Int) = natI (isoK lt G i) ++ [((G.getD i 0 : Nat) : Int)] := by
    have := gapI_full (isoK lt G i) ((G.getD i 0 : Nat) : Int)
    rw [hl] at this
    exact this
  rw [e, List.append_assoc, List.drop_eq_getElem_cons h, show G.getD i 0 = G[i] by simp [List.getD, h]]
  rfl
theorem isoR_self (lt : Nat → Nat → Bool) (G : List Nat) (i p : Nat) (h : i < G.length) (hp : p ≤ i) : (isoR lt G i p).getD p 0 = ((G.getD i 0 : Nat) : Int) := by
  have hl := isoK_len lt G i (by omega)
  unfold isoR gapI natI
  have e : (List.map (fun (d : Nat) => (d : Int)) ((isoK lt G i).take p)).length = p := by simp; omega
  rw [List.getD, List.append_assoc, List.getElem?_append_right (by omega), e, Nat.sub_self]
  rfl
theorem isoR_below (lt : Nat → Nat → Bool) (G : List Nat) (i p : Nat) (h : i < G.length) (hp : p < i) : (isoR lt G i (p + 1)).getD p 0 = (((isoK lt G i).getD p 0 : Nat) : Int) := by
  have hl := isoK_len lt G i (by omega)
  have h1 := gapI_get (isoK lt G i) p ((G.getD i 0 : Nat) : Int) (by omega)
  have h2 := gapI_length (isoK lt G i) (p + 1) ((G.getD i 0 : Nat) : Int) (by omega)
  unfold isoR
  rw [List.getD, List.getElem?_append_left (by omega)]
  exact h1
theorem isoR_swap (lt : Nat → Nat → Bool) (G : List Nat) (i p : Nat) (h : i < G.length) (hp : p < i) :
    ((isoR lt G i (p + 1)).set (p + 1) (((isoK lt G i).getD p 0 : Nat) : Int)).set p ((G.getD i 0 : Nat) : Int) = isoR lt G i p := by
  have hl := isoK_len lt G i (by omega)
  have h1 := gapI_move (isoK lt G i) p ((G.getD i 0 : Nat) : Int) (by omega)
  have h2 := gapI_length (isoK lt G i) (p + 1) ((G.getD i 0 : Nat) : Int) (by omega)
  have h3 := gapI_length (isoK lt G i) p (((isoK lt G i).getD p 0 : Nat) : Int) (by omega)
  have h4 := gapI_put (isoK lt G i) p (((isoK lt G i).getD p 0 : Nat) : Int) (G.getD i 0) (by omega)
  unfold isoR
  rw [List.set_append, if_pos (by omega), h1, List.set_append, if_pos (by omega), h4]
  congr 1
  simp [gapI, natI]
theorem isoR_end (lt : Nat → Nat → Bool) (G : List Nat) (i : Nat) (h : i < G.length) : isoR lt G i (posN (lt G[i]) (isoK lt G i) i) = isoH lt G (i + 1) := by
  have hl := isoK_len lt G i (by omega)
  unfold isoR isoH
  rw [isoK_succ lt G i h]
  unfold insN gapI natI
  rw [hl]
  simp [List.getD, h]
def frD (ls : List Pr) (k : Nat) : Nat → List Nat
  | 0 => []
  | d + 1 => if dFrom ls d = k then frD ls k d ++ [d] else frD ls k d
theorem frD_no {ls : List Pr} {k d : Nat} (h : ¬ dFrom ls d = k) : frD ls k (d + 1) = frD ls k d := by simp [frD, h]
theorem frD_yes {ls : List Pr} {k d : Nat} (h : dFrom ls d = k) : frD ls k (d + 1) = frD ls k d ++ [d] := by simp [frD, h]
theorem isoK_app (lt : Nat → Nat → Bool) (G : List Nat) (d : Nat) : isoK lt (G ++ [d]) (G ++ [d]).length = insN (lt d) d (isoK lt G G.length) := by
  unfold isoK
  rw [List.take_length, List.take_length, List.foldl_append]
  rfl
theorem iso_ard (ns ls : List Pr) (k : Nat) : ∀ m, isoK (bfD ns ls k) (frD ls k m) (frD ls k m).length = ardS ns ls k m
  | 0 => rfl
  | m + 1 => by
    by_cases h : dFrom ls m = k
    · rw [frD_yes h, isoK_app, iso_ard ns ls k m, ardS_yes h]
    · rw [frD_no h, iso_ard ns ls k m, ardS_no h]
theorem frD_lt (ls : List Pr) (k : Nat) : ∀ m e, e ∈ frD ls k m → e < m ∧ dFrom ls e = k
  | 0, e, h => by simp [frD] at h
  | m + 1, e, h => by
    by_cases hf : dFrom ls m = k
    · rw [frD_yes hf, List.mem_append, List.mem_singleton] at h
      rcases h with h | rfl
      · have := frD_lt ls k m e h; exact ⟨by omega, this.2⟩
      · exact ⟨by omega, hf⟩
    · rw [frD_no hf] at h
      have := frD_lt ls k m e h; exact ⟨by omega, this.2⟩
end Go.Proofs.YtbennlajjfkdpaaGreatDoor
