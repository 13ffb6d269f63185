/- part 27 -/
import Derived.Test.YtnjcpljhmhdhkaaGreatCPk15
import Derived.Test.YtnjcpljhmhdhkaaGreatCPk26
import Derived.Shelf.Abstract
import Derived.BigRegion
set_option linter.unusedSimpArgs false
set_option linter.unusedVariables false
namespace Go.Proofs.YtnjcpljhmhdhkaaGreat
theorem insN_has {bf : Nat → Bool} {d e : Nat} {G : List Nat} : e ∈ insN bf d G ↔ e = d ∨ e ∈ G := by
  constructor
  · exact insN_mem
  · intro h
    unfold insN
    rw [List.mem_append, List.mem_cons]
    rcases h with h | h
    · exact .inr (.inl h)
    · rw [← List.take_append_drop (posN bf G G.length) G, List.mem_append] at h
      rcases h with h | h
      · exact .inl h
      · exact .inr (.inr h)
theorem insN_nodup {bf : Nat → Bool} {d : Nat} {G : List Nat} (h : G.Nodup) (hd : d ∉ G) : (insN bf d G).Nodup := by
  unfold insN
  have hs := List.take_append_drop (posN bf G G.length) G
  generalize G.take (posN bf G G.length) = a at *
  generalize G.drop (posN bf G G.length) = b at *
  subst hs
  rw [List.nodup_append] at h ⊢
  rw [List.mem_append, not_or] at hd
  obtain ⟨h1, h2, h3⟩ := h
  refine ⟨h1, List.nodup_cons.2 ⟨hd.2, h2⟩, fun x hx y hy => ?_⟩
  rcases List.mem_cons.1 hy with rfl | hy
  · rintro rfl; exact hd.1 hx
  · exact h3 x hx y hy
theorem ardS_iff (ns ls : List Pr) (k : Nat) : ∀ (m e : Nat), e ∈ ardS ns ls k m ↔ e < m ∧ dFrom ls e = k
  | 0, e => by simp [ardS]
  | m + 1, e => by
    by_cases h : dFrom ls m = k
    · rw [ardS_yes h, insN_has, ardS_iff ns ls k m]
      constructor
      · rintro (rfl | ⟨h1, h2⟩)
        · exact ⟨by omega, h⟩
        · exact ⟨by omega, h2⟩
      · rintro ⟨h1, h2⟩
        by_cases he : e = m
        · exact .inl he
        · exact .inr ⟨by omega, h2⟩
    · rw [ardS_no h, ardS_iff ns ls k m]
      constructor
      · rintro ⟨h1, h2⟩; exact ⟨by omega, h2⟩
      · rintro ⟨h1, h2⟩
        refine ⟨?_, h2⟩
        by_cases he : e = m
        · subst he; exact absurd h2 h
        · omega
theorem ardS_nodup (ns ls : List Pr) (k : Nat) : ∀ m, (ardS ns ls k m).Nodup
  | 0 => by simp [ardS]
  | m + 1 => by
    by_cases h : dFrom ls m = k
    · rw [ardS_yes h]
      exact insN_nodup (ardS_nodup ns ls k m) (fun hm => by have := ((ardS_iff ns ls k m m).1 hm).1; omega)
    · rw [ardS_no h]; exact ardS_nodup ns ls k m
def twin (d : Nat) : Nat := if d % 2 = 0 then d + 1 else d - 1
theorem twin_twin (d : Nat) : twin (twin d) = d := by unfold twin; split <;> split <;> omega
theorem twin_lt {d m : Nat} (h : d < 2 * m) : twin d < 2 * m := by unfold twin; split <;> omega
theorem dFrom_twin (ls : List Pr) (d : Nat) : dFrom ls (twin d) = dTo ls d := by
  unfold dFrom dTo twin
  by_cases h : d % 2 = 0
  · rw [if_pos h, if_pos (by omega), if_neg (by omega), show (d + 1) / 2 = d / 2 by omega]
  · rw [if_neg h, if_neg (by omega), if_pos (by omega), show (d - 1) / 2 = d / 2 by omega]
theorem dTo_twin (ls : List Pr) (d : Nat) : dTo ls (twin d) = dFrom ls d := by
  have := dFrom_twin ls (twin d)
  rw [twin_twin] at this
  exact this.symm
def ringD (ns ls : List Pr) (d : Nat) : List Nat := ardS ns ls (dFrom ls d).toNat (2 * ls.length)
def lastD (ns ls : List Pr) (d : Nat) : Nat := (ringD ns ls d).getD (((ringD ns ls d).idxOf d + (ringD ns ls d).length - 1) % (ringD ns ls d).length) 0
theorem dFrom_nat {ns ls : List Pr} (hld : ∀ j : Nat, j < ls.length → leadB ns (ndI ls j) = true) {d : Nat} (hd : d < 2 * ls.length) : ∃ t : Nat, dFrom ls d = (t : Int) ∧ t < ns.length := by
  have := dTo_nat hld (twin_lt hd)
  rw [dTo_twin] at this
  exact this
theorem mod_pred_inj {i j n : Nat} (hi : i < n) (hj : j < n) (h : (i + n - 1) % n = (j + n - 1) % n) : i = j := by
  rcases Nat.eq_zero_or_pos i with rfl | hi0
  · rcases Nat.eq_zero_or_pos j with rfl | hj0
    · rfl
    · rw [show 0 + n - 1 = n - 1 by omega, Nat.mod_eq_of_lt (by omega), show j + n - 1 = (j - 1) + n by omega, Nat.add_mod_right, Nat.mod_eq_of_lt (by omega)] at h
      omega
  · rcases Nat.eq_zero_or_pos j with rfl | hj0
    · rw [show 0 + n - 1 = n - 1 by omega, Nat.mod_eq_of_lt (show n - 1 < n by omega), show i + n - 1 = (i - 1) + n by omega, Nat.add_mod_right, Nat.mod_eq_of_lt (show i - 1 < n by omega)] at h
      omega
    · rw [show i + n - 1 = (i - 1) + n by omega, show j + n - 1 = (j - 1) + n by omega, Nat.add_mod_right, Nat.add_mod_right, Nat.mod_eq_of_lt (show i - 1 < n by omega), Nat.mod_eq_of_lt (show j - 1 < n by omega)] at h
      omega
section
variable {ns ls : List Pr} (hld : ∀ j : Nat, j < ls.length → leadB ns (ndI ls j) = true)
include hld
theorem ring_iff {d : Nat} (hd : d < 2 * ls.length) (e : Nat) : e ∈ ringD ns ls d ↔ e < 2 * ls.length ∧ dFrom ls e = dFrom ls d := by
  obtain ⟨t, ht, _⟩ := dFrom_nat hld hd
  unfold ringD
  rw [ardS_iff, ht, Int.toNat_natCast]
theorem ring_self {d : Nat} (hd : d < 2 * ls.length) : d ∈ ringD ns ls d := (ring_iff hld hd d).2 ⟨hd, rfl⟩
theorem last_mem {d : Nat} (hd : d < 2 * ls.length) : lastD ns ls d ∈ ringD ns ls d := by
  have h := List.length_pos_of_mem (ring_self hld hd)
  unfold lastD
  have hk : ((ringD ns ls d).idxOf d + (ringD ns ls d).length - 1) % (ringD ns ls d).length < (ringD ns ls d).length := Nat.mod_lt _ h
  rw [List.getD, List.getElem?_eq_getElem hk]
  exact List.getElem_mem hk
theorem last_lt {d : Nat} (hd : d < 2 * ls.length) : lastD ns ls d < 2 * ls.length := ((ring_iff hld hd _).1 (last_mem hld hd)).1
theorem last_from {d : Nat} (hd : d < 2 * ls.length) : dFrom ls (lastD ns ls d) = dFrom ls d := ((ring_iff hld hd _).1 (last_mem hld hd)).2
theorem last_inj {d e : Nat} (hd : d < 2 * ls.length) (he : e < 2 * ls.length) (h : lastD ns ls d = lastD ns ls e) : d = e := by
  have hf : dFrom ls d = dFrom ls e := by rw [← last_from hld hd, h, last_from hld he]
  have hr : ringD ns ls d = ringD ns ls e := by unfold ringD; rw [hf]
  have h1 := ring_self hld hd
  have h2 := ring_self hld he
  rw [hr] at h1
  have hp := List.length_pos_of_mem h2
  have hn : (ringD ns ls e).Nodup := ardS_nodup _ _ _ _
  unfold lastD at h
  rw [hr] at h
  have k1 : ((ringD ns ls e).idxOf d + (ringD ns ls e).length - 1) % (ringD ns ls e).length < (ringD ns ls e).length := Nat.mod_lt _ hp
  have k2 : ((ringD ns ls e).idxOf e + (ringD ns ls e).length - 1) % (ringD ns ls e).length < (ringD ns ls e).length := Nat.mod_lt _ hp
  rw [List.getD, List.getD, List.getElem?_eq_getElem k1, List.getElem?_eq_getElem k2] at h
  simp only [Option.getD_some] at h
  have hi := (List.getElem_inj hn).1 h
  have hx := mod_pred_inj (List.idxOf_lt_length_of_mem h1) (List.idxOf_lt_length_of_mem h2) hi
  have g1 := List.getElem_idxOf (List.idxOf_lt_length_of_mem h1)
  have g2 := List.getElem_idxOf (List.idxOf_lt_length_of_mem h2)
  refine g1.symm.trans (Eq.trans ?_ g2)
  simp only [hx]
end
theorem pigeon : ∀ (n : Nat) (f : Nat → Nat), (∀ i, i ≤ n → f i < n) → ∃ i j, i < j ∧ j ≤ n ∧ f i = f j
  | 0, f, h => absurd (h 0 (Nat.le_refl _)) (by omega)
  | n + 1, f, h => by
    by_cases hc : ∃ i, i < n + 1 ∧ f i = f (n + 1)
    · obtain ⟨i, hi, e⟩ := hc
      exact ⟨i, n + 1, hi, Nat.le_refl _, e⟩
    · have hne : ∀ i, i < n + 1 → f i ≠ f (n + 1) := fun i hi e => hc ⟨i, hi, e⟩
      have hl := h (n + 1) (Nat.le_refl _)
      obtain ⟨i, j, h1, h2, h3⟩ := pigeon n (fun i => if f i < f (n + 1) then f i else f i - 1) (fun i hi => by
        have h4 := hne i (by omega)
        have h5 := h i (by omega)
        show (if f i < f (n + 1) then f i else f i - 1) < n
        split <;> omega)
      refine ⟨i, j, h1, by omega, ?_⟩
      have h4 := hne i (by omega)
      have h5 := hne j (by omega)
      have h3' : (if f i < f (n + 1) then f i else f i - 1) = (if f j < f (n + 1) then f j else f j - 1) := h3
      clear h3
      split at h3' <;> split at h3' <;> omega
def nextD (ns ls : List Pr) (d : Nat) : Nat := lastD ns ls (twin d)
section
variable {ns ls : List Pr} (hld : ∀ j : Nat, j < ls.length → leadB ns (ndI ls j) = true)
include hld
theorem next_lt {d : Nat} (hd : d < 2 * ls.length) : nextD ns ls d < 2 * ls.length := last_lt hld (twin_lt hd)
theorem next_inj {d e : Nat} (hd : d < 2 * ls.length) (he : e < 2 * ls.length) (h : nextD ns ls d = nextD ns ls e) : d = e := by
  have := last_inj hld (twin_lt hd) (twin_lt he) h
  rw [← twin_twin d, this, twin_twin]
end
def orbD (ns ls : List Pr) (d : Nat) : Nat → Nat
  | 0 => d
  | k + 1 => nextD ns ls (orbD ns ls d k)
section
variable {ns ls : List Pr} (hld : ∀ j : Nat, j < ls.length → leadB ns (ndI ls j) = true)
include hld
theorem orb_lt {d : Nat} (hd : d < 2 * ls.length) : ∀ k, orbD ns ls d k < 2 * ls.length
  | 0 => hd
  | k + 1 => next_lt hld (orb_lt hd k)
theorem orb_back {d : Nat} (hd : d < 2 * ls.length) : ∀ i j, orbD ns ls d i = orbD ns ls d (i + j) → orbD ns ls d j = d
  | 0, j, h => by rw [Nat.zero_add] at h; exact h.symm
  | i + 1, j, h => by
    refine orb_back hd i j ?_
    rw [show i + 1 + j = (i + j) + 1 by omega] at h
    exact next_inj hld (orb_lt hld hd i) (orb_lt hld hd (i + j)) h
theorem orb_comes {d : Nat} (hd : d < 2 * ls.length) : ∃ p, 0 < p ∧ p ≤ 2 * ls.length ∧ orbD ns ls d p = d := by
  obtain ⟨i, j, h1, h2, h3⟩ := pigeon (2 * ls.length) (orbD ns ls d) (fun i _ => orb_lt hld hd i)
  refine ⟨j - i, by omega, by omega, orb_back hld hd i (j - i) ?_⟩
  rw [h3, show i + (j - i) = j by omega]
end
def perF (ns ls : List Pr) (d : Nat) : Nat → Nat → Nat
  | 0, k => k
  | m + 1, k => if orbD ns ls d k = d then k else perF ns ls d m (k + 1)
def perD (ns ls : List Pr) (d : Nat) : Nat := perF ns ls d (2 * ls.length) 1
theorem perF_spec (ns ls : List Pr) (d : Nat) : ∀ (m k : Nat), (∃ p, k ≤ p ∧ p < k + m ∧ orbD ns ls d p = d) →
    k ≤ perF ns ls d m k ∧ perF ns ls d m k < k + m ∧ orbD ns ls d (perF ns ls d m k) = d ∧ ∀ j, k ≤ j → j < perF ns ls d m k → orbD ns ls d j ≠ d
  | 0, k, ⟨p, h1, h2, _⟩ => absurd h2 (by omega)
  | m + 1, k, ⟨p, h1, h2, h3⟩ => by
    unfold perF
    split
    · rename_i h
      exact ⟨Nat.le_refl _, by omega, h, fun j hj hj' => by omega⟩
    · rename_i h
      have hp : k ≠ p := fun e => h (e ▸ h3)
      obtain ⟨g1, g2, g3, g4⟩ := perF_spec ns ls d m (k + 1) ⟨p, by omega, by omega, h3⟩
      refine ⟨by omega, by omega, g3, fun j hj hj' => ?_⟩
      by_cases e : j = k
      · subst e; exact h
      · exact g4 j (by omega) hj'
theorem per_spec {ns ls : List Pr} (hld : ∀ j : Nat, j < ls.length → leadB ns (ndI ls j) = true) {d : Nat} (hd : d < 2 * ls.length) :
    0 < perD ns ls d ∧ perD ns ls d ≤ 2 * ls.length ∧ orbD ns ls d (perD ns ls d) = d ∧ ∀ j, 0 < j → j < perD ns ls d → orbD ns ls d j ≠ d := by
  obtain ⟨p, h1, h2, h3⟩ := orb_comes hld hd
  obtain ⟨g1, g2, g3, g4⟩ := perF_spec ns ls d (2 * ls.length) 1 ⟨p, by omega, by omega, h3⟩
  exact ⟨g1, by unfold perD; omega, g3, fun j hj hj' => g4 j (by omega) hj'⟩
def walkK (ns ls : List Pr) (d k : Nat) : List Nat := (List.range k).map (orbD ns ls d)
theorem walkK_succ (ns ls : List Pr) (d k : Nat) : walkK ns ls d (k + 1) = walkK ns ls d k ++ [orbD ns ls d k] := by simp [walkK, List.range_succ]
theorem walkK_length (ns ls : List Pr) (d k : Nat) : (walkK ns ls d k).length = k := by simp [walkK]
def walkD (ns ls : List Pr) (d : Nat) : List Nat := walkK ns ls d (perD ns ls d)
end Go.Proofs.YtnjcpljhmhdhkaaGreat

namespace Go.Proofs.YtnjcpljhmhdhkaaGreat
def isoK (lt : Nat → Nat → Bool) (G : List Nat) (i : Nat) : List Nat := (G.take i).foldl (fun S d => insN (lt d) d S) []
theorem isoK_zero (lt : Nat → Nat → Bool) (G : List Nat) : isoK lt G 0 = [] := rfl
theorem isoK_succ (lt : Nat → Nat → Bool) (G : List Nat) (i : Nat) (h : i < G.length) : isoK lt G (i + 1) = insN (lt G[i]) G[i] (isoK lt G i) := by
  unfold isoK
  rw [List.take_succ_eq_append_getElem h, List.foldl_append]
  rfl
theorem isoK_len (lt : Nat → Nat → Bool) (G : List Nat) : ∀ i, i ≤ G.length → (isoK lt G i).length = i
  | 0, _ => rfl
  | i + 1, h => by rw [isoK_succ lt G i (by omega), insN_length, isoK_len lt G i (by omega)]
def isoR (lt : Nat → Nat → Bool) (G : List Nat) (i p : Nat) : List Int := gapI (isoK lt G i) p ((G.getD i 0 : Nat) : Int) ++ natI (G.drop (i + 1))
def isoH (lt : Nat → Nat → Bool) (G : List Nat) (i : Nat) : List Int := natI (isoK lt G i) ++ natI (G.drop i)
theorem isoH_zero (lt : Nat → Nat → Bool) (G : List Nat) : isoH lt G 0 = natI G := by simp [isoH, isoK_zero, natI]
theorem isoH_all (lt : Nat → Nat → Bool) (G : List Nat) : isoH lt G G.length = natI (isoK lt G G.length) := by simp [isoH, natI]
theorem isoR_len (lt : Nat → Nat → Bool) (G : List Nat) (i p : Nat) (h : i < G.length) (hp : p ≤ i) : (isoR lt G i p).length = G.length := by
  unfold isoR
  rw [List.length_append, gapI_length _ _ _ (by rw [isoK_len lt G i (by omega)]; exact hp), isoK_len lt G i (by omega), natI_length, List.length_drop]
  omega
theorem isoR_start (lt : Nat → Nat → Bool) (G : List Nat) (i : Nat) (h : i < G.length) : isoR lt G i i = isoH lt G i := by
  unfold isoR isoH
  have hl := isoK_len lt G i (by omega)
  have e : gapI (isoK lt G i) i ((G.getD i 0 : Nat) : Int) = natI (isoK lt G i) ++ [((G.getD i 0 : Nat) : Int)] := by
    have := gapI_full (isoK lt G i) ((G.getD i 0 : Nat) : Int)
    rw [hl] at this
    exact this
  rw [e, List.append_assoc, List.drop_eq_getElem_cons h, show G.getD i 0 = G[i] by simp [List.getD, h]]
  rfl
theorem isoR_self (lt : Nat → Nat → Bool) (G : List Nat) (i p : Nat) (h : i < G.length) (hp : p ≤ i) : (isoR lt G i p).getD p 0 = ((G.getD i 0 : Nat) : Int) := by
  have hl := isoK_len lt G i (by omega)
  unfold isoR gapI natI
  have e : (List.map (fun (d : Nat) => (d : Int)) ((isoK lt G i).take p)).length = p := by simp; omega
  rw [List.getD, List.append_assoc, List.getElem?_append_right (by omega), e, Nat.sub_self]
  rfl
theorem isoR_below (lt : Nat → Nat → Bool) (G : List Nat) (i p : Nat) (h : i < G.length) (hp : p < i) : (isoR lt G i (p + 1)).getD p 0 = (((isoK lt G i).getD p 0 : Nat) : Int) := by
  have hl := isoK_len lt G i (by omega)
  have h1 := gapI_get (isoK lt G i) p ((G.getD i 0 : Nat) : Int) (by omega)
  have h2 := gapI_length (isoK lt G i) (p + 1) ((G.getD i 0 : Nat) : Int) (by omega)
  unfold isoR
  rw [List.getD, List.getElem?_append_left (by omega)]
  exact h1
theorem isoR_swap (lt : Nat → Nat → Bool) (G : List Nat) (i p : Nat) (h : i < G.length) (hp : p < i) :
    ((isoR lt G i (p + 1)).set (p + 1) (((isoK lt G i).getD p 0 : Nat) : Int)).set p ((G.getD i 0 : Nat) : Int) = isoR lt G i p := by
  have hl := isoK_len lt G i (by omega)
  have h1 := gapI_move (isoK lt G i) p ((G.getD i 0 : Nat) : Int) (by omega)
  have h2 := gapI_length (isoK lt G i) (p + 1) ((G.getD i 0 : Nat) : Int) (by omega)
  have h3 := gapI_length (isoK lt G i) p (((isoK lt G i).getD p 0 : Nat) : Int) (by omega)
  have h4 := gapI_put (isoK lt G i) p (((isoK lt G i).getD p 0 : Nat) : Int) (G.getD i 0) (by omega)
  unfold isoR
  rw [List.set_append, if_pos (by omega), h1, List.set_append, if_pos (by omega), h4]
  congr 1
  simp [gapI, natI]
theorem isoR_end (lt : Nat → Nat → Bool) (G : List Nat) (i : Nat) (h : i < G.length) : isoR lt G i (posN (lt G[i]) (isoK lt G i) i) = isoH lt G (i + 1) := by
  have hl := isoK_len lt G i (by omega)
  unfold isoR isoH
  rw [isoK_succ lt G i h]
  unfold insN gapI natI
  rw [hl]
  simp [List.getD, h]
def frD (ls : List Pr) (k : Nat) : Nat → List Nat
  | 0 => []
  | d + 1 => if dFrom ls d = k then frD ls k d ++ [d] else frD ls k d
theorem frD_no {ls : List Pr} {k d : Nat} (h : ¬ dFrom ls d = k) : frD ls k (d + 1) = frD ls k d := by simp [frD, h]
theorem frD_yes {ls : List Pr} {k d : Nat} (h : dFrom ls d = k) : frD ls k (d + 1) = frD ls k d ++ [d] := by simp [frD, h]
theorem isoK_app (lt : Nat → Nat → Bool) (G : List Nat) (d : Nat) : isoK lt (G ++ [d]) (G ++ [d]).length = insN (lt d) d (isoK lt G G.length) := by
  unfold isoK
  rw [List.take_length, List.take_length, List.foldl_append]
  rfl
theorem iso_ard (ns ls : List Pr) (k : Nat) : ∀ m, isoK (bfD ns ls k) (frD ls k m) (frD ls k m).length = ardS ns ls k m
  | 0 => rfl
  | m + 1 => by
    by_cases h : dFrom ls m = k
    · rw [frD_yes h, isoK_app, iso_ard ns ls k m, ardS_yes h]
    · rw [frD_no h, iso_ard ns ls k m, ardS_no h]
theorem frD_lt (ls : List Pr) (k : Nat) : ∀ m e, e ∈ frD ls k m → e < m ∧ dFrom ls e = k
  | 0, e, h => by simp [frD] at h
  | m + 1, e, h => by
    by_cases hf : dFrom ls m = k
    · rw [frD_yes hf, List.mem_append, List.mem_singleton] at h
      rcases h with h | rfl
      · have := frD_lt ls k m e h; exact ⟨by omega, this.2⟩
      · exact ⟨by omega, hf⟩
    · rw [frD_no hf] at h
      have := frD_lt ls k m e h; exact ⟨by omega, this.2⟩
end Go.Proofs.YtnjcpljhmhdhkaaGreat

namespace Go.Proofs.YtnjcpljhmhdhkaaGreat
open Go.RowKit
def CmpAt (f : Nat) (lb : Array Value) (G : List Nat) (c : Nat → Nat → Int) (g : Option Nat) (w : World) : Prop :=
  ∀ (v : World) (d e : Nat), d ∈ G → e ∈ G → w.grownBy v g → Calls Tryz.prog f (#[.int .i64 d, .int .i64 e] ++ lb) v fun en v' => en = .returned (.int .i64 (c d e)) ∧ Below v.heap.size v v'
theorem grown_bel {w v v' : World} {row : Option Nat} (h : w.grownBy v row) (hb : Below v.heap.size v v') : w.grownBy v' row :=
  ⟨hb.os.trans h.os, hb.tape.trans h.tape, hb.output.trans h.output, Nat.le_trans h.size hb.size, fun i hi hne => (hb.block i (Nat.lt_of_lt_of_le hi h.size)).trans (h.block i hi hne)⟩
theorem grown_refl (w : World) (row : Option Nat) : w.grownBy w row := ⟨rfl, rfl, rfl, Nat.le_refl _, fun _ _ _ => rfl⟩
theorem grown_set {w v : World} {g : Nat} (h : w.grownBy v (some g)) (i : Nat) (x : Value) : w.grownBy (v.setCell ⟨g, i, none⟩ x) (some g) :=
  ⟨h.os, h.tape, h.output, by simpa [World.setCell] using h.size, fun j hj hne => (Below.heap_setCell v ⟨g, i, none⟩ x j (fun e => hne (by rw [e]))).trans (h.block j hj hne)⟩
theorem grown_drew {w v : World} {row : Option Nat} (h : w.grownBy v row) : w.grownBy v.drew row := ⟨h.os, h.tape, h.output, h.size, h.block⟩
theorem isoK_mem (lt : Nat → Nat → Bool) (G : List Nat) (e : Nat) : ∀ i, i ≤ G.length → e ∈ isoK lt G i → e ∈ G
  | 0, _, h => by simp [isoK_zero] at h
  | i + 1, hi, h => by
    rw [isoK_succ lt G i (by omega)] at h
    rcases insN_mem h with rfl | h
    · exact List.getElem_mem _
    · exact isoK_mem lt G e i (by omega) h
theorem isoH_one (lt : Nat → Nat → Bool) (G : List Nat) (h : 0 < G.length) : isoH lt G 1 = natI G := by
  have h1 := isoR_end lt G 0 h
  have h2 : posN (lt G[0]) (isoK lt G 0) 0 = 0 := rfl
  rw [h2, isoR_start lt G 0 h, isoH_zero] at h1
  exact h1.symm
set_option maxHeartbeats 4000000 in
set_option maxRecDepth 100000 in
theorem insSort_any (base f g cap : Nat) (lb : Array Value) (G : List Nat) (c : Nat → Nat → Int) (lt : Nat → Nat → Bool) (w : World) (hc : CmpAt f lb G c (some g) w) (hlt : ∀ d e, decide (c d e < 0) = lt d e)
    (ho : OwnI base w (.slice (some ⟨g, 0, none⟩) G.length cap) (natI G)) (h12 : G.length ≤ 12) (ef : Enters Tryz.prog f) :
    Calls Tryz.prog 246 #[.slice (some ⟨g, 0, none⟩) G.length cap, .int .i64 0, .int .i64 G.length, .func (.func f) #[] lb] w
      fun e w' => e = .returned (.tuple #[]) ∧ OwnI base w' (.slice (some ⟨g, 0, none⟩) G.length cap) (natI (isoK lt G G.length)) ∧ w.grownBy w' (some g) := by
  go_enter Tryz.func246, Tryz.ntmps246
  go_wp2
  go_loopw [8] (fun x wr => ∃ i : Nat, 1 ≤ i ∧ (i ≤ G.length ∨ G.length = 0) ∧ x = .int .i64 i ∧ OwnI base wr (.slice (some ⟨g, 0, none⟩) G.length cap) (isoH lt G (min i G.length)) ∧ w.grownBy wr (some g)) (fun x _ => G.length - (intOf x).toNat)
  case atStart =>
    refine ⟨1, Nat.le_refl _, by omega, rfl, ?_, grown_refl _ _⟩
    rcases Nat.eq_zero_or_pos G.length with h0 | h0
    · rw [h0, show min 1 0 = 0 from rfl, isoH_zero]; rw [h0] at ho; exact ho
    · rw [show min 1 G.length = 1 by omega, isoH_one lt G h0]; exact ho
  case round =>
    obtain ⟨i, hi1, hi2, rfl, ho2, hg⟩ := hrel
    have EF := Lib.hid ef
    clear ho ef
    by_cases hin : i < G.length
    · rw [show min i G.length = i by omega, ← isoR_start lt G i hin] at ho2
      have HE := Lib.hid (isoR_end lt G i hin)
      have hgi : G.getD i 0 = G[i] := by simp [List.getD, hin]
      have hgm : G.getD i 0 ∈ G := by rw [hgi]; exact List.getElem_mem hin
      have HKL := Lib.hid (isoK_len lt G i (by omega))
      have HKM := Lib.hid (fun e h => isoK_mem lt G e i (by omega) h)
      rw [← hgi] at HE
      have HRS := Lib.hid (fun p hp => isoR_self lt G i p hin hp)
      have HRB := Lib.hid (fun p hp => isoR_below lt G i p hin hp)
      have HSW := Lib.hid (fun p hp => isoR_swap lt G i p hin hp)
      have HRL := Lib.hid (fun p hp => isoR_len lt G i p hin hp)
      clear hgi
      generalize hD : G.getD i 0 = D at *
      have HDD := Lib.hid hD
      clear hD
      go_wp2
      go_loopw [9] (fun x wr2 => ∃ p : Nat, p ≤ i ∧ x = .int .i64 p ∧ OwnI base wr2 (.slice (some ⟨g, 0, none⟩) G.length cap) (isoR lt G i p) ∧ w.grownBy wr2 (some g) ∧ Hid (posN (lt D) (isoK lt G i) i = posN (lt D) (isoK lt G i) p)) (fun x _ => (intOf x).toNat)
      case atStart => exact ⟨i, Nat.le_refl _, rfl, ho2, hg, Lib.hid rfl⟩
      case round =>
        clear ho2 hg
        obtain ⟨p, hp, rfl, ho2, hg, HP⟩ := hrel
        by_cases hp0 : 0 < p
        · obtain ⟨r, rfl⟩ : ∃ r, p = r + 1 := ⟨p - 1, by omega⟩
          have hri : r < i := by omega
          have xs := ho2.cell (q := r + 1) (by rw [HRL.out _ hp]; omega)
          have xb := ho2.cell (q := r) (by rw [HRL.out _ hp]; omega)
          rw [HRS.out _ hp] at xs
          rw [HRB.out r hri] at xb
          have hem : (isoK lt G i).getD r 0 ∈ G := HKM.out _ (by rw [List.getD, List.getElem?_eq_getElem (by rw [HKL.out]; exact hri)]; exact List.getElem_mem _)
          have HPS : Hid (posN (lt D) (isoK lt G i) (r + 1) = if lt D ((isoK lt G i).getD r 0) then posN (lt D) (isoK lt G i) r else r + 1) := Lib.hid rfl
          have HS := Lib.hid (HSW.out r hri)
          have hl1 := hlt D ((isoK lt G i).getD r 0)
          have hcd := fun v (hv : w.grownBy v (some g)) => hc v D ((isoK lt G i).getD r 0) hgm hem hv
          generalize (isoK lt G i).getD r 0 = e at *
          rw [← hl1] at HPS
          generalize c D e = z at *
          have HC := Lib.hid hcd
          clear hcd hl1 hem
          have hp1 : (0 : Int) < ((r + 1 : Nat) : Int) := by omega
          have hsub : (((r + 1 : Nat) : Int)) - 1 = (r : Int) := by omega
          have ir1 : (0 : Int) ≤ (r : Int) := by omega
          have ir2 : (r : Int) < (G.length : Int) := by omega
          have ir3 : ((r + 1 : Nat) : Int) < (G.length : Int) := by omega
          have ir4 : (0 : Int) ≤ ((r + 1 : Nat) : Int) := by omega
          have hgs := (ho2.lt g rfl).2
          have f0 := ho2.frz r
          have f1 := ho2.frz (r + 1)
          clear hc hlt
          have hef : ∀ (args : Array Value) (w : World), (callFunc f args).run Tryz.prog w = .ok (.enter f args) w := EF.out
          go_wp2_with fail
          (refine wp_region_quietG (by kernel_rfl) (by kernel_rfl) (fun hG => ?_))
          repeat (go_big_quiet_step ((go_at_fn f; exact quietG (HC.out _ (grown_bel hg (Grw.below _))))))
          refine wpQuiet_nil ?_
          clear hG
          rintro w3 ⟨⟨_, hb3⟩, rfl⟩
          have ho3 := ho2.kept hb3
          have hg3 := grown_bel hg hb3
          have g0 := ho3.frz r
          have g1 := ho3.frz (r + 1)
          have ys := ho3.cell (q := r + 1) (by rw [HRL.out _ hp]; omega)
          have yb := ho3.cell (q := r) (by rw [HRL.out _ hp]; omega)
          rw [HRS.out _ hp] at ys
          have yb' : w3.cell? ⟨g, r, none⟩ = some (.int .i64 e) := by
            have := (hb3.cell (p := ⟨g, r, none⟩) hgs).trans xb
            exact this
          clear yb f0 f1 xs xb hg hb3 hef
          by_cases hz : z < 0
          · have e1 : decide (z < 0) = true := by simp [hz]
            have HO := Lib.hid (show OwnI base ((w3.setCell ⟨g, r + 1, none⟩ (.int .i64 e)).setCell ⟨g, r, none⟩ (.int .i64 D)) (.slice (some ⟨g, 0, none⟩) G.length cap) (isoR lt G i r) by
              rw [← HS.out]
              exact (ho3.set_ (r + 1) _).set_ r _)
            have HG := Lib.hid (grown_set (grown_set hg3 (r + 1) (.int .i64 e)) r (.int .i64 D))
            have HP2 : Hid (posN (lt D) (isoK lt G i) i = posN (lt D) (isoK lt G i) r) := Lib.hid (by rw [HP.out, HPS.out, if_pos e1])
            clear ho2 ho3 hg3
            go_wp2_with fail
            go_region
            all_goals go_wp2
            all_goals go_roundw
            case rel => exact ⟨r, by omega, by go_num, HO.out, grown_drew HG.out, HP2⟩
            case measure => simp [intOf]
          · have e1 : decide (z < 0) = false := by simp [hz]
            have HP2 : Hid (posN (lt D) (isoK lt G i) i = r + 1) := Lib.hid (by rw [HP.out, HPS.out, e1]; rfl)
            have HO : Hid (OwnI base w3 (.slice (some ⟨g, 0, none⟩) G.length cap) (isoH lt G (i + 1))) := Lib.hid (by rw [← HE.out, HP2.out]; exact ho3)
            clear ho2 ho3
            go_wp2
            go_roundw
            case rel => exact ⟨i + 1, by omega, by omega, by go_num, by rw [show min (i + 1) G.length = i + 1 by omega]; exact HO.out, hg3⟩
            case measure => simp [intOf]; omega
        · have hp0' : p = 0 := by omega
          subst hp0'
          have HP2 : Hid (posN (lt D) (isoK lt G i) i = 0) := Lib.hid HP.out
          have HO : Hid (OwnI base wr (.slice (some ⟨g, 0, none⟩) G.length cap) (isoH lt G (i + 1))) := Lib.hid (by rw [← HE.out, HP2.out]; exact ho2)
          clear ho2 hc hlt hp0
          go_wp2_with fail
          (refine wp_region_quietG (by kernel_rfl) (by kernel_rfl) (fun hG => ?_))
          repeat (go_big_quiet_step (fail))
          refine wpQuiet_nil ?_
          clear hG
          rintro w3 ⟨⟨_, hb3⟩, rfl⟩
          have ho3 := HO.out.kept hb3
          have hg3 := grown_bel hg hb3
          go_wp2
          go_roundw
          case rel => exact ⟨i + 1, by omega, by omega, by go_num, by rw [show min (i + 1) G.length = i + 1 by omega]; exact ho3, hg3⟩
          case measure => simp [intOf]; omega
    · have HO : Hid (OwnI base wr (.slice (some ⟨g, 0, none⟩) G.length cap) (natI (isoK lt G G.length))) := Lib.hid (by
        rw [show min i G.length = G.length by omega, isoH_all] at ho2; exact ho2)
      clear hc hlt ho2
      go_wp2
      go_end0
      exact ⟨rfl, HO.out, hg⟩
end Go.Proofs.YtnjcpljhmhdhkaaGreat

namespace Go.Proofs.YtnjcpljhmhdhkaaGreat
open Go.RowKit
section
variable {P : Program} {md : Region.Mode} {ops : Array Oper} {Q : Exit → Act → World → Prop} {S : World → Prop}
def anyE (P : Program) (md : Region.Mode) (ops : Array Oper) (Q : Exit → Act → World → Prop) (S : World → Prop) (n : Nat) : Nat → Array Bool → Act → World → Prop
  | 0, listed, a, w => Region.ready md ops listed = [] ∧ Q .normal a w
  | fuel + 1, listed, a, w =>
    (Region.ready md ops listed = [] → Q .normal a w) ∧
    ∀ i ∈ Region.ready md ops listed, wpOp P ops Q i (fun a' w' => ((listed.setIfInBounds i true).getD n true = false → S w') ∧ anyE P md ops Q S n fuel (listed.setIfInBounds i true) a' w') a w
theorem any_of_E {n : Nat} : ∀ (fuel : Nat) (listed : Array Bool) (a : Act) (w : World), anyE P md ops Q S n fuel listed a w → wpAny P md ops Q fuel listed a w
  | 0, _, _, _, h => h
  | fuel + 1, _, _, _, h => ⟨h.1, fun i hi => wpOp_mono (fun a' w' h' => any_of_E fuel _ a' w' h'.2) (h.2 i hi)⟩
theorem E_first {n i : Nat} {oi on : Oper} {v : Value} (hi : ops[i]? = some oi) (hon : ops[n]? = some on) (hwait : ∃ e ∈ on.after, Region.binds md e = true ∧ e.on = i) (hsel : ∀ (j : Nat) (o : Oper) cs b, ops[j]? = some o → o.op ≠ .select cs b)
    (hQ : ∀ c a w, Q (.panic c) (a.put oi.dst v) w → Q (.panic c) a w) :
    ∀ (fuel : Nat) (listed : Array Bool) (a : Act) (w : World),
      (∀ j oj, ops[j]? = some oj → j ≠ i → listed.getD j true = false → (∀ e ∈ oj.after, Region.binds md e = true → e.on ≠ i) → oi.apart ops oj = true) →
      i ∈ Region.ready md ops listed → listed.getD n true = false → YieldsIf P ops S oi v a → S w →
      anyE P md ops Q S n fuel (listed.setIfInBounds i true) (a.put oi.dst v) w → anyE P md ops Q S n (fuel + 1) listed a w := by
  intro fuel
  induction fuel with
  | zero =>
    intro listed a w _ hr hn hy hS H
    refine ⟨fun h => (by rw [h] at hr; cases hr), fun j hj => ?_⟩
    by_cases hji : j = i
    · subst hji
      exact hy.wpOp hi hS ⟨fun _ => hS, H⟩
    · have := ready_mono hj hji
      rw [H.1] at this
      cases this
  | succ fuel ih =>
    intro listed a w hfree hr hn hy hS H
    refine ⟨fun h => (by rw [h] at hr; cases hr), fun j hj => ?_⟩
    by_cases hji : j = i
    · subst hji
      exact hy.wpOp hi hS ⟨fun _ => hS, H⟩
    · have h1 := H.2 j (ready_mono hj hji)
      obtain ⟨hjun, oj, hoj, hall⟩ := mem_ready.1 hj
      have hnot : ∀ e ∈ oj.after, Region.binds md e = true → e.on ≠ i := fun e he hb heq => by
        have g1 := hall e he hb
        have g0 := (mem_ready.1 hr).1
        rw [heq] at g1
        rcases Nat.lt_or_ge i listed.size with h' | h'
        · simp [h'] at g0 g1; rw [g0] at g1; cases g1
        · simp [Array.getElem?_eq_none h'] at g1
      have hjn : j ≠ n := by
        rintro rfl
        rw [hon] at hoj
        cases hoj
        obtain ⟨e, he, hb, heq⟩ := hwait
        exact hnot e he hb heq
      have hin : i ≠ n := by
        rintro rfl
        rw [hon] at hi
        cases hi
        obtain ⟨e, he, hb, heq⟩ := hwait
        obtain ⟨h0, o', ho', hall'⟩ := mem_ready.1 hr
        rw [hon] at ho'
        cases ho'
        have g1 := hall' e he hb
        rw [heq] at g1
        rcases Nat.lt_or_ge i listed.size with h' | h'
        · simp [h'] at h0 g1; rw [h0] at g1; cases g1
        · simp [Array.getElem?_eq_none h'] at g1
      have h2 := wpOp_putIf hoj (hfree j oj hoj hji hjun hnot) (fun cs b => hsel i oi cs b hi) (fun cs b => hsel j oj cs b hoj) hQ hy h1
      have hfree' : ∀ k ok, ops[k]? = some ok → k ≠ i → (listed.setIfInBounds j true).getD k true = false →
          (∀ e ∈ ok.after, Region.binds md e = true → e.on ≠ i) → oi.apart ops ok = true := fun k ok hk hki hun hno => by
        refine hfree k ok hk hki ?_ hno
        by_cases hjk : j = k
        · subst hjk; exact hjun
        · rw [getD_set_ne true hjk] at hun; exact hun
      have hnf : ((listed.setIfInBounds i true).setIfInBounds j true).getD n true = false := by rw [getD_set_ne true hjn, getD_set_ne true hin]; exact hn
      refine wpOp_mono (fun a' w' h3 => ⟨fun _ => h3.2.1 hnf, ih (listed.setIfInBounds j true) a' w' hfree' (ready_mono hr (Ne.symm hji)) (by rw [getD_set_ne true hjn]; exact hn) h3.1 (h3.2.1 hnf) ?_⟩) h2
      rw [Array.setIfInBounds_comm _ _ hji]
      exact h3.2.2
theorem E_take {n i : Nat} {oi on : Oper} {v : Value} {fuel : Nat} {listed : Array Bool} {a : Act} {w : World} (hi' : (ops.toList.drop i).head? = some oi) (hon' : (ops.toList.drop n).head? = some on) (hwait : (on.after.any fun e => Region.binds md e && e.on == i) = true)
    (hs : Region.noSelect ops = true) (hf : Region.free md ops listed i = true) (hr : (Region.ready md ops listed).contains i = true) (hn : listed.getD n true = false)
    (hQ : ∀ c a w, Q (.panic c) (a.put oi.dst v) w → Q (.panic c) a w) (hy : YieldsIf P ops S oi v a) (hS : S w)
    (h : anyE P md ops Q S n fuel (listed.setIfInBounds i true) (a.put oi.dst v) w) : anyE P md ops Q S n (fuel + 1) listed a w := by
  have hi := op_of_head hi'
  have hon := op_of_head hon'
  refine E_first hi hon ?_ (Region.noSelect_spec hs) hQ fuel listed a w (Region.free_spec hi hf) (by simpa using hr) hn hy hS h
  rw [Array.any_eq_true] at hwait
  obtain ⟨k, hk, h⟩ := hwait
  rw [Bool.and_eq_true] at h
  exact ⟨on.after[k], Array.getElem_mem hk, h.1, by simpa using h.2⟩
theorem E_step {n i : Nat} {o : Oper} {fuel : Nat} {listed : Array Bool} {a : Act} {w : World} (ho' : (ops.toList.drop i).head? = some o) (hr : Region.ready md ops listed = [i])
    (h : ∀ K' : Act → World → Prop, (∀ a w, ((listed.setIfInBounds i true).getD n true = false → S w) → (((listed.setIfInBounds i true).getD n true = false → S w) → anyE P md ops Q S n fuel (listed.setIfInBounds i true) a w) → K' a w) → if Region.wanted o (yielded ops a.tmps) = true then Oper.wp P o a w K' Q else K' (a.put o.dst undef) w) :
    anyE P md ops Q S n (fuel + 1) listed a w := by
  have ho := op_of_head ho'
  refine ⟨fun h0 => (by rw [hr] at h0; cases h0), fun j hj => ?_⟩
  rw [hr, List.mem_singleton] at hj
  subst hj
  exact wpOp_step ho (fun K' hK => h K' (fun a w hS hW => hK a w ⟨hS, hW hS⟩))
theorem E_done {n : Nat} {listed : Array Bool} {a : Act} {w : World} (hr : Region.ready md ops listed = []) (h : Q .normal a w) : ∀ fuel, anyE P md ops Q S n fuel listed a w
  | 0 => ⟨hr, h⟩
  | _ + 1 => ⟨fun _ => h, by rw [hr]; simp⟩
theorem region_E {id n : Nat} {a : Act} {w : World} (hm : P.follows .mixedOrders = true) (hS : S w.drew)
    (h : S w.drew → anyE P .any ops Q S n ops.size (Array.replicate ops.size false) a w.drew) : (Code.region id ops true).wp P Q a w :=
  wp_region_any hm (any_of_E _ _ _ _ (h hS))
end
end Go.Proofs.YtnjcpljhmhdhkaaGreat
