/-
  Acts read from texts, plain.
-/
import Derived.Test.YtbennlajjfkdpaaDoorFldP
import Derived.Test.YtbennlajjfkdpaaDoorFact
set_option linter.unusedSimpArgs false
set_option linter.unusedVariables false
namespace Go.Proofs.YtbennlajjfkdpaaDoor
open Go.RowKit

/-- The kind that a word names. -/
def kindN (x : List UInt8) : Int :=
  if x = [97, 100, 100] then 1
  else if x = [100, 114, 111, 112] then 2
  else if x = [106, 111, 105, 110] then 3
  else if x = [117, 110, 100, 111] then 4
  else if x = [99, 111, 108, 111, 114] then 5
  else if x = [115, 119, 97, 112] then 6
  else if x = [115, 116, 111, 114, 101] then 7
  else if x = [102, 101, 116, 99, 104] then 8
  else if x = [112, 97, 110, 101, 115] then 9 else 0
theorem nine {k : Int} (h1 : 1 ≤ k) (h2 : k ≤ 9) : k = 1 ∨ k = 2 ∨ k = 3 ∨ k = 4 ∨ k = 5 ∨ k = 6 ∨ k = 7 ∨ k = 8 ∨ k = 9 := by omega
theorem kind_name {k : Int} (h1 : 1 ≤ k) (h2 : k ≤ 9) : kindN (aName k) = k ∧ aName k ≠ [] ∧ 32 ∉ aName k := by
  rcases nine h1 h2 with h | h | h | h | h | h | h | h | h <;> subst h <;> decide
/-- The words of an act's text. -/
def actW (k a b : Int) : List (List UInt8) := aName k :: ((if 1 ≤ aCnt k then [Lib.decDigits a.toNat] else []) ++ (if 2 ≤ aCnt k then [Lib.decDigits b.toNat] else []))
theorem aCnt_le (k : Int) : aCnt k ≤ 2 := by unfold aCnt; split; omega; split <;> omega
theorem actW_len (k a b : Int) : (actW k a b).length = 1 + aCnt k := by
  have := aCnt_le k
  unfold actW
  by_cases h1 : 1 ≤ aCnt k
  · by_cases h2 : 2 ≤ aCnt k
    · rw [if_pos h1, if_pos h2]; simp; omega
    · rw [if_pos h1, if_neg h2]; simp; omega
  · rw [if_neg h1, if_neg (by omega)]; simp; omega
theorem dec_ok (n : Nat) : Lib.decDigits n ≠ [] ∧ 32 ∉ Lib.decDigits n := by
  constructor
  · intro h
    by_cases h1 : n < 10
    · rw [Lib.decDigits_one h1] at h; cases h
    · rw [dec_step h1] at h; simp at h
  · intro h
    have := dec_fig n 32 h
    simp at this
theorem actW_ok {k a b : Int} (h1 : 1 ≤ k) (h2 : k ≤ 9) : WordsOk (actW k a b) := by
  intro w hw
  unfold actW at hw
  rw [List.mem_cons, List.mem_append] at hw
  rcases hw with rfl | hw | hw
  · exact (kind_name h1 h2).2
  · split at hw
    · rw [List.mem_singleton] at hw; subst hw; exact dec_ok _
    · cases hw
  · split at hw
    · rw [List.mem_singleton] at hw; subst hw; exact dec_ok _
    · cases hw
theorem actS_join {k a b : Int} (h : actB k a b = true) : bsL (actS k a b) = spcB (actW k a b) := by
  have := aCnt_le k
  unfold bsL actS actW
  rw [if_pos h]
  by_cases h1 : 1 ≤ aCnt k
  · by_cases h2 : 2 ≤ aCnt k
    · rw [if_pos h1, if_pos h2, if_pos h1, if_pos h2]; simp [spcB]
    · rw [if_pos h1, if_neg h2, if_pos h1, if_neg h2]; simp [spcB]
  · rw [if_neg h1, if_neg (by omega), if_neg h1, if_neg (by omega)]; simp [spcB]
theorem act_zero {k a b : Int} (h : actB k a b = true) : (¬ 1 ≤ aCnt k → a = 0) ∧ (¬ 2 ≤ aCnt k → b = 0) := by
  have hb := actB_bd h
  unfold actB at h
  rcases nine hb.1.1 hb.1.2 with e | e | e | e | e | e | e | e | e <;> subst e <;> simp [aCnt] at h ⊢ <;> first | omega | exact h.2 | exact h

/-- The number in the j-th word. -/
def numO (P : List ByteArray) (j : Nat) : Option Nat := if j < P.length then uintN (P.getD j ⟨#[]⟩) else some 0
/-- The act that a line denotes. -/
def paG (P : List ByteArray) (a b : Nat) : Option (Int × Int × Int) := if actB (kindN (bsL (P.getD 0 ⟨#[]⟩))) a b = true ∧ spcB (P.map bsL) = bsL (actS (kindN (bsL (P.getD 0 ⟨#[]⟩))) a b) then some (kindN (bsL (P.getD 0 ⟨#[]⟩)), (a : Int), (b : Int)) else none
def paF (P : List ByteArray) : Option (Int × Int × Int) := (numO P 1).bind fun a => (numO P 2).bind fun b => paG P a b
def paO (s : ByteArray) : Option (Int × Int × Int) := if fldB s = true ∧ 1 ≤ (fldL s).length ∧ (fldL s).length ≤ 3 then paF (fldL s) else none

theorem uint_dec {x : ByteArray} {a : Int} (h : bsL x = Lib.decDigits a.toNat) (h2 : a ≤ 50) : uintN x = some a.toNat := by
  refine uint_iff.2 ⟨by omega, ?_⟩
  rw [← h]; rfl
theorem paF_of {P : List ByteArray} {k a b : Int} (hP : WordsOk (P.map bsL)) (h : actB k a b = true) (hj : spcB (P.map bsL) = bsL (actS k a b)) : paF P = some (k, a, b) := by
  obtain ⟨⟨k1, k9⟩, ⟨a0, a4⟩, b0, b5⟩ := actB_bd h
  have hz := act_zero h
  have e := join_inj hP (actW_ok k1 k9) (hj.trans (actS_join h))
  have hl : P.length = 1 + aCnt k := by
    have := congrArg List.length e
    rw [List.length_map, actW_len] at this
    exact this
  have hg : ∀ j x, (actW k a b)[j]? = some x → bsL (P.getD j ⟨#[]⟩) = x := by
    intro j x hx
    rw [← e, List.getElem?_map] at hx
    cases hq : P[j]? with
    | none => rw [hq] at hx; cases hx
    | some y =>
      rw [hq] at hx
      rw [List.getD_eq_getElem?_getD, hq]
      exact Option.some.inj hx
  have hk : kindN (bsL (P.getD 0 ⟨#[]⟩)) = k := by rw [hg 0 (aName k) rfl, (kind_name k1 k9).1]
  have n1 : numO P 1 = some a.toNat := by
    unfold numO
    by_cases h1 : 1 ≤ aCnt k
    · rw [if_pos (by omega)]
      exact uint_dec (hg 1 _ (by unfold actW; rw [if_pos h1]; rfl)) (by omega)
    · rw [if_neg (by omega), hz.1 h1]; rfl
  have n2 : numO P 2 = some b.toNat := by
    unfold numO
    by_cases h2 : 2 ≤ aCnt k
    · rw [if_pos (by omega)]
      exact uint_dec (hg 2 _ (by unfold actW; rw [if_pos (show 1 ≤ aCnt k by omega), if_pos h2]; rfl)) (by omega)
    · rw [if_neg (by omega), hz.2 h2]; rfl
  have ea : ((a.toNat : Nat) : Int) = a := by omega
  have eb : ((b.toNat : Nat) : Int) = b := by omega
  unfold paF
  rw [n1, n2]
  show paG P a.toNat b.toNat = _
  unfold paG
  rw [hk, ea, eb, if_pos ⟨h, hj⟩]
theorem paF_to {P : List ByteArray} {k a b : Int} (h : paF P = some (k, a, b)) : k = kindN (bsL (P.getD 0 ⟨#[]⟩)) ∧ actB k a b = true ∧ spcB (P.map bsL) = bsL (actS k a b) ∧ numO P 1 = some a.toNat ∧ numO P 2 = some b.toNat ∧ 0 ≤ a ∧ 0 ≤ b := by
  unfold paF at h
  cases h1 : numO P 1 with
  | none => rw [h1] at h; cases h
  | some x =>
    cases h2 : numO P 2 with
    | none => rw [h1, h2] at h; cases h
    | some y =>
      rw [h1, h2] at h
      replace h : paG P x y = some (k, a, b) := h
      unfold paG at h
      split at h
      · rename_i hc
        cases h
        exact ⟨rfl, hc.1, hc.2, by simp, by simp, by omega, by omega⟩
      · cases h

/-- The reference's number. -/
def refN (x : ByteArray) : Int := if 1 < x.size ∧ x.data.toList.getD 0 0 = 45 then -(((uintN (x.extract 1 x.size)).getD 0 : Nat) : Int) else (((uintN x).getD 0 : Nat) : Int)
theorem ref_uint {x : ByteArray} {n : Nat} (h : uintN x = some n) : refN x = n := by
  have hl := uint_len h
  obtain ⟨_, h2⟩ := uint_iff.1 h
  have hf : ¬ x.data.toList.getD 0 0 = 45 := by
    rw [← h2]
    intro hc
    have hm : (Lib.decDigits n).getD 0 0 ∈ Lib.decDigits n := by
      cases hq : Lib.decDigits n with
      | nil => exact absurd hq (dec_ok n).1
      | cons b r => simp
    have := dec_fig n _ hm
    rw [hc] at this
    simp at this
  unfold refN
  rw [if_neg (fun hc => hf hc.2), h]
  rfl
def refA (P : List ByteArray) (j : Nat) : Int := if j < P.length then refN (P.getD j ⟨#[]⟩) else 0
theorem ref_num {P : List ByteArray} {j n : Nat} (h : numO P j = some n) : refA P j = n := by
  unfold numO at h
  unfold refA
  split
  · rename_i hj
    rw [if_pos hj] at h
    exact ref_uint h
  · rename_i hj
    rw [if_neg hj] at h
    cases h
    rfl
/-- An act that the reference finds, if any. -/
theorem ref_hit {P : List ByteArray} {k : Int} (hP : WordsOk (P.map bsL)) (h : actB k (refA P 1) (refA P 2) = true) (hj : spcB (P.map bsL) = bsL (actS k (refA P 1) (refA P 2))) : paF P = some (k, refA P 1, refA P 2) := paF_of hP h hj
theorem ref_miss {P : List ByteArray} (h : ∀ k : Int, 1 ≤ k → k ≤ 9 → ¬ (actB k (refA P 1) (refA P 2) = true ∧ spcB (P.map bsL) = bsL (actS k (refA P 1) (refA P 2)))) : paF P = none := by
  cases hq : paF P with
  | none => rfl
  | some q =>
    obtain ⟨k, a, b⟩ := q
    obtain ⟨_, h1, h2, h3, h4, a0, b0⟩ := paF_to hq
    have ea := ref_num h3
    have eb := ref_num h4
    have hk := (actB_bd h1).1
    have xa : ((a.toNat : Nat) : Int) = a := by omega
    have xb : ((b.toNat : Nat) : Int) = b := by omega
    rw [xa] at ea
    rw [xb] at eb
    exact absurd ⟨by rw [ea, eb]; exact h1, by rw [ea, eb]; exact h2⟩ (h k hk.1 hk.2)

end Go.Proofs.YtbennlajjfkdpaaDoor
