/-
  Numbers read from texts, plain.
-/
import Derived.Test.YtbennlajjfkdpaaDoorFmt
set_option linter.unusedSimpArgs false
set_option linter.unusedVariables false
namespace Go.Proofs.YtbennlajjfkdpaaDoor
open Go.RowKit

/-- The value of a row of digits. -/
def valK (l : List UInt8) : Nat := l.foldl (fun n b => 10 * n + (b.toNat - 48)) 0
theorem valK_snoc (l : List UInt8) (b : UInt8) : valK (l ++ [b]) = 10 * valK l + (b.toNat - 48) := by simp [valK]
theorem dec_step {n : Nat} (h : ¬ n < 10) : Lib.decDigits n = Lib.decDigits (n / 10) ++ [UInt8.ofNat (48 + n % 10)] := by
  rw [Lib.decDigits, dif_neg h]
theorem fig_nat {d : Nat} (h : d < 10) : (UInt8.ofNat (48 + d)).toNat = 48 + d := by
  rw [UInt8.toNat_ofNat']
  omega
theorem val_dec (n : Nat) : valK (Lib.decDigits n) = n := by
  induction n using Nat.strongRecOn with
  | ind n ih =>
    by_cases h : n < 10
    · rw [Lib.decDigits_one h]
      simp only [valK, List.foldl_cons, List.foldl_nil]
      rw [fig_nat h]
      omega
    · rw [dec_step h, valK_snoc, ih (n / 10) (by omega), fig_nat (by omega)]
      omega
theorem dec_fig (n : Nat) : ∀ b ∈ Lib.decDigits n, 48 ≤ b.toNat ∧ b.toNat ≤ 57 := by
  induction n using Nat.strongRecOn with
  | ind n ih =>
    by_cases h : n < 10
    · rw [Lib.decDigits_one h]
      intro b hb
      rw [List.mem_singleton] at hb
      subst hb
      rw [fig_nat h]
      omega
    · rw [dec_step h]
      intro b hb
      rw [List.mem_append, List.mem_singleton] at hb
      rcases hb with hb | rfl
      · exact ih (n / 10) (by omega) b hb
      · rw [fig_nat (by omega)]
        omega
theorem decs_len : ∀ (k n : Nat), n < 10 ^ (k + 1) → 1 ≤ (Lib.decDigits n).length ∧ (Lib.decDigits n).length ≤ k + 1
  | 0, n, h => by rw [Lib.decDigits_one (by omega)]; simp
  | k + 1, n, h => by
    by_cases h1 : n < 10
    · rw [Lib.decDigits_one h1]; simp
    · have h2 : n / 10 < 10 ^ (k + 1) := by
        rw [Nat.pow_succ] at h
        omega
      have := decs_len k (n / 10) h2
      rw [dec_step h1, List.length_append]
      simp
      omega

/-- The number that a text denotes. -/
def uintN (s : ByteArray) : Option Nat := if valK s.data.toList ≤ 1000000000 ∧ Lib.decDigits (valK s.data.toList) = s.data.toList then some (valK s.data.toList) else none
theorem uint_iff {s : ByteArray} {n : Nat} : uintN s = some n ↔ n ≤ 1000000000 ∧ Lib.decDigits n = s.data.toList := by
  unfold uintN
  constructor
  · intro h
    split at h
    · rename_i hc
      cases h
      exact hc
    · cases h
  · rintro ⟨h1, h2⟩
    have hv : valK s.data.toList = n := by rw [← h2, val_dec]
    rw [hv, if_pos ⟨h1, h2⟩]
theorem uint_len {s : ByteArray} {n : Nat} (h : uintN s = some n) : 1 ≤ s.size ∧ s.size ≤ 10 := by
  obtain ⟨h1, h2⟩ := uint_iff.1 h
  have := decs_len 9 n (by omega)
  rw [h2, Array.length_toList] at this
  exact this
theorem uint_short {s : ByteArray} (h : s.size < 1 ∨ 10 < s.size) : uintN s = none := by
  cases hq : uintN s with
  | none => rfl
  | some n => have := uint_len hq; omega
theorem uint_bad {s : ByteArray} {b : UInt8} (hb : b ∈ s.data.toList) (h : b.toNat < 48 ∨ 57 < b.toNat) : uintN s = none := by
  cases hq : uintN s with
  | none => rfl
  | some n =>
    obtain ⟨_, h2⟩ := uint_iff.1 hq
    rw [← h2] at hb
    have := dec_fig n b hb
    omega
theorem val_take {l : List UInt8} {k : Nat} (h : k < l.length) : valK (l.take (k + 1)) = 10 * valK (l.take k) + (l[k].toNat - 48) := by
  rw [List.take_succ_eq_append_getElem h, valK_snoc]
theorem val_lt {l : List UInt8} : ∀ k, k ≤ l.length → (∀ j (hj : j < l.length), j < k → l[j].toNat ≤ 57) → valK (l.take k) < 10 ^ k
  | 0, _, _ => by simp [valK]
  | k + 1, hk, h => by
    have h1 := val_lt k (by omega) (fun j hj hjk => h j hj (by omega))
    have h2 := h k (by omega) (by omega)
    rw [val_take (by omega), Nat.pow_succ]
    omega

end Go.Proofs.YtbennlajjfkdpaaDoor
