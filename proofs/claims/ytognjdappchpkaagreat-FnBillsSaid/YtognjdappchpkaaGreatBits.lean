/-
  Sets of small numbers as the bits of an int: plain.
-/
import Derived.Test.YtognjdappchpkaaGreatBase
set_option linter.unusedSimpArgs false
set_option linter.unusedVariables false
namespace Go.Proofs.YtognjdappchpkaaGreat
open Go.RowKit

theorem bits_or_nat {a b : Nat} (ha : a < 2 ^ 63) (hb : b < 2 ^ 63) : bits .or .i64 (a : Int) (b : Int) = ((a ||| b : Nat) : Int) := by
  have e : bits .or .i64 (a : Int) (b : Int) = IntKind.i64.wrap ((BitVec.ofInt 64 (a : Int) ||| BitVec.ofInt 64 (b : Int)).toNat : Int) := rfl
  have h : a ||| b < 2 ^ 63 := Nat.or_lt_two_pow ha hb
  rw [e, BitVec.ofInt_natCast, BitVec.ofInt_natCast, BitVec.toNat_or, BitVec.toNat_ofNat, BitVec.toNat_ofNat, Nat.mod_eq_of_lt (by omega), Nat.mod_eq_of_lt (by omega)]
  exact IntWalk.i64_in _ (by omega)

theorem bits_and_nat {a b : Nat} (ha : a < 2 ^ 63) (hb : b < 2 ^ 63) : bits .and .i64 (a : Int) (b : Int) = ((a &&& b : Nat) : Int) := by
  have e : bits .and .i64 (a : Int) (b : Int) = IntKind.i64.wrap ((BitVec.ofInt 64 (a : Int) &&& BitVec.ofInt 64 (b : Int)).toNat : Int) := rfl
  have h : a &&& b ≤ a := Nat.and_le_left
  rw [e, BitVec.ofInt_natCast, BitVec.ofInt_natCast, BitVec.toNat_and, BitVec.toNat_ofNat, BitVec.toNat_ofNat, Nat.mod_eq_of_lt (by omega), Nat.mod_eq_of_lt (by omega)]
  exact IntWalk.i64_in _ (by omega)

theorem bits_xor_nat {a b : Nat} (ha : a < 2 ^ 63) (hb : b < 2 ^ 63) : bits .xor .i64 (a : Int) (b : Int) = ((a ^^^ b : Nat) : Int) := by
  have e : bits .xor .i64 (a : Int) (b : Int) = IntKind.i64.wrap ((BitVec.ofInt 64 (a : Int) ^^^ BitVec.ofInt 64 (b : Int)).toNat : Int) := rfl
  have h : a ^^^ b < 2 ^ 63 := Nat.xor_lt_two_pow ha hb
  rw [e, BitVec.ofInt_natCast, BitVec.ofInt_natCast, BitVec.toNat_xor, BitVec.toNat_ofNat, BitVec.toNat_ofNat, Nat.mod_eq_of_lt (by omega), Nat.mod_eq_of_lt (by omega)]
  exact IntWalk.i64_in _ (by omega)

/-- Is bit k set? As the program asks: set>>k&1 == 1. -/
theorem bit_test {s k : Nat} (hs : s < 2 ^ 62) : bits .and .i64 ((s : Int) / 2 ^ k) 1 = if s.testBit k then 1 else 0 := by
  have e : ((s : Int) / 2 ^ k) = ((s / 2 ^ k : Nat) : Int) := by rw [Int.natCast_ediv]; rfl
  have hle : s / 2 ^ k ≤ s := Nat.div_le_self _ _
  have h := bits_and_nat (a := s / 2 ^ k) (b := 1) (by omega) (by omega)
  rw [e, show (1 : Int) = ((1 : Nat) : Int) from rfl, h, Nat.and_one_is_mod, Nat.testBit_eq_decide_div_mod_eq]
  have h2 : s / 2 ^ k % 2 = 0 ∨ s / 2 ^ k % 2 = 1 := by omega
  rcases h2 with h2 | h2 <;> simp [h2]

theorem shl_one {k : Nat} (hk : k < 62) : IntKind.i64.wrap (1 * 2 ^ k) = ((2 ^ k : Nat) : Int) := by
  have h : (2 : Nat) ^ k < 2 ^ 62 := Nat.pow_lt_pow_right (by omega) hk
  have e : (1 * 2 ^ k : Int) = ((2 ^ k : Nat) : Int) := by rw [Int.one_mul, Int.natCast_pow]; rfl
  rw [e]
  clear e
  generalize (2 : Nat) ^ k = z at *
  exact IntWalk.i64_in _ (by omega)

/-- The members of a set among the first m numbers. -/
def memS (s m : Nat) : List Nat := (List.range m).filter (s.testBit ·)

theorem memS_succ_yes {s m : Nat} (h : s.testBit m = true) : memS s (m + 1) = memS s m ++ [m] := by simp [memS, List.range_succ, List.filter_append, h]
theorem memS_succ_no {s m : Nat} (h : s.testBit m = false) : memS s (m + 1) = memS s m := by simp [memS, List.range_succ, List.filter_append, h]
theorem memS_le (s m : Nat) : (memS s m).length ≤ m := by
  have := List.length_filter_le (s.testBit ·) (List.range m)
  simpa [memS] using this

theorem memS_all {s m : Nat} : (memS s m).length = m ↔ ∀ i, i < m → s.testBit i = true := by
  constructor
  · intro h i hi
    have h2 : (List.range m).filter (s.testBit ·) = List.range m := List.length_filter_eq_length_iff.1 (by simpa [memS] using h) |> fun h3 => List.filter_eq_self.2 h3
    have := List.filter_eq_self.1 h2 i (List.mem_range.2 hi)
    exact this
  · intro h
    have h2 : (List.range m).filter (s.testBit ·) = List.range m := List.filter_eq_self.2 (fun i hi => h i (List.mem_range.1 hi))
    simp [memS, h2]

/-- Behind the last bit. -/
theorem memS_more {s m : Nat} (h : s < 2 ^ m) : ∀ j, memS s (m + j) = memS s m
  | 0 => rfl
  | j + 1 => by
    rw [show m + (j + 1) = (m + j) + 1 by omega, memS_succ_no (Nat.testBit_lt_two_pow (Nat.lt_of_lt_of_le h (Nat.pow_le_pow_right (by omega) (by omega))))]
    exact memS_more h j

end Go.Proofs.YtognjdappchpkaaGreat
