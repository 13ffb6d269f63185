/-
  Numbers read from texts: the reference's side.
-/
import Derived.Test.YtbennlajjfkdpaaDoorPu
set_option linter.unusedSimpArgs false
set_option linter.unusedVariables false
namespace Go.Proofs.YtbennlajjfkdpaaDoor
open Go.RowKit

set_option maxHeartbeats 8000000 in
set_option maxRecDepth 100000 in
theorem sPu_any (s : ByteArray) (w : World) :
    Calls Tryd.prog 34 #[.string s] w (RetU s w) := by
  have hno : uintN s = none → RetU s w (.returned (.tuple #[.int .i64 0, .bool false])) w := fun h => ⟨by rw [h]; rfl, Below.refl _ _⟩
  have HNO := Lib.hid hno
  clear hno
  by_cases h10 : 10 < s.size
  · have HU := Lib.hid (uint_short (.inr h10))
    have e2 : (10 : Int) < ((s.size : Nat) : Int) := by omega
    go_enter Tryd.func34, Tryd.ntmps34
    go_wp2
    go_ret2
    exact HNO.out HU.out
  · have e2 : ¬ (10 : Int) < ((s.size : Nat) : Int) := by omega
    have hL : s.data.toList.length = s.size := by simp
    obtain ⟨L, hLL⟩ : ∃ L, s.data.toList = L := ⟨_, rfl⟩
    have HBY : Hid (∀ i : Nat, i < s.size → ∃ b : UInt8, L[i]? = some b ∧ ∀ w, (Instr.index 9 (.string s) (.int .i64 (i : Int))).run Tryd.prog w = .ok (.int .u8 (b.toNat : Int)) w) := Lib.hid (by rw [← hLL]; exact fun i hi => byte_at s i hi)
    have HUB : Hid (∀ b : UInt8, b ∈ L → (b.toNat < 48 ∨ 57 < b.toNat) → uintN s = none) := Lib.hid (by rw [← hLL]; exact fun b hb h => uint_bad hb h)
    have HUE : Hid (uintN s = if valK L ≤ 1000000000 ∧ Lib.decDigits (valK L) = L then some (valK L) else none) := Lib.hid (by rw [← hLL]; rfl)
    have HEQ : Hid (∀ D : List UInt8, (((⟨D.toArray⟩ : ByteArray).toList == s.toList) = true ↔ D = L)) := Lib.hid (by rw [← hLL]; intro D; rw [beq_iff_eq, ByteArray.toList_mk, ByteArray.toList_eq])
    rw [hLL] at hL
    clear hLL
    go_enter Tryd.func34, Tryd.ntmps34
    go_wp2
    go_loopw [4, 5] (fun n i wr => ∃ k : Nat, k ≤ L.length ∧ i = .int .i64 k ∧ n = .int .i64 (valK (L.take k) : Nat) ∧ Hid (∀ j (hj : j < L.length), j < k → L[j].toNat ≤ 57) ∧ wr = w) (fun _ i _ => L.length - (intOf i).toNat)
    case atStart => exact ⟨0, Nat.zero_le _, rfl, by simp [valK], Lib.hid (fun j hj h => by omega), rfl⟩
    case round =>
      obtain ⟨k, hk, rfl, rfl, hd, rfl⟩ := hrel
      by_cases hlt : k < L.length
      · obtain ⟨b, hb, hix⟩ := HBY.out k (by omega)
        have hbl : L[k] = b := by
          rw [List.getElem?_eq_getElem hlt] at hb
          exact Option.some.inj hb
        have hm : b ∈ L := by rw [← hbl]; exact List.getElem_mem _
        have c2 : (k : Int) < ((s.size : Nat) : Int) := by omega
        have hvl := val_lt k hk hd.out
        have hp : (10 : Nat) ^ k ≤ 10 ^ 9 := Nat.pow_le_pow_right (by omega) (by omega)
        have HST : Hid (valK (L.take (k + 1)) = 10 * valK (L.take k) + (b.toNat - 48)) := Lib.hid (by rw [val_take hlt, hbl])
        have HDN : Hid (b.toNat ≤ 57 → ∀ j (hj : j < L.length), j < k + 1 → L[j].toNat ≤ 57) := Lib.hid (fun h57 j hj hjk => by
          rcases Nat.lt_or_ge j k with g | g
          · exact hd.out j hj g
          · have e : j = k := by omega
            subst e
            rw [hbl]; exact h57)
        have HBB := Lib.hid (HUB.out b hm)
        have hb8 := b.toNat_lt
        clear hb hbl hm hd
        generalize valK (L.take k) = V at *
        generalize b.toNat = B at *
        by_cases h48 : B < 48
        · have HU := Lib.hid (HBB.out (.inl h48))
          have d1 : (B : Int) < 48 := by omega
          go_wp2
          go_ret2
          exact HNO.out HU.out
        · by_cases h57 : 57 < B
          · have HU := Lib.hid (HBB.out (.inr h57))
            have d1 : ¬ (B : Int) < 48 := by omega
            have d2 : (57 : Int) < (B : Int) := by omega
            go_wp2
            go_ret2
            exact HNO.out HU.out
          · have d1 : ¬ (B : Int) < 48 := by omega
            have d2 : ¬ (57 : Int) < (B : Int) := by omega
            have w2 : IntKind.i64.wrap (10 * (V : Int)) = 10 * (V : Int) := IntWalk.i64_in _ (by omega)
            have w3 : IntKind.i64.wrap (B : Int) = (B : Int) := IntWalk.i64_in _ (by omega)
            have w4 : IntKind.i64.wrap (10 * (V : Int) + (B : Int)) = 10 * (V : Int) + (B : Int) := IntWalk.i64_in _ (by omega)
            have w5 : IntKind.i64.wrap (10 * (V : Int) + (B : Int) - 48) = 10 * (V : Int) + (B : Int) - 48 := IntWalk.i64_in _ (by omega)
            have HV : Hid (10 * (V : Int) + (B : Int) - 48 = (((10 * V + (B - 48) : Nat)) : Int)) := Lib.hid (by omega)
            go_wp2
            go_roundw
            case rel => exact ⟨k + 1, by omega, by go_num, by rw [HST.out, ← HV.out], Lib.hid (HDN.out (by omega)), trivial⟩
            case measure => simp [intOf]; omega
      · have hkk : k = L.length := by omega
        subst hkk
        have c2 : ¬ ((L.length : Nat) : Int) < ((s.size : Nat) : Int) := by omega
        have hvl := val_lt L.length hk hd.out
        rw [List.take_length] at hvl ⊢
        have hp : (10 : Nat) ^ L.length ≤ 10 ^ 10 := Nat.pow_le_pow_right (by omega) (by omega)
        have HE := Lib.hid (HEQ.out (Lib.decDigits (valK L)))
        generalize valK L = V at *
        clear hd
        by_cases hm : 1000000000 < V
        · have HU : Hid (uintN s = none) := Lib.hid (by rw [HUE.out, if_neg (by omega)])
          have d1 : (1000000000 : Int) < (V : Int) := by omega
          go_wp2
          go_ret2
          exact HNO.out HU.out
        · have d1 : ¬ (1000000000 : Int) < (V : Int) := by omega
          obtain ⟨D, hD⟩ : ∃ D, (⟨(Lib.decDigits V).toArray⟩ : ByteArray) = D := ⟨_, rfl⟩
          have HC := Lib.hid (sFmt_any V (by omega) wr)
          rw [hD] at HC HE
          clear hD
          by_cases hq : Lib.decDigits V = L
          · have HU : Hid (uintN s = some V) := Lib.hid (by rw [HUE.out, if_pos ⟨by omega, hq⟩])
            have e3 : (D.toList == s.toList) = true := HE.out.2 hq
            clear hq
            go_wp2_with fail
            refine HC.out.mono ?_
            rintro e w2 ⟨rfl, hb2⟩
            go_wp2
            go_ret2
            exact ⟨by rw [HU.out]; rfl, hb2⟩
          · have HU : Hid (uintN s = none) := Lib.hid (by rw [HUE.out, if_neg (fun h => hq h.2)])
            have e3 : (D.toList == s.toList) = false := by
              cases hx : (D.toList == s.toList)
              · rfl
              · exact absurd (HE.out.1 hx) hq
            clear hq
            go_wp2_with fail
            refine HC.out.mono ?_
            rintro e w2 ⟨rfl, hb2⟩
            go_wp2
            go_ret2
            exact ⟨by rw [HU.out]; rfl, hb2⟩

end Go.Proofs.YtbennlajjfkdpaaDoor
