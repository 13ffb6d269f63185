/-
  A small number's text.
-/
import Derived.Test.YtbennlajjfkdpaaDoorSmall
import Derived.Shelf.LaysM
import Derived.Lib.Walk
import Derived.Lib.ItoaNum
import Derived.Lib.Strings
import Derived.Lib.ItoaWalk
import Derived.Laws.IdiomStrings
import Derived.Shelf.Strconv.Itoa1
set_option linter.unusedSimpArgs false
set_option linter.unusedVariables false
namespace Go.Proofs.YtbennlajjfkdpaaDoor
open Go.RowKit Go.Lib

theorem ba_list (x : ByteArray) (l : List UInt8) (h : x.data.toList = l) : x = ⟨l.toArray⟩ := by
  subst h
  cases x
  simp

set_option maxHeartbeats 2000000 in
set_option maxRecDepth 100000 in
theorem small_any (i : Nat) (h : i < 100) (w : World) :
    Calls Tryd.prog 86 #[.int .i64 i] w fun e w' => e = .returned (.string ⟨(Lib.decDigits i).toArray⟩) ∧ w = w' := by
  go_enter Tryd.func86, Tryd.ntmps86
  go_name_bytes_deep 45 SM hSM
  have eSM : SM = Lib.smalls := by rw [← hSM]; decide +kernel
  subst eSM
  clear hSM
  go_name_bytes_deep 30 DG hDG
  have eDG : DG = Lib.digits36 := by rw [← hDG]; decide +kernel
  subst eDG
  clear hDG
  by_cases h10 : i < 10
  · have hsl : ∀ w, (Instr.slice 9 (.string Lib.digits36) (some (.int .i64 (i : Int))) (some (.int .i64 ((i : Int) + 1))) none).run Tryd.prog w = .ok (.string (Lib.digits36.extract i (i + 1))) w := fun w => by
      rw [run_slice_string w 9 Lib.digits36 .i64 .i64 _ _ Tryd.underlying9 (by omega) (by omega) (by rw [Lib.digits36_size]; omega), show ((i : Int)).toNat = i by omega, show ((i : Int) + 1).toNat = i + 1 by omega]
    go_wp2
    go_ret
    refine ⟨?_, rfl⟩
    show Ending.returned (Value.string (Lib.digits36.extract i (i + 1))) = _
    rw [ba_list (Lib.digits36.extract i (i + 1)) (Lib.decDigits i) (by rw [Lib.extract_data]; exact Lib.digits36_piece h10)]
  · have hsl : ∀ w, (Instr.slice 9 (.string Lib.smalls) (some (.int .i64 ((i : Int) * 2))) (some (.int .i64 ((i : Int) * 2 + 2))) none).run Tryd.prog w = .ok (.string (Lib.smalls.extract (i * 2) (i * 2 + 2))) w := fun w => by
      rw [run_slice_string w 9 Lib.smalls .i64 .i64 _ _ Tryd.underlying9 (by omega) (by omega) (by rw [Lib.smalls_size]; omega), show ((i : Int) * 2).toNat = i * 2 by omega, show ((i : Int) * 2 + 2).toNat = i * 2 + 2 by omega]
    go_wp2
    go_ret
    refine ⟨?_, rfl⟩
    show Ending.returned (Value.string (Lib.smalls.extract (i * 2) (i * 2 + 2))) = _
    rw [ba_list (Lib.smalls.extract (i * 2) (i * 2 + 2)) (Lib.decDigits i) (by rw [Lib.extract_data]; exact Lib.smalls_piece h10 h)]

set_option maxHeartbeats 2000000 in
set_option maxRecDepth 100000 in
theorem fmt10_any (i : Nat) (h : i < 100) (w : World) :
    Calls Tryd.prog 80 #[.int .i64 i, .int .i64 10] w fun e w' => e = .returned (.string ⟨(Lib.decDigits i).toArray⟩) ∧ w = w' := by
  go_enter Tryd.func80, Tryd.ntmps80
  go_wp2_with (go_at_call 86; refine (small_any i h _).mono ?_; rintro e w' ⟨rfl, rfl⟩)
  go_ret
  exact ⟨rfl, rfl⟩

set_option maxHeartbeats 400000 in
theorem itoa1_any (i : Nat) (h : i < 100) (w : World) :
    Calls Tryd.prog 73 #[.int .i64 i] w fun e w' => e = .returned (.string ⟨(Lib.decDigits i).toArray⟩) ∧ w = w' := by
  go_enter Tryd.func73, Tryd.ntmps73
  go_wp2_with (go_at_call 80; refine (fmt10_any i h _).mono ?_; rintro e w' ⟨rfl, rfl⟩)
  go_ret
  exact ⟨rfl, rfl⟩

set_option maxHeartbeats 400000 in
theorem itoa_any (i : Nat) (h : i < 100) (w : World) :
    Calls Tryd.prog 59 #[.int .i64 i] w fun e w' => e = .returned (.string ⟨(Lib.decDigits i).toArray⟩) ∧ w = w' := by
  go_enter Tryd.func59, Tryd.ntmps59
  go_wp2_with (go_at_call 73; refine (itoa1_any i h _).mono ?_; rintro e w' ⟨rfl, rfl⟩)
  go_ret
  exact ⟨rfl, rfl⟩

set_option maxHeartbeats 400000 in
theorem iFmt_any (i : Nat) (h : i < 100) (w : World) :
    Calls Tryd.prog 37 #[.int .i64 i] w fun e w' => e = .returned (.string ⟨(Lib.decDigits i).toArray⟩) ∧ w = w' := by
  go_enter Tryd.func37, Tryd.ntmps37
  go_wp2_with (go_at_call 59; refine (itoa_any i h _).mono ?_; rintro e w' ⟨rfl, rfl⟩)
  go_ret
  exact ⟨rfl, rfl⟩

set_option maxHeartbeats 400000 in
theorem figure_any (x : Int) (h0 : 0 ≤ x) (h : x < 10) (w : World) :
    Calls Tryd.prog 58 #[.int .i64 x] w fun e w' => e = .returned (.int .u8 (48 + x)) ∧ w = w' := by
  go_enter Tryd.func58, Tryd.ntmps58
  go_wp2
  go_ret
  exact ⟨by simp, rfl⟩

def preD (c : Nat) : List UInt8 := if c = 0 then [] else Lib.decDigits c

theorem preD_step (c : Nat) (h : c ≠ 0) : preD c = preD (c / 10) ++ [UInt8.ofNat (48 + c % 10)] := by
  unfold preD
  rw [if_neg h]
  rw [Lib.decDigits]
  by_cases h10 : c < 10
  · rw [dif_pos h10, if_pos (by omega), Nat.mod_eq_of_lt h10]
    simp
  · rw [dif_neg h10, if_neg (by omega)]

set_option maxHeartbeats 2000000 in
set_option maxRecDepth 100000 in
theorem sFmt_any (n : Nat) (h : n < 10000000000) (w : World) :
    Calls Tryd.prog 36 #[.int .i64 n] w fun e w' => e = .returned (.string ⟨(Lib.decDigits n).toArray⟩) ∧ Below w.heap.size w w' := by
  by_cases h0 : n = 0
  · subst h0
    go_enter Tryd.func36, Tryd.ntmps36
    go_wp2
    go_ret
    exact ⟨by simp [Lib.decDigits], Below.refl _ _⟩
  · have e0 : ((n : Int) == 0) = false := by simp; omega
    have e1 : (n == 0) = false := by simp [h0]
    have e2 : ¬ (n : Int) < 0 := by omega
    go_enter Tryd.func36, Tryd.ntmps36
    go_wp2
    go_loopw [0, 4, 5] (fun v s _ wr => ∃ c : Nat, v = .int .i64 c ∧ ∃ t : List UInt8, s = .string ⟨t.toArray⟩ ∧ t.length + c ≤ n ∧ Hid (preD c ++ t = Lib.decDigits n) ∧ Below w.heap.size w wr) (fun v _ _ _ => (RowKit.intOf v).toNat)
    case atStart => exact ⟨n, rfl, [], rfl, by simp, Lib.hid (by simp [preD, h0]), Below.refl _ _⟩
    case round =>
      obtain ⟨c, rfl, t, rfl, hc, HT, hb⟩ := hrel
      by_cases hc0 : c = 0
      · subst hc0
        go_wp2
        go_ret
        have := HT.out
        simp [preD] at this
        exact ⟨by rw [this]; rfl, hb⟩
      · have s1 : ((c : Int) != 0) = true := by simp; omega
        have s2 : (c != 0) = true := by simp; omega
        have hm : Int.tmod (c : Int) 10 = ((c % 10 : Nat) : Int) := by rw [Int.tmod_eq_emod_of_nonneg (by omega)]; omega
        have hd : Int.tdiv (c : Int) 10 = ((c / 10 : Nat) : Int) := by rw [Int.tdiv_eq_ediv_of_nonneg (by omega)]; omega
        have z1 : (1 : Int) + (t.length : Int) ≤ 9223372036854775807 := by omega
        have z2 : 1 + t.length ≤ 9223372036854775807 := by omega
        have hconv : (convert 66 9 (.slice (some ⟨wr.heap.size, 0, none⟩) 1 1)).run Tryd.prog (wr.alloc (.cells #[.int .u8 (48 + (c : Int) % 10)] 5)) = .ok (.string ⟨#[UInt8.ofNat (48 + c % 10)]⟩) (wr.alloc (.cells #[.int .u8 (48 + (c : Int) % 10)] 5)) :=
          run_convert_bytes_back _ 66 9 5 ⟨wr.heap.size, 0, none⟩ 1 [UInt8.ofNat (48 + c % 10)] Tryd.underlying66 Tryd.underlying5 Tryd.underlying9 (fun j hj => by
            have hj0 : j = 0 := by simpa using hj
            subst hj0
            simp [go_sem, Addr.add]
            omega)
        go_wp2_with (go_at_call 58; refine (figure_any _ (by omega) (by omega) _).mono ?_; rintro e w' ⟨rfl, rfl⟩)
        have hst := preD_step c hc0
        have hcat : ({ data := #[48 + UInt8.ofNat (c % 10)] } : ByteArray) ++ { data := t.toArray } = { data := ([UInt8.ofNat (48 + c % 10)] ++ t).toArray } := ba_list _ _ (by simp [UInt8.ofNat_add])
        go_roundw
        case rel => exact ⟨c / 10, by simp, [UInt8.ofNat (48 + c % 10)] ++ t, by rw [hcat], by simp; omega, Lib.hid (by rw [← List.append_assoc, ← hst]; exact HT.out), hb.alloc hb.size _⟩
        case measure => simp [RowKit.intOf]; omega

end Go.Proofs.YtbennlajjfkdpaaDoor
