/-
  The walks of the small functions that only compute: within, l01In, size, l34Gap; and allWithin over a list.
-/
import Derived.Test.YtoknmjpnelbplaaGreatBase
import Derived.Test.YtoknmjpnelbplaaGreatProg
set_option linter.unusedSimpArgs false
set_option linter.unusedVariables false
namespace Go.Proofs.YtoknmjpnelbplaaGreat
open Go.RowKit

set_option maxHeartbeats 400000 in
theorem within_any (n lo hi : Int) (w : World) :
    Calls Tryz.prog 70 #[.int .i64 n, .int .i64 lo, .int .i64 hi] w fun e w' => e = .returned (.bool (inB n lo hi)) ∧ w = w' := by
  go_enter Tryz.func70, Tryz.ntmps70
  go_wp2
  all_goals go_ret
  all_goals refine ⟨ret_bool ?_, rfl⟩
  all_goals first | (simp [inB, *]; done) | (simp [inB, *]; omega)

set_option maxHeartbeats 400000 in
theorem l01In_any (n lo hi : Int) (w : World) :
    Calls Tryz.prog 61 #[.int .i64 n, .int .i64 lo, .int .i64 hi] w fun e w' => e = .returned (.bool (inB n lo hi)) ∧ w = w' := by
  go_enter Tryz.func61, Tryz.ntmps61
  go_wp2
  all_goals go_ret
  all_goals refine ⟨ret_bool ?_, rfl⟩
  all_goals first | (simp [inB, *]; done) | (simp [inB, *]; omega)





set_option maxHeartbeats 1000000 in
theorem allWithin_any (v : Value) (zs : List Int) (lo hi : Int) (w : World) (h : RI w v zs) :
    Calls Tryz.prog 188 #[v, .int .i64 lo, .int .i64 hi] w fun e w' => e = .returned (.bool (zs.all (inB · lo hi))) ∧ w = w' := by
  obtain ⟨A, c, rfl, hc, hm, hcell⟩ := h.form
  unfold maxLen at hm
  clear h
  go_enter Tryz.func188, Tryz.ntmps188
  go_wp2
  go_loop [8, 11] (fun _ i => ∃ k : Nat, k ≤ zs.length ∧ i = .int .i64 k ∧ (zs.take k).all (inB · lo hi) = true) (fun _ i => zs.length - (intOf i).toNat)
  case atStart => exact ⟨0, Nat.zero_le _, rfl, by simp⟩
  case round =>
    obtain ⟨k, hk, rfl, hall⟩ := hrel
    by_cases hlt : k < zs.length
    · obtain ⟨b, off, rfl, hb, hcl⟩ := hcell (by omega)
      have hck := hcl k hlt
      clear hcl hcell
      have hts : (zs.take (k + 1)).all (inB · lo hi) = (inB (zs.getD k 0) lo hi) := by
        rw [List.take_succ_eq_append_getElem hlt, List.all_append, hall]
        simp [List.getD, List.getElem?_eq_getElem hlt]
      have hex : inB (zs.getD k 0) lo hi = false → zs.all (inB · lo hi) = false := by
        intro h0
        rw [List.all_eq_false]
        exact ⟨zs[k], List.getElem_mem hlt, by simpa [List.getD, List.getElem?_eq_getElem hlt] using h0⟩
      generalize hx : zs.getD k 0 = x at *
      have HTS := Lib.hid hts
      have HEX := Lib.hid hex
      clear hts hex hall hx
      cases hq : inB x lo hi
      · have HQ := Lib.hid hq
        clear hq
        go_wp2_with (go_at_call 70; refine (within_any _ _ _ _).mono ?_; rintro e w' ⟨rfl, rfl⟩; rw [HQ.out])
        go_ret
        exact ⟨ret_bool (HEX.out HQ.out).symm, rfl⟩
      · have HQ := Lib.hid hq
        clear hq
        go_wp2_with (go_at_call 70; refine (within_any _ _ _ _).mono ?_; rintro e w' ⟨rfl, rfl⟩; rw [HQ.out])
        go_round
        case rel => exact ⟨k + 1, by omega, by go_num, by rw [HTS.out]; exact HQ.out⟩
        case measure => simp [intOf]; omega
    · have hkk : zs.length ≤ k := by omega
      rw [List.take_of_length_le hkk] at hall
      have HA := Lib.hid hall
      clear hall hcell
      go_wp2
      go_ret
      exact ⟨ret_bool HA.out.symm, rfl⟩

end Go.Proofs.YtoknmjpnelbplaaGreat
