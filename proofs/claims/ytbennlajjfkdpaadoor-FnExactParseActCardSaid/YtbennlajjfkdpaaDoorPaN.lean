/-
  The reference's number.
-/
import Derived.Test.YtbennlajjfkdpaaDoorPaI
import Derived.Test.YtbennlajjfkdpaaDoorPuS
import Derived.Test.YtbennlajjfkdpaaDoorFldS
import Derived.Test.YtbennlajjfkdpaaDoorFactS
set_option linter.unusedSimpArgs false
set_option linter.unusedVariables false
namespace Go.Proofs.YtbennlajjfkdpaaDoor
open Go.RowKit

theorem uint_bd (x : ByteArray) : (uintN x).getD 0 ≤ 1000000000 := by
  cases h : uintN x with
  | none => simp
  | some n => exact (uint_iff.1 h).1
theorem ref_bd (x : ByteArray) : -1000000000 ≤ refN x ∧ refN x ≤ 1000000000 := by
  unfold refN
  have h1 := uint_bd x
  have h2 := uint_bd (x.extract 1 x.size)
  split <;> omega

set_option maxHeartbeats 4000000 in
set_option maxRecDepth 100000 in
theorem sNum40_any (x : ByteArray) (w : World) (hx : x.size ≤ 1048576) :
    Calls Tryd.prog 15 #[.string x] w fun e w' => e = .returned (.int .i64 (refN x)) ∧ Below w.heap.size w w' := by
  by_cases h1 : 1 < x.size ∧ x.data.toList.getD 0 0 = 45
  · have HR : Hid (refN x = -(((uintN (x.extract 1 x.size)).getD 0 : Nat) : Int)) := Lib.hid (by unfold refN; rw [if_pos h1])
    have hb := uint_bd (x.extract 1 x.size)
    have HC := Lib.hid (sPu_any (x.extract 1 x.size) w)
    unfold RetU at HC
    obtain ⟨b, hb1, hix⟩ := byteF_at x 0 (by omega)
    rw [show (((0 : Nat) : Int)) = 0 from rfl] at hix
    have h45 : (b.toNat : Int) = 45 := by
      have := getD_some hb1
      rw [h1.2] at this
      rw [← this]
      rfl
    have hsl : ∀ w, (Instr.slice 9 (.string x) (some (.int .i64 1)) none none).run Tryd.prog w = .ok (.string (x.extract 1 x.size)) w := fun w => by
      have h9 := run_slice_string_l (P := Tryd.prog) w (t := 9) (s := x) Tryd.underlying9 .i64 1 (by omega) (by omega)
      simpa using h9
    have c1 : (1 : Int) < ((x.size : Nat) : Int) := by omega
    generalize x.extract 1 x.size = y at *
    generalize (uintN y).isSome = bb at *
    generalize (uintN y).getD 0 = m at *
    have hw : IntKind.i64.wrap (-(m : Int)) = -(m : Int) := IntWalk.i64_in _ (by omega)
    rw [h45] at hix
    clear hb1 h45
    go_enter Tryd.func15, Tryd.ntmps15
    go_wp2_with fail
    refine HC.out.mono ?_
    rintro e w1 ⟨rfl, hb1⟩
    go_wp2
    go_ret
    exact ⟨by rw [HR.out]; rfl, hb1⟩
  · have HR : Hid (refN x = (((uintN x).getD 0 : Nat) : Int)) := Lib.hid (by unfold refN; rw [if_neg h1])
    have HC := Lib.hid (sPu_any x w)
    unfold RetU at HC
    generalize (uintN x).isSome = bb at *
    generalize (uintN x).getD 0 = m at *
    by_cases h2 : 1 < x.size
    · obtain ⟨b, hb1, hix⟩ := byteF_at x 0 (by omega)
      rw [show (((0 : Nat) : Int)) = 0 from rfl] at hix
      have h45 : ((b.toNat : Int) == 45) = false := by
        rw [beq_eq_false_iff_ne]
        intro hc
        refine h1 ⟨h2, ?_⟩
        rw [getD_some hb1]
        exact UInt8.toNat_inj.1 (by show b.toNat = 45; omega)
      have c1 : (1 : Int) < ((x.size : Nat) : Int) := by omega
      generalize b.toNat = B at *
      clear hb1 h1 h2
      go_enter Tryd.func15, Tryd.ntmps15
      go_wp2_with fail
      refine HC.out.mono ?_
      rintro e w1 ⟨rfl, hb1⟩
      go_wp2
      go_ret
      exact ⟨by rw [HR.out]; rfl, hb1⟩
    · have c1 : ¬ (1 : Int) < ((x.size : Nat) : Int) := by omega
      clear h1 h2
      go_enter Tryd.func15, Tryd.ntmps15
      go_wp2_with fail
      refine HC.out.mono ?_
      rintro e w1 ⟨rfl, hb1⟩
      go_wp2
      go_ret
      exact ⟨by rw [HR.out]; rfl, hb1⟩

end Go.Proofs.YtbennlajjfkdpaaDoor
