/-
  The law of ParseAct, walked.
-/
import Derived.Test.YtbennlajjfkdpaaDoorPaS
set_option linter.unusedSimpArgs false
set_option linter.unusedVariables false
namespace Go.Proofs.YtbennlajjfkdpaaDoor
open Go.RowKit

theorem eqAc_any (a b c a' b' c' : Int) (w : World) :
    Calls Tryd.prog 7 #[.agg #[.int .i64 a, .int .i64 b, .int .i64 c], .agg #[.int .i64 a', .int .i64 b', .int .i64 c']] w
      fun e w' => e = .returned (.bool (a == a' && b == b' && c == c')) ∧ Below w.heap.size w w' := by
  go_enter Tryd.func7, Tryd.ntmps7
  go_wp2
  all_goals go_ret
  all_goals refine ⟨ret_bool ?_, by exact bel_⟩
  all_goals simp_all
theorem eqAc_same (a b c : Int) (w : World) :
    Calls Tryd.prog 7 #[.agg #[.int .i64 a, .int .i64 b, .int .i64 c], .agg #[.int .i64 a, .int .i64 b, .int .i64 c]] w
      fun e w' => e = .returned (.bool true) ∧ Below w.heap.size w w' := by
  have h := eqAc_any a b c a b c w
  simpa using h
theorem actV_form (o : Option (Int × Int × Int)) : ∃ k a b : Int, actV o = .agg #[.int .i64 k, .int .i64 a, .int .i64 b] := by
  rcases o with _ | ⟨k, a, b⟩
  · exact ⟨0, 0, 0, rfl⟩
  · exact ⟨k, a, b, rfl⟩

set_option maxHeartbeats 4000000 in
set_option maxRecDepth 100000 in
theorem paLaw_any (s : ByteArray) (w : World) (ht : TabW w) :
    Calls Tryd.prog 3 #[.string s] w fun e w' => e = .returned (.bool true) ∧ Below w.heap.size w w' := by
  by_cases hs : 1048576 < s.size
  · have e1 : (1048576 : Int) < ((s.size : Nat) : Int) := by omega
    go_enter Tryd.func3, Tryd.ntmps3
    go_wp2
    go_ret
    exact ⟨rfl, Below.refl _ _⟩
  · have e1 : ¬ (1048576 : Int) < ((s.size : Nat) : Int) := by omega
    obtain ⟨k, a, b, hv⟩ := actV_form (paO s)
    obtain ⟨t, ht2⟩ : ∃ t, (paO s).isSome = t := ⟨_, rfl⟩
    have HS : Hid (Calls Tryd.prog 5 #[.string s] w fun e w' => e = .returned (.tuple #[.agg #[.int .i64 k, .int .i64 a, .int .i64 b], .bool t]) ∧ Below w.heap.size w w') := Lib.hid (by
      have h := sPa_any s w (by omega)
      unfold RetAc at h
      rwa [hv, ht2] at h)
    have HI : Hid (∀ u, TabW u → Calls Tryd.prog 6 #[.string s] u fun e w' => e = .returned (.tuple #[.agg #[.int .i64 k, .int .i64 a, .int .i64 b], .bool t]) ∧ Below u.heap.size u w') := Lib.hid (fun u hu => by
      have h := iPa_any s u hu (by omega)
      unfold RetAc at h
      rwa [hv, ht2] at h)
    have e9 : (t != t) = false := by simp
    clear hv ht2 hs
    go_enter Tryd.func3, Tryd.ntmps3
    go_wp2_with fail
    refine HS.out.mono ?_
    rintro e w1 ⟨rfl, hb1⟩
    have hbx : Below w.heap.size w (w1.alloc (.cells #[.int .i64 k, .int .i64 a, .int .i64 b] 23)) := hb1.alloc hb1.size _
    have hX : Blk (w1.alloc (.cells #[.int .i64 k, .int .i64 a, .int .i64 b] 23)) w1.heap.size 23 #[.int .i64 k, .int .i64 a, .int .i64 b] := Blk.newAt rfl
    have ht1 := ht.below hbx
    go_wp2_with fail
    refine (HI.out _ ht1).mono ?_
    rintro e w2 ⟨rfl, hb2⟩
    have hX2 := hX.below hb2 hX.lt
    have hbw2 := hbx.trans (hb2.mono hbx.size)
    have hlt2 := hX2.lt
    clear hb2 hX hbx ht1 HS HI hb1
    obtain ⟨x_0, x_1, x_2⟩ := hX2.c3
    have HB3 : Hid (Below w.heap.size w (w2.alloc (.cells #[.int .i64 k, .int .i64 a, .int .i64 b] 23))) := Lib.hid (hbw2.alloc hbw2.size _)
    go_wp2_with fail
    refine (eqAc_same k a b _).mono ?_
    rintro e w3 ⟨rfl, hb3⟩
    have HB4 := Lib.hid (HB3.out.trans (hb3.mono HB3.out.size))
    clear hb3 hX2 hbw2
    go_wp2
    go_ret
    exact ⟨rfl, HB4.out⟩

end Go.Proofs.YtbennlajjfkdpaaDoor
