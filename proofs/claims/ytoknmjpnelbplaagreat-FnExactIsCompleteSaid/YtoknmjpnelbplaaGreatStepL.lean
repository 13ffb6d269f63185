/-
  The law of StepOn, walked.
-/
import Derived.Test.YtoknmjpnelbplaaGreatStep
import Derived.Test.YtoknmjpnelbplaaGreatMarkW
import Derived.Test.YtoknmjpnelbplaaGreatSame
import Derived.Deep.RegionHeld3
set_option linter.unusedSimpArgs false
set_option linter.unusedVariables false
namespace Go.Proofs.YtoknmjpnelbplaaGreat
open Go.RowKit

theorem joinL_len (ns ls : List Pr) (k : Int) : (joinN ns ls k).length ≤ ns.length ∧ (joinL ns ls k).length ≤ ls.length := by
  constructor
  · unfold joinN joinCn
    split
    · exact nwo_len ns k _
    · exact Nat.le_refl _
  · unfold joinL
    split
    · rename_i h
      have hs : straightB ns ls k = true := by unfold joinB at h; rw [Bool.and_eq_true] at h; exact h.1
      obtain ⟨m, p, q, t, u, rfl, hk, hj⟩ := joinAt hs
      rw [hj.cl]
      exact jwo_len _ _ _ _ _ _
    · exact Nat.le_refl _

theorem step_len (ns ls : List Pr) (k a b : Int) : (stepN ns ls k a b).length ≤ ns.length ∧ (stepL ns ls k a b).length ≤ ls.length + 1 := by
  have h := joinL_len ns ls a
  unfold stepN stepL
  constructor
  · split
    · exact h.1
    · exact Nat.le_refl _
  · split
    · unfold addL; split <;> simp
    · split
      · unfold dropL
        split
        · simp; omega
        · omega
      · split
        · omega
        · omega

theorem iStep_at (vn vl : Value) (ns ls N L : List Pr) (k a b : Int) (bb : Bool) (w : World) (hn : RP w vn ns) (hl : RP w vl ls) (h1 : ns.length ≤ 1048576) (h2 : ls.length ≤ 1048576) (hN : Hid (stepN ns ls k a b = N)) (hL : Hid (stepL ns ls k a b = L)) (hB : Hid (stepB ns ls k a b = bb)) :
    Calls Tryz.prog 127 #[.agg #[vn, vl], .int .i64 k, .int .i64 a, .int .i64 b] w (RetWB N L bb w) := by
  rw [← hN.out, ← hL.out, ← hB.out]; exact iStep_any vn vl ns ls k a b w hn hl h1 h2

theorem sStep_at (vn vl : Value) (ns ls N L : List Pr) (k a b : Int) (bb : Bool) (w : World) (hn : RP w vn ns) (hl : RP w vl ls) (h1 : ns.length ≤ 1048576) (h2 : ls.length ≤ 1048576) (hN : Hid (stepN ns ls k a b = N)) (hL : Hid (stepL ns ls k a b = L)) (hB : Hid (stepB ns ls k a b = bb)) :
    Calls Tryz.prog 117 #[.agg #[vn, vl], .int .i64 k, .int .i64 a, .int .i64 b] w (RetWB N L bb w) := by
  rw [← hN.out, ← hL.out, ← hB.out]; exact sStep_any vn vl ns ls k a b w hn hl h1 h2



end Go.Proofs.YtoknmjpnelbplaaGreat
