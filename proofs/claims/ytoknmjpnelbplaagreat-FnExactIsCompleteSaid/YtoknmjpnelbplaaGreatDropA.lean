/-
  A lead dropped: both sides, told at once.
-/
import Derived.Test.YtoknmjpnelbplaaGreatDropZ
set_option linter.unusedSimpArgs false
set_option linter.unusedVariables false
namespace Go.Proofs.YtoknmjpnelbplaaGreat
open Go.RowKit

theorem hasL_win {ns ls : List Pr} {k : Int} (h : hasL ns ls k = true) : winB ns ls = true ∧ ∃ m : Nat, k = (m : Int) ∧ m < ls.length := by
  unfold hasL at h
  rw [Bool.and_eq_true] at h
  have := inB_true.1 h.2
  exact ⟨h.1, k.toNat, by omega, by omega⟩

theorem iDrop_any (vn vl : Value) (ns ls : List Pr) (k : Int) (w : World) (hn : RP w vn ns) (hl : RP w vl ls) (h1 : ns.length ≤ 1048576) (h2 : ls.length ≤ 1048576) :
    Calls Tryz.prog 183 #[.agg #[vn, vl], .int .i64 k] w (RetWB ns (dropL ns ls k) (hasL ns ls k) w) := by
  unfold dropL
  cases hw : hasL ns ls k
  · exact iDrop_no vn vl ns ls k w hn hl h1 h2 hw
  · obtain ⟨_, m, rfl, hm⟩ := hasL_win hw
    have := iDrop_yes vn vl ns ls m w hn hl h1 h2 hm hw
    simpa using this

theorem sDrop_any (vn vl : Value) (ns ls : List Pr) (k : Int) (w : World) (hn : RP w vn ns) (hl : RP w vl ls) (h1 : ns.length ≤ 1048576) (h2 : ls.length ≤ 1048576) :
    Calls Tryz.prog 169 #[.agg #[vn, vl], .int .i64 k] w (RetWB ns (dropL ns ls k) (hasL ns ls k) w) := by
  unfold dropL
  cases hw : hasL ns ls k
  · exact sDrop_no vn vl ns ls k w hn hl h1 h2 hw
  · obtain ⟨hwin, m, rfl, hm⟩ := hasL_win hw
    obtain ⟨Al, cl, rfl, hcl, _, hcell⟩ := hl.form
    obtain ⟨b, off, rfl, _⟩ := hcell (by omega)
    have e : ls.take (m : Int).toNat ++ ls.drop ((m : Int).toNat + 1) = ls.take m ++ ls.drop (m + 1) := by simp
    rw [if_pos rfl, e]
    have hT := RP.take hl m (by omega)
    have hD := RP.drop hl (m + 1) (by omega)
    have hTl : Hid ((ls.take m).length = m) := Lib.hid (by simp; omega)
    by_cases hck : cl = m + 1
    · subst hck
      rw [if_pos rfl] at hD
      have e0 : ls.length - (m + 1) = 0 := by omega
      rw [e0, Nat.sub_self] at hD
      exact sDrop_yes_pos vn ns ls _ _ b off m w hn hl h1 h2 hm hwin hcl hT hTl hD (Lib.hid (by simp; omega))
    · rw [if_neg hck] at hD
      exact sDrop_yes_neg vn ns ls _ _ b off cl m w hn hl h1 h2 hm hwin hcl hck hT hTl hD (Lib.hid (by simp))

end Go.Proofs.YtoknmjpnelbplaaGreat
