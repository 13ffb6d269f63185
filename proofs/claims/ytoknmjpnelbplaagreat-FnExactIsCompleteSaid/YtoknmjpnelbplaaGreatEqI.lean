/-
  Lists of ints: compared, marked, and found marked.
-/
import Derived.Test.YtoknmjpnelbplaaGreatOwn
import Derived.Deep.QuietTactic
import Derived.BigQuiet
set_option linter.unusedSimpArgs false
set_option linter.unusedVariables false
namespace Go.Proofs.YtoknmjpnelbplaaGreat
open Go.RowKit

theorem take_eq_succ {α : Type} [DecidableEq α] {l r : List α} {k : Nat} (h : l.take k = r.take k) (hl : k < l.length) (hr : k < r.length) (he : l[k] = r[k]) : l.take (k + 1) = r.take (k + 1) := by
  rw [List.take_succ_eq_append_getElem hl, List.take_succ_eq_append_getElem hr, h, he]

set_option maxHeartbeats 2000000 in
theorem eqIntS_any (v u : Value) (zs ys : List Int) (w : World) (hv : RI w v zs) (hu : RI w u ys) :
    Calls Tryz.prog 51 #[v, u] w fun e w' => e = .returned (.bool (decide (zs = ys))) ∧ Below w.heap.size w w' := by
  obtain ⟨A, c, rfl, hc, hm, hcell⟩ := hv.form
  obtain ⟨A', c', rfl, hc', hm', hcell'⟩ := hu.form
  unfold maxLen at hm hm'
  clear hv hu
  by_cases hlen : zs.length = ys.length
  · have e1 : ((zs.length : Int) != (ys.length : Int)) = false := by simp [hlen]
    have HLEN := Lib.hid hlen
    clear hlen
    go_enter Tryz.func51, Tryz.ntmps51
    go_wp2
    go_loopw [5] (fun i wr => ∃ k : Nat, k ≤ zs.length ∧ i = .int .i64 k ∧ Hid (zs.take k = ys.take k) ∧ Below w.heap.size w wr) (fun i _ => zs.length - (intOf i).toNat)
    case atStart => exact ⟨0, Nat.zero_le _, rfl, Lib.hid (by simp), Below.refl _ _⟩
    case round =>
      obtain ⟨k, hk, rfl, HT, hbl⟩ := hrel
      by_cases hlt : k < zs.length
      · obtain ⟨b, off, rfl, hb, hcl⟩ := hcell (by omega)
        have hlt' : k < ys.length := by rw [← HLEN.out]; exact hlt
        obtain ⟨b', off', rfl, hb', hcl'⟩ := hcell' (by omega)
        have hck := (hbl.cell (p := ⟨b, off + k, none⟩) hb).trans (hcl k hlt)
        have hck' := (hbl.cell (p := ⟨b', off' + k, none⟩) hb').trans (hcl' k hlt')
        have hi1 : (0 : Int) ≤ (k : Int) := by omega
        have hi2 : (k : Int) < (zs.length : Int) := by omega
        have hi3 : (k : Int) < (ys.length : Int) := by omega
        clear hcl hcell hcl' hcell'
        have HX := Lib.hid (show zs.getD k 0 = zs[k] by simp [List.getD, List.getElem?_eq_getElem hlt])
        have HY := Lib.hid (show ys.getD k 0 = ys[k] by simp [List.getD, List.getElem?_eq_getElem hlt'])
        generalize zs.getD k 0 = x at *
        generalize ys.getD k 0 = y at *
        by_cases hxy : x = y
        · have e2 : (x != y) = false := by simp [hxy]
          have HE := Lib.hid hxy
          clear hxy
          go_wp2
          go_quiet (fail)
          go_wp2
          go_roundw
          case rel => exact ⟨k + 1, by omega, by go_num, Lib.hid (take_eq_succ HT.out hlt hlt' (by rw [← HX.out, ← HY.out, HE.out])), by (repeat (first | exact Below.refl _ _ | assumption | refine Below.drew ?_ | refine below_drewN ?_ _ | refine Below.alloc ?_ (by first | omega | (simp; done) | (simp; omega)) _ | refine Below.setCell ?_ (by first | omega | (simp; done) | (simp; omega)) _ | refine Below.step (by assumption) ?_ (by first | omega | (simp; done) | (simp; omega)) | refine Below.mark (by assumption) (by assumption) ?_ (by first | omega | (simp; done) | (simp; omega)) (by first | omega | (simp; done) | (simp; omega))))⟩
          case measure => simp [intOf]; omega
        · have e2 : (x != y) = true := by simp [hxy]
          have HE := Lib.hid hxy
          clear hxy
          go_wp2
          go_quiet (fail)
          go_wp2
          go_ret
          refine ⟨ret_bool ?_, by (repeat (first | exact Below.refl _ _ | assumption | refine Below.drew ?_ | refine below_drewN ?_ _ | refine Below.alloc ?_ (by first | omega | (simp; done) | (simp; omega)) _ | refine Below.setCell ?_ (by first | omega | (simp; done) | (simp; omega)) _ | refine Below.step (by assumption) ?_ (by first | omega | (simp; done) | (simp; omega)) | refine Below.mark (by assumption) (by assumption) ?_ (by first | omega | (simp; done) | (simp; omega)) (by first | omega | (simp; done) | (simp; omega))))⟩
          symm
          rw [decide_eq_false_iff_not]
          intro heq
          exact HE.out (by rw [HX.out, HY.out]; simp [heq])
      · have hkk : zs.length ≤ k := by omega
        have hke : zs = ys := by
          have h := HT.out
          rw [List.take_of_length_le hkk, List.take_of_length_le (by rw [← HLEN.out]; exact hkk)] at h
          exact h
        have HE := Lib.hid hke
        clear hke hcell hcell'
        go_wp2
        go_ret
        exact ⟨ret_bool (by symm; simpa using HE.out), hbl⟩
  · have e1 : ((zs.length : Int) != (ys.length : Int)) = true := by simp; omega
    have HE : Hid (¬ zs = ys) := Lib.hid (fun h => hlen (by rw [h]))
    have HLEN := Lib.hid hlen
    clear hlen
    go_enter Tryz.func51, Tryz.ntmps51
    go_wp2
    go_ret
    exact ⟨ret_bool (by symm; simpa using HE.out), Below.refl _ _⟩

end Go.Proofs.YtoknmjpnelbplaaGreat
