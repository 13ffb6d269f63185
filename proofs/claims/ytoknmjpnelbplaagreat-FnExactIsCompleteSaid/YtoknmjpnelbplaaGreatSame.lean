/-
  SameWindow of the reference, and the law.
-/
import Derived.Test.YtoknmjpnelbplaaGreatWin
set_option linter.unusedSimpArgs false
set_option linter.unusedVariables false
namespace Go.Proofs.YtoknmjpnelbplaaGreat
open Go.RowKit

attribute [local go_sem ↓] run_eqNode run_eqLead run_neNode run_neLead

set_option maxHeartbeats 4000000 in
set_option maxRecDepth 100000 in
theorem sSameWindow_any (vn vl un ul : Value) (ns ls ns' ls' : List (Int × Int)) (w : World) (hn : RP w vn ns) (hl : RP w vl ls) (hn' : RP w un ns') (hl' : RP w ul ls') :
    Calls Tryz.prog 116 #[.agg #[vn, vl], .agg #[un, ul]] w fun e w' => e = .returned (.bool (sameWB ns ls ns' ls')) ∧ Below w.heap.size w w' := by
  obtain ⟨A1, c1, rfl, hc1, hm1, hcell1⟩ := hn.form
  obtain ⟨A2, c2, rfl, hc2, hm2, hcell2⟩ := hl.form
  obtain ⟨A3, c3, rfl, hc3, hm3, hcell3⟩ := hn'.form
  obtain ⟨A4, c4, rfl, hc4, hm4, hcell4⟩ := hl'.form
  unfold maxLen at hm1 hm2 hm3 hm4
  clear hn hl hn' hl'
  by_cases h1 : ns.length = ns'.length
  · have e1 : ((ns.length : Int) != (ns'.length : Int)) = false := by simp [h1]
    by_cases h2 : ls.length = ls'.length
    · have e2 : ((ls.length : Int) != (ls'.length : Int)) = false := by simp [h2]
      have H1 := Lib.hid h1
      have H2 := Lib.hid h2
      clear h1 h2
      go_enter Tryz.func116, Tryz.ntmps116
      go_wp2
      generalize hbw0 : (w.alloc _).alloc _ = w0
      have hb0 : Below w.heap.size w w0 := by rw [← hbw0]; (repeat' (first | (with_reducible exact Below.refl _ _) | (with_reducible assumption) | (with_reducible refine Below.drew ?_) | (with_reducible refine below_drewN ?_ _) | (with_reducible refine Below.alloc ?_ ?_ _) | (with_reducible refine Below.setCell ?_ ?_ _) | (with_reducible refine Below.step (by assumption) ?_ ?_))); all_goals (first | omega | (simp; done) | (simp; omega))
      have hv0 : w0.cell? ⟨w.heap.size, 0, none⟩ = some (.slice A1 ns.length c1) := by rw [← hbw0]; simp [go_sem]
      have hv1 : w0.cell? ⟨w.heap.size, 1, none⟩ = some (.slice A2 ls.length c2) := by rw [← hbw0]; simp [go_sem]
      have hu0 : w0.cell? ⟨w.heap.size + 1, 0, none⟩ = some (.slice A3 ns'.length c3) := by rw [← hbw0]; simp [go_sem]
      have hu1 : w0.cell? ⟨w.heap.size + 1, 1, none⟩ = some (.slice A4 ls'.length c4) := by rw [← hbw0]; simp [go_sem]
      have hs0 : w0.heap.size = w.heap.size + 1 + 1 := by rw [← hbw0]; simp
      clear hbw0
      go_loopw [5] (fun i wr => ∃ k : Nat, ∃ n : Nat, k ≤ ns.length ∧ i = .int .i64 k ∧ Hid (ns.take k = ns'.take k) ∧ wr = w0.drewN n) (fun i _ => ns.length - (intOf i).toNat)
      case atStart => exact ⟨0, 0, Nat.zero_le _, rfl, Lib.hid (by simp), rfl⟩
      case round =>
        obtain ⟨k, n, hk, rfl, HT, rfl⟩ := hrel
        by_cases hlt : k < ns.length
        · obtain ⟨b, off, rfl, hb, hcl⟩ := hcell1 (by omega)
          have hlt' : k < ns'.length := by rw [← H1.out]; exact hlt
          obtain ⟨b', off', rfl, hb', hcl'⟩ := hcell3 (by omega)
          obtain ⟨k0, k1⟩ := hcl k hlt
          obtain ⟨j0, j1⟩ := hcl' k hlt'
          have q0 := (hb0.cell (p := ⟨b, off + k * 2, none⟩) hb).trans k0
          have q1 := (hb0.cell (p := ⟨b, off + k * 2 + 1, none⟩) hb).trans k1
          have p0 := (hb0.cell (p := ⟨b', off' + k * 2, none⟩) hb').trans j0
          have p1 := (hb0.cell (p := ⟨b', off' + k * 2 + 1, none⟩) hb').trans j1
          have hi1 : (0 : Int) ≤ (k : Int) := by omega
          have hi2 : (k : Int) < (ns.length : Int) := by omega
          have hi3 : (k : Int) < (ns'.length : Int) := by omega
          clear hcl hcell1 hcl' hcell3 hcell2 hcell4 k0 k1 j0 j1
          cases hxy : prB ns[k].1 ns[k].2 ns'[k].1 ns'[k].2
          · have HF : Hid (sameWB ns ls ns' ls' = false) := Lib.hid (by
              unfold sameWB
              rw [Bool.and_eq_false_iff]; left
              rw [decide_eq_false_iff_not]
              intro h
              have : ns[k] = ns'[k] := by simp [h]
              rw [this, prB_self] at hxy; cases hxy)
            go_wp2
            go_quiet (fail)
            go_wp2
            go_ret
            exact ⟨ret_bool HF.out.symm, by (repeat' (first | (with_reducible exact Below.refl _ _) | (with_reducible assumption) | (with_reducible refine Below.drew ?_) | (with_reducible refine below_drewN ?_ _) | (with_reducible refine Below.alloc ?_ ?_ _) | (with_reducible refine Below.setCell ?_ ?_ _) | (with_reducible refine Below.step (by assumption) ?_ ?_))); all_goals (first | omega | (simp; done) | (simp; omega))⟩
          · have HE : Hid (ns[k] = ns'[k]) := Lib.hid (prB_iff.1 hxy)
            go_wp2
            go_quiet (fail)
            go_wp2
            go_roundw
            case rel => exact ⟨k + 1, _, by omega, by go_num, Lib.hid (take_eq_succ HT.out hlt hlt' HE.out), rfl⟩
            case measure => simp [intOf]; omega
        · have hkk : ns.length ≤ k := by omega
          have hke : ns = ns' := by
            have h := HT.out
            rw [List.take_of_length_le hkk, List.take_of_length_le (by rw [← H1.out]; exact hkk)] at h
            exact h
          have HE := Lib.hid hke
          clear hke hcell1 hcell3
          go_wp2
          go_loopw [6] (fun i wr => ∃ k : Nat, ∃ n : Nat, k ≤ ls.length ∧ i = .int .i64 k ∧ Hid (ls.take k = ls'.take k) ∧ wr = w0.drewN n) (fun i _ => ls.length - (intOf i).toNat)
          case atStart => exact ⟨0, _, Nat.zero_le _, rfl, Lib.hid (by simp), rfl⟩
          case round =>
            obtain ⟨k, n, hk, rfl, HT, rfl⟩ := hrel
            by_cases hlt : k < ls.length
            · obtain ⟨b, off, rfl, hb, hcl⟩ := hcell2 (by omega)
              have hlt' : k < ls'.length := by rw [← H2.out]; exact hlt
              obtain ⟨b', off', rfl, hb', hcl'⟩ := hcell4 (by omega)
              obtain ⟨k0, k1⟩ := hcl k hlt
              obtain ⟨j0, j1⟩ := hcl' k hlt'
              have q0 := (hb0.cell (p := ⟨b, off + k * 2, none⟩) hb).trans k0
              have q1 := (hb0.cell (p := ⟨b, off + k * 2 + 1, none⟩) hb).trans k1
              have p0 := (hb0.cell (p := ⟨b', off' + k * 2, none⟩) hb').trans j0
              have p1 := (hb0.cell (p := ⟨b', off' + k * 2 + 1, none⟩) hb').trans j1
              have hi1 : (0 : Int) ≤ (k : Int) := by omega
              have hi2 : (k : Int) < (ls.length : Int) := by omega
              have hi3 : (k : Int) < (ls'.length : Int) := by omega
              clear hcl hcl' hcell2 hcell4 k0 k1 j0 j1
              cases hxy : prB ls[k].1 ls[k].2 ls'[k].1 ls'[k].2
              · have HF : Hid (sameWB ns ls ns' ls' = false) := Lib.hid (by
                  unfold sameWB
                  rw [Bool.and_eq_false_iff]; right
                  rw [decide_eq_false_iff_not]
                  intro h
                  have : ls[k] = ls'[k] := by simp [h]
                  rw [this, prB_self] at hxy; cases hxy)
                go_wp2
                go_quiet (fail)
                go_wp2
                go_ret
                exact ⟨ret_bool HF.out.symm, by (repeat' (first | (with_reducible exact Below.refl _ _) | (with_reducible assumption) | (with_reducible refine Below.drew ?_) | (with_reducible refine below_drewN ?_ _) | (with_reducible refine Below.alloc ?_ ?_ _) | (with_reducible refine Below.setCell ?_ ?_ _) | (with_reducible refine Below.step (by assumption) ?_ ?_))); all_goals (first | omega | (simp; done) | (simp; omega))⟩
              · have HE : Hid (ls[k] = ls'[k]) := Lib.hid (prB_iff.1 hxy)
                go_wp2
                go_quiet (fail)
                go_wp2
                go_roundw
                case rel => exact ⟨k + 1, _, by omega, by go_num, Lib.hid (take_eq_succ HT.out hlt hlt' HE.out), rfl⟩
                case measure => simp [intOf]; omega
            · have hkk : ls.length ≤ k := by omega
              have hke : ls = ls' := by
                have h := HT.out
                rw [List.take_of_length_le hkk, List.take_of_length_le (by rw [← H2.out]; exact hkk)] at h
                exact h
              have HF : Hid (sameWB ns ls ns' ls' = true) := Lib.hid (by simp [sameWB, HE.out, hke])
              clear hke hcell2 hcell4
              go_wp2
              go_ret
              exact ⟨ret_bool HF.out.symm, by (repeat' (first | (with_reducible exact Below.refl _ _) | (with_reducible assumption) | (with_reducible refine Below.drew ?_) | (with_reducible refine below_drewN ?_ _) | (with_reducible refine Below.alloc ?_ ?_ _) | (with_reducible refine Below.setCell ?_ ?_ _) | (with_reducible refine Below.step (by assumption) ?_ ?_))); all_goals (first | omega | (simp; done) | (simp; omega))⟩
    · have e2 : ((ls.length : Int) != (ls'.length : Int)) = true := by simp; omega
      have HF : Hid (sameWB ns ls ns' ls' = false) := Lib.hid (by
        unfold sameWB
        rw [Bool.and_eq_false_iff]; right
        rw [decide_eq_false_iff_not]
        intro h; exact h2 (by rw [h]))
      have H1 := Lib.hid h1
      clear h1 hcell1 hcell2 hcell3 hcell4
      go_enter Tryz.func116, Tryz.ntmps116
      go_wp2
      go_ret
      exact ⟨ret_bool HF.out.symm, by (repeat' (first | (with_reducible exact Below.refl _ _) | (with_reducible assumption) | (with_reducible refine Below.drew ?_) | (with_reducible refine below_drewN ?_ _) | (with_reducible refine Below.alloc ?_ ?_ _) | (with_reducible refine Below.setCell ?_ ?_ _) | (with_reducible refine Below.step (by assumption) ?_ ?_))); all_goals (first | omega | (simp; done) | (simp; omega))⟩
  · have e1 : ((ns.length : Int) != (ns'.length : Int)) = true := by simp; omega
    have HF : Hid (sameWB ns ls ns' ls' = false) := Lib.hid (by
      unfold sameWB
      rw [Bool.and_eq_false_iff]; left
      rw [decide_eq_false_iff_not]
      intro h; exact h1 (by rw [h]))
    clear hcell1 hcell2 hcell3 hcell4
    go_enter Tryz.func116, Tryz.ntmps116
    go_wp2
    go_ret
    exact ⟨ret_bool HF.out.symm, by (repeat' (first | (with_reducible exact Below.refl _ _) | (with_reducible assumption) | (with_reducible refine Below.drew ?_) | (with_reducible refine below_drewN ?_ _) | (with_reducible refine Below.alloc ?_ ?_ _) | (with_reducible refine Below.setCell ?_ ?_ _) | (with_reducible refine Below.step (by assumption) ?_ ?_))); all_goals (first | omega | (simp; done) | (simp; omega))⟩

theorem szW_le {a b : Nat} (h : ¬ szW 1048576 a b < 0) : a ≤ 1048576 ∧ b ≤ 1048576 ∧ 0 ≤ szW 1048576 a b ∧ szW 1048576 a b ≤ 1048576 := by
  unfold szW at *
  split at h
  · omega
  · split at h
    · omega
    · rename_i h1 h2; rw [if_neg h1, if_neg h2]; omega

theorem szW_le2 {n : Int} {a b : Nat} (hn : n ≤ 1048576) (h : ¬ szW n a b < 0) : a ≤ 1048576 ∧ b ≤ 1048576 ∧ 0 ≤ szW n a b ∧ szW n a b ≤ n := by
  unfold szW at *
  split at h
  · omega
  · split at h
    · omega
    · rename_i h1 h2; rw [if_neg h1, if_neg h2]; omega

theorem szWindow_at (vn vl : Value) (ns ls : List (Int × Int)) (n x : Int) (w : World) (hn : RP w vn ns) (hl : RP w vl ls) (h0 : 0 ≤ n) (h1 : n ≤ 1000000000) (hx : Hid (szW n ns.length ls.length = x)) :
    Calls Tryz.prog 26 #[.agg #[vn, vl], .int .i64 n] w fun e w' => e = .returned (.int .i64 x) ∧ Below w.heap.size w w' :=
  (szWindow_any vn vl ns ls n w hn hl h0 h1).mono fun e w' ⟨he, hw⟩ => ⟨he.trans (ret_int hx.out), hw⟩

theorem sSameWindow_at (vn vl un ul : Value) (ns ls ns' ls' : List (Int × Int)) (b : Bool) (w : World) (hn : RP w vn ns) (hl : RP w vl ls) (hn' : RP w un ns') (hl' : RP w ul ls') (hx : Hid (sameWB ns ls ns' ls' = b)) :
    Calls Tryz.prog 116 #[.agg #[vn, vl], .agg #[un, ul]] w fun e w' => e = .returned (.bool b) ∧ Below w.heap.size w w' :=
  (sSameWindow_any vn vl un ul ns ls ns' ls' w hn hl hn' hl').mono fun e w' ⟨he, hw⟩ => ⟨he.trans (ret_bool hx.out), hw⟩

theorem iSameWindow_at (vn vl un ul : Value) (ns ls ns' ls' : List (Int × Int)) (b : Bool) (w : World) (hn : RP w vn ns) (hl : RP w vl ls) (hn' : RP w un ns') (hl' : RP w ul ls') (hx : Hid (sameWB ns ls ns' ls' = b)) :
    Calls Tryz.prog 126 #[.agg #[vn, vl], .agg #[un, ul]] w fun e w' => e = .returned (.bool b) ∧ Below w.heap.size w w' :=
  (iSameWindow_any vn vl un ul ns ls ns' ls' w hn hl hn' hl').mono fun e w' ⟨he, hw⟩ => ⟨he.trans (ret_bool hx.out), hw⟩

end Go.Proofs.YtoknmjpnelbplaaGreat
