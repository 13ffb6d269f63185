/- part 5 -/
import Derived.Test.YtbennlajjfkdpaaGreatDoorFPk4
import Derived.StillTailTactics
set_option linter.unusedSimpArgs false
set_option linter.unusedVariables false
namespace Go.Proofs.YtbennlajjfkdpaaGreatDoor
open Go.RowKit
def prB (a b c d : Int) : Bool := a == c && b == d
theorem prB_iff {a b c d : Int} : prB a b c d = true ↔ (a, b) = (c, d) := by simp [prB]
theorem prB_self (a b : Int) : prB a b a b = true := by simp [prB]
theorem run_eqNode (a b c d : Int) (w : World) : (binOp .eql 47 (.agg #[.int .i64 a, .int .i64 b]) (.agg #[.int .i64 c, .int .i64 d])).run Tryz.prog w = .ok (.bool (prB a b c d)) w := by
  go_simp
  unfold prB
  by_cases h1 : a = c <;> by_cases h2 : b = d <;> simp [h1, h2]
theorem run_eqLead (a b c d : Int) (w : World) : (binOp .eql 62 (.agg #[.int .i64 a, .int .i64 b]) (.agg #[.int .i64 c, .int .i64 d])).run Tryz.prog w = .ok (.bool (prB a b c d)) w := by
  go_simp
  unfold prB
  by_cases h1 : a = c <;> by_cases h2 : b = d <;> simp [h1, h2]
theorem run_neNode (a b c d : Int) (w : World) : (binOp .neq 47 (.agg #[.int .i64 a, .int .i64 b]) (.agg #[.int .i64 c, .int .i64 d])).run Tryz.prog w = .ok (.bool (!(prB a b c d))) w := by
  go_simp
  unfold prB
  by_cases h1 : a = c <;> by_cases h2 : b = d <;> simp [h1, h2]
theorem run_neLead (a b c d : Int) (w : World) : (binOp .neq 62 (.agg #[.int .i64 a, .int .i64 b]) (.agg #[.int .i64 c, .int .i64 d])).run Tryz.prog w = .ok (.bool (!(prB a b c d))) w := by
  go_simp
  unfold prB
  by_cases h1 : a = c <;> by_cases h2 : b = d <;> simp [h1, h2]
set_option maxHeartbeats 1000000 in
theorem szNodeS_any (v : Value) (l : List (Int × Int)) (n : Int) (w : World) (h : RP w v l) (h0 : 0 ≤ n) (h1 : n ≤ 1000000000) :
    Calls Tryz.prog 19 #[v, .int .i64 n] w fun e w' => e = .returned (.int .i64 (szF n l.length)) ∧ w = w' := by
  obtain ⟨A, c, rfl, hc, hm, hcell⟩ := h.form
  unfold maxLen at hm
  clear h hcell
  by_cases hlt : n < l.length
  · have hneg : n - (l.length : Int) < 0 := by omega
    have HF : Hid (szF n l.length = -1) := Lib.hid (by unfold szF; rw [if_pos hlt])
    go_enter Tryz.func19, Tryz.ntmps19
    go_wp2
    all_goals go_ret
    all_goals exact ⟨ret_int HF.out.symm, rfl⟩
  · have hneg : ¬ n - (l.length : Int) < 0 := by omega
    have HF : Hid (szF n l.length = n - l.length) := Lib.hid (by unfold szF; rw [if_neg hlt])
    go_enter Tryz.func19, Tryz.ntmps19
    go_wp2
    all_goals go_ret
    all_goals exact ⟨ret_int HF.out.symm, rfl⟩
set_option maxHeartbeats 1000000 in
theorem szLeadS_any (v : Value) (l : List (Int × Int)) (n : Int) (w : World) (h : RP w v l) (h0 : 0 ≤ n) (h1 : n ≤ 1000000000) :
    Calls Tryz.prog 20 #[v, .int .i64 n] w fun e w' => e = .returned (.int .i64 (szF n l.length)) ∧ w = w' := by
  obtain ⟨A, c, rfl, hc, hm, hcell⟩ := h.form
  unfold maxLen at hm
  clear h hcell
  by_cases hlt : n < l.length
  · have hneg : n - (l.length : Int) < 0 := by omega
    have HF : Hid (szF n l.length = -1) := Lib.hid (by unfold szF; rw [if_pos hlt])
    go_enter Tryz.func20, Tryz.ntmps20
    go_wp2
    all_goals go_ret
    all_goals exact ⟨ret_int HF.out.symm, rfl⟩
  · have hneg : ¬ n - (l.length : Int) < 0 := by omega
    have HF : Hid (szF n l.length = n - l.length) := Lib.hid (by unfold szF; rw [if_neg hlt])
    go_enter Tryz.func20, Tryz.ntmps20
    go_wp2
    all_goals go_ret
    all_goals exact ⟨ret_int HF.out.symm, rfl⟩
set_option maxHeartbeats 400000 in
theorem toNode_any (a b : Int) (w : World) :
    Calls Tryz.prog 41 #[.agg #[.int .i64 a, .int .i64 b]] w fun e w' => e = .returned (.agg #[.int .i64 a, .int .i64 b]) ∧ Below w.heap.size w w' := by
  go_enter Tryz.func41, Tryz.ntmps41
  go_wp2
  exact bodyPost_ret (v := .agg #[.int .i64 a, .int .i64 b]) (by simp [results, Tryz.results41, go_sem]) rfl ⟨rfl, by exact bel_⟩
set_option maxHeartbeats 400000 in
theorem toLead_any (a b : Int) (w : World) :
    Calls Tryz.prog 42 #[.agg #[.int .i64 a, .int .i64 b]] w fun e w' => e = .returned (.agg #[.int .i64 a, .int .i64 b]) ∧ Below w.heap.size w w' := by
  go_enter Tryz.func42, Tryz.ntmps42
  go_wp2
  exact bodyPost_ret (v := .agg #[.int .i64 a, .int .i64 b]) (by simp [results, Tryz.results42, go_sem]) rfl ⟨rfl, by exact bel_⟩
theorem infoNode : (Tryz.prog.info? 47).map (fun i => (i.zero, i.size, i.bytes)) = some (some (.agg #[.int .i64 0, .int .i64 0]), 2, 16) := by kernel_rfl
theorem infoLead : (Tryz.prog.info? 62).map (fun i => (i.zero, i.size, i.bytes)) = some (some (.agg #[.int .i64 0, .int .i64 0]), 2, 16) := by kernel_rfl
set_option maxHeartbeats 4000000 in
set_option maxRecDepth 100000 in
theorem toNodeS_any (v : Value) (l : List (Int × Int)) (w : World) (h : RP w v l) (hle : l.length ≤ 1048576) :
    Calls Tryz.prog 22 #[v] w (RetP 47 l w) := by
  obtain ⟨A, c, rfl, hc, hm, hcell⟩ := h.form
  clear h hm
  obtain ⟨i0, hi, iz0, iz1, iz2⟩ := info_parts infoNode
  go_enter Tryz.func22, Tryz.ntmps22
  go_wp2_with (at_make; refine wpList_make_full _ rfl _ _ 28 rfl w.heap.size 47 i0 (.agg #[.int .i64 0, .int .i64 0]) 2 Tryz.underlying28 hi iz0 iz1 .i64 .i64 _ _ l.length rfl rfl rfl rfl (by rw [iz2]; omega) (by unfold maxLen; omega) (Nat.le_refl _) ?_)
  intro w1 hown1 hgr1
  have hb1 : Below w.heap.size w w1 := (Below.refl _ _).grown hgr1 (Nat.le_refl _) (by intro k hk; cases hk)
  have hown : OwnP 47 w.heap.size w1 (.slice (some ⟨w.heap.size, 0, none⟩) l.length l.length) (fillP l 0) := by
    unfold OwnP
    rw [made2] at hown1
    rw [fillP_zero, List.length_replicate]
    exact hown1
  have hw1 : w.heap.size ≤ w1.heap.size := hb1.size
  clear hown1 hgr1 iz0 iz1 iz2 hi
  go_wp2
  go_loopw [4] (fun i wr => ∃ k : Nat, k ≤ l.length ∧ i = .int .i64 k ∧ OwnP 47 w.heap.size wr (.slice (some ⟨w.heap.size, 0, none⟩) l.length l.length) (fillP l k) ∧ Below w.heap.size w wr) (fun i _ => l.length - (intOf i).toNat)
  case atStart => exact ⟨0, Nat.zero_le _, rfl, hown, hb1⟩
  case round =>
    obtain ⟨k, hk, rfl, ho, hbl⟩ := hrel
    have hsz := hbl.size
    clear hown hb1 hw1
    by_cases hlt : k < l.length
    · obtain ⟨b, off, rfl, hb, hcl⟩ := hcell (by omega)
      obtain ⟨k0, k1⟩ := hcl k hlt
      have q0 := (hbl.cell (p := ⟨b, off + k * 2, none⟩) hb).trans k0
      have q1 := (hbl.cell (p := ⟨b, off + k * 2 + 1, none⟩) hb).trans k1
      clear k0 k1 hcl hcell
      go_wp2_with fail
      refine (toNode_any _ _ _).mono ?_
      rintro e w2 ⟨rfl, hb2⟩
      have ho2 := ho.kept hb2
      have hsz2 := hb2.size
      have hbl2 : Below w.heap.size w w2 := by exact bel_
      have hfl := fillP_length l k (by omega)
      have xx := ho2.cell (q := k) (by omega)
      obtain ⟨z0, x0⟩ : ∃ z, w2.cell? ⟨w.heap.size, k * 2, none⟩ = some z := ⟨_, xx.1⟩
      obtain ⟨z1, x1⟩ : ∃ z, w2.cell? ⟨w.heap.size, k * 2 + 1, none⟩ = some z := ⟨_, xx.2⟩
      have f0 := ho2.frz (k * 2)
      have f1 := ho2.frz (k * 2 + 1)
      have s4 := ho2.set_ (q := k) (by omega) l[k].1 l[k].2
      have s5 : OwnP 47 w.heap.size ((w2.setCell ⟨w.heap.size, k * 2, none⟩ (.int .i64 l[k].1)).setCell ⟨w.heap.size, k * 2 + 1, none⟩ (.int .i64 l[k].2)) (.slice (some ⟨w.heap.size, 0, none⟩) l.length l.length) (fillP l (k + 1)) := by
        rw [fillP_succ l k hlt]; exact s4
      have HB := (hbl2.setCell (p := ⟨w.heap.size, k * 2, none⟩) (Nat.le_refl _) (.int .i64 l[k].1)).setCell (p := ⟨w.heap.size, k * 2 + 1, none⟩) (Nat.le_refl _) (.int .i64 l[k].2)
      have HS := Lib.hid s5
      have HBL := Lib.hid HB
      clear xx s4 s5 HB hbl2 ho2 ho hb2 hbl hfl
      go_wp2
      go_roundw
      case rel => exact ⟨k + 1, by omega, by go_num, HS.out, HBL.out⟩
      case measure => simp [intOf]; omega
    · have hkk : k = l.length := by omega
      subst hkk
      rw [fillP_all] at ho
      have HO := Lib.hid ho
      have HB := Lib.hid hbl
      clear ho hbl hcell
      go_wp2
      go_ret
      exact RetP.mk HO.out HB.out
set_option maxHeartbeats 4000000 in
set_option maxRecDepth 100000 in
theorem toLeadS_any (v : Value) (l : List (Int × Int)) (w : World) (h : RP w v l) (hle : l.length ≤ 1048576) :
    Calls Tryz.prog 23 #[v] w (RetP 62 l w) := by
  obtain ⟨A, c, rfl, hc, hm, hcell⟩ := h.form
  clear h hm
  obtain ⟨i0, hi, iz0, iz1, iz2⟩ := info_parts infoLead
  go_enter Tryz.func23, Tryz.ntmps23
  go_wp2_with (at_make; refine wpList_make_full _ rfl _ _ 29 rfl w.heap.size 62 i0 (.agg #[.int .i64 0, .int .i64 0]) 2 Tryz.underlying29 hi iz0 iz1 .i64 .i64 _ _ l.length rfl rfl rfl rfl (by rw [iz2]; omega) (by unfold maxLen; omega) (Nat.le_refl _) ?_)
  intro w1 hown1 hgr1
  have hb1 : Below w.heap.size w w1 := (Below.refl _ _).grown hgr1 (Nat.le_refl _) (by intro k hk; cases hk)
  have hown : OwnP 62 w.heap.size w1 (.slice (some ⟨w.heap.size, 0, none⟩) l.length l.length) (fillP l 0) := by
    unfold OwnP
    rw [made2] at hown1
    rw [fillP_zero, List.length_replicate]
    exact hown1
  have hw1 : w.heap.size ≤ w1.heap.size := hb1.size
  clear hown1 hgr1 iz0 iz1 iz2 hi
  go_wp2
  go_loopw [4] (fun i wr => ∃ k : Nat, k ≤ l.length ∧ i = .int .i64 k ∧ OwnP 62 w.heap.size wr (.slice (some ⟨w.heap.size, 0, none⟩) l.length l.length) (fillP l k) ∧ Below w.heap.size w wr) (fun i _ => l.length - (intOf i).toNat)
  case atStart => exact ⟨0, Nat.zero_le _, rfl, hown, hb1⟩
  case round =>
    obtain ⟨k, hk, rfl, ho, hbl⟩ := hrel
    have hsz := hbl.size
    clear hown hb1 hw1
    by_cases hlt : k < l.length
    · obtain ⟨b, off, rfl, hb, hcl⟩ := hcell (by omega)
      obtain ⟨k0, k1⟩ := hcl k hlt
      have q0 := (hbl.cell (p := ⟨b, off + k * 2, none⟩) hb).trans k0
      have q1 := (hbl.cell (p := ⟨b, off + k * 2 + 1, none⟩) hb).trans k1
      clear k0 k1 hcl hcell
      go_wp2_with fail
      refine (toLead_any _ _ _).mono ?_
      rintro e w2 ⟨rfl, hb2⟩
      have ho2 := ho.kept hb2
      have hsz2 := hb2.size
      have hbl2 : Below w.heap.size w w2 := by exact bel_
      have hfl := fillP_length l k (by omega)
      have xx := ho2.cell (q := k) (by omega)
      obtain ⟨z0, x0⟩ : ∃ z, w2.cell? ⟨w.heap.size, k * 2, none⟩ = some z := ⟨_, xx.1⟩
      obtain ⟨z1, x1⟩ : ∃ z, w2.cell? ⟨w.heap.size, k * 2 + 1, none⟩ = some z := ⟨_, xx.2⟩
      have f0 := ho2.frz (k * 2)
      have f1 := ho2.frz (k * 2 + 1)
      have s4 := ho2.set_ (q := k) (by omega) l[k].1 l[k].2
      have s5 : OwnP 62 w.heap.size ((w2.setCell ⟨w.heap.size, k * 2, none⟩ (.int .i64 l[k].1)).setCell ⟨w.heap.size, k * 2 + 1, none⟩ (.int .i64 l[k].2)) (.slice (some ⟨w.heap.size, 0, none⟩) l.length l.length) (fillP l (k + 1)) := by
        rw [fillP_succ l k hlt]; exact s4
      have HB := (hbl2.setCell (p := ⟨w.heap.size, k * 2, none⟩) (Nat.le_refl _) (.int .i64 l[k].1)).setCell (p := ⟨w.heap.size, k * 2 + 1, none⟩) (Nat.le_refl _) (.int .i64 l[k].2)
      have HS := Lib.hid s5
      have HBL := Lib.hid HB
      clear xx s4 s5 HB hbl2 ho2 ho hb2 hbl hfl
      go_wp2
      go_roundw
      case rel => exact ⟨k + 1, by omega, by go_num, HS.out, HBL.out⟩
      case measure => simp [intOf]; omega
    · have hkk : k = l.length := by omega
      subst hkk
      rw [fillP_all] at ho
      have HO := Lib.hid ho
      have HB := Lib.hid hbl
      clear ho hbl hcell
      go_wp2
      go_ret
      exact RetP.mk HO.out HB.out
set_option maxHeartbeats 1000000 in
theorem eqNode_any (a b a' b' : Int) (w : World) :
    Calls Tryz.prog 50 #[.agg #[.int .i64 a, .int .i64 b], .agg #[.int .i64 a', .int .i64 b']] w
      fun e w' => e = .returned (.bool (a == a' && b == b')) ∧ Below w.heap.size w w' := by
  go_enter Tryz.func50, Tryz.ntmps50
  go_wp2
  all_goals go_ret
  all_goals refine ⟨ret_bool ?_, by exact bel_⟩
  all_goals simp_all
set_option maxHeartbeats 1000000 in
theorem eqLead_any (a b a' b' : Int) (w : World) :
    Calls Tryz.prog 51 #[.agg #[.int .i64 a, .int .i64 b], .agg #[.int .i64 a', .int .i64 b']] w
      fun e w' => e = .returned (.bool (a == a' && b == b')) ∧ Below w.heap.size w w' := by
  go_enter Tryz.func51, Tryz.ntmps51
  go_wp2
  all_goals go_ret
  all_goals refine ⟨ret_bool ?_, by exact bel_⟩
  all_goals simp_all
theorem eqNode_same (a b : Int) (w : World) :
    Calls Tryz.prog 50 #[.agg #[.int .i64 a, .int .i64 b], .agg #[.int .i64 a, .int .i64 b]] w fun e w' => e = .returned (.bool true) ∧ Below w.heap.size w w' :=
  (eqNode_any a b a b w).mono fun e w' ⟨he, hw⟩ => ⟨he.trans (by simp), hw⟩
theorem eqLead_same (a b : Int) (w : World) :
    Calls Tryz.prog 51 #[.agg #[.int .i64 a, .int .i64 b], .agg #[.int .i64 a, .int .i64 b]] w fun e w' => e = .returned (.bool true) ∧ Below w.heap.size w w' :=
  (eqLead_any a b a b w).mono fun e w' ⟨he, hw⟩ => ⟨he.trans (by simp), hw⟩
set_option maxHeartbeats 2000000 in
set_option maxRecDepth 100000 in
theorem eqNodeS_any (v u : Value) (l : List (Int × Int)) (w : World) (hv : RP w v l) (hu : RP w u l) :
    Calls Tryz.prog 27 #[v, u] w fun e w' => e = .returned (.bool true) ∧ Below w.heap.size w w' := by
  obtain ⟨A, c, rfl, hc, hm, hcell⟩ := hv.form
  obtain ⟨A', c', rfl, hc', hm', hcell'⟩ := hu.form
  unfold maxLen at hm hm'
  clear hv hu
  go_enter Tryz.func27, Tryz.ntmps27
  go_wp2
  go_loopw [5] (fun i wr => ∃ k : Nat, k ≤ l.length ∧ i = .int .i64 k ∧ Below w.heap.size w wr) (fun i _ => l.length - (intOf i).toNat)
  case atStart => exact ⟨0, Nat.zero_le _, rfl, Below.refl _ _⟩
  case round =>
    obtain ⟨k, hk, rfl, hbl⟩ := hrel
    have hsz := hbl.size
    by_cases hlt : k < l.length
    · obtain ⟨b, off, rfl, hb, hcl⟩ := hcell (by omega)
      obtain ⟨k0, k1⟩ := hcl k hlt
      have q0 := (hbl.cell (p := ⟨b, off + k * 2, none⟩) hb).trans k0
      have q1 := (hbl.cell (p := ⟨b, off + k * 2 + 1, none⟩) hb).trans k1
      obtain ⟨b', off', rfl, hb', hcl'⟩ := hcell' (by omega)
      obtain ⟨j0, j1⟩ := hcl' k hlt
      have p0 := (hbl.cell (p := ⟨b', off' + k * 2, none⟩) hb').trans j0
      have p1 := (hbl.cell (p := ⟨b', off' + k * 2 + 1, none⟩) hb').trans j1
      have hi1 : (0 : Int) ≤ (k : Int) := by omega
      have hi2 : (k : Int) < (l.length : Int) := by omega
      clear k0 k1 hcl hcell j0 j1 hcl' hcell'
      go_wp2
      go_still_tail 8, (by kernel_rfl)
      go_wp2_with fail
      refine (eqNode_same _ _ _).mono ?_
      rintro e w2 ⟨rfl, hb2⟩
      have hbl2 : Below w.heap.size w w2 := hbl.trans ((show Below wr.heap.size wr w2 from ⟨hb2.os, hb2.tape, hb2.output, hb2.size, hb2.block⟩).mono hsz)
      clear hb2
      go_wp2
      go_roundw
      case rel => exact ⟨k + 1, by omega, by go_num, hbl2⟩
      case measure => simp [intOf]; omega
    · go_wp2
      go_ret
      exact ⟨rfl, hbl⟩
set_option maxHeartbeats 2000000 in
set_option maxRecDepth 100000 in
theorem eqLeadS_any (v u : Value) (l : List (Int × Int)) (w : World) (hv : RP w v l) (hu : RP w u l) :
    Calls Tryz.prog 28 #[v, u] w fun e w' => e = .returned (.bool true) ∧ Below w.heap.size w w' := by
  obtain ⟨A, c, rfl, hc, hm, hcell⟩ := hv.form
  obtain ⟨A', c', rfl, hc', hm', hcell'⟩ := hu.form
  unfold maxLen at hm hm'
  clear hv hu
  go_enter Tryz.func28, Tryz.ntmps28
  go_wp2
  go_loopw [5] (fun i wr => ∃ k : Nat, k ≤ l.length ∧ i = .int .i64 k ∧ Below w.heap.size w wr) (fun i _ => l.length - (intOf i).toNat)
  case atStart => exact ⟨0, Nat.zero_le _, rfl, Below.refl _ _⟩
  case round =>
    obtain ⟨k, hk, rfl, hbl⟩ := hrel
    have hsz := hbl.size
    by_cases hlt : k < l.length
    · obtain ⟨b, off, rfl, hb, hcl⟩ := hcell (by omega)
      obtain ⟨k0, k1⟩ := hcl k hlt
      have q0 := (hbl.cell (p := ⟨b, off + k * 2, none⟩) hb).trans k0
      have q1 := (hbl.cell (p := ⟨b, off + k * 2 + 1, none⟩) hb).trans k1
      obtain ⟨b', off', rfl, hb', hcl'⟩ := hcell' (by omega)
      obtain ⟨j0, j1⟩ := hcl' k hlt
      have p0 := (hbl.cell (p := ⟨b', off' + k * 2, none⟩) hb').trans j0
      have p1 := (hbl.cell (p := ⟨b', off' + k * 2 + 1, none⟩) hb').trans j1
      have hi1 : (0 : Int) ≤ (k : Int) := by omega
      have hi2 : (k : Int) < (l.length : Int) := by omega
      clear k0 k1 hcl hcell j0 j1 hcl' hcell'
      go_wp2
      go_still_tail 8, (by kernel_rfl)
      go_wp2_with fail
      refine (eqLead_same _ _ _).mono ?_
      rintro e w2 ⟨rfl, hb2⟩
      have hbl2 : Below w.heap.size w w2 := hbl.trans ((show Below wr.heap.size wr w2 from ⟨hb2.os, hb2.tape, hb2.output, hb2.size, hb2.block⟩).mono hsz)
      clear hb2
      go_wp2
      go_roundw
      case rel => exact ⟨k + 1, by omega, by go_num, hbl2⟩
      case measure => simp [intOf]; omega
    · go_wp2
      go_ret
      exact ⟨rfl, hbl⟩
end Go.Proofs.YtbennlajjfkdpaaGreatDoor
