/-
  Deposits in order: both sides walked; the place of a deposit.
-/
import Derived.Test.YtoknmjpnelbplaaGreatSPk0
import Derived.Test.YtoknmjpnelbplaaGreatDeg
import Derived.Test.YtoknmjpnelbplaaGreatPlane
import Derived.Test.YtoknmjpnelbplaaGreatQG
import Derived.Test.YtoknmjpnelbplaaGreatSmall
import Derived.Test.YtoknmjpnelbplaaGreatWok
set_option linter.unusedSimpArgs false
set_option linter.unusedVariables false
namespace Go.Proofs.YtoknmjpnelbplaaGreat
open Go.RowKit

attribute [local go_sem ↓] run_eqNode run_neNode run_mn2 run_mx2

theorem twin_xor (d : Nat) : d ^^^ 1 = twin d := by
  apply Nat.eq_of_testBit_eq
  intro i
  rw [Nat.testBit_xor]
  cases i with
  | zero =>
    rw [Nat.testBit_zero, Nat.testBit_zero, Nat.testBit_zero]
    unfold twin
    have h : d % 2 = 0 ∨ d % 2 = 1 := by omega
    rcases h with h | h
    · rw [if_pos h, h, show (d + 1) % 2 = 1 by omega]; rfl
    · rw [if_neg (by omega), h, show (d - 1) % 2 = 0 by omega]; rfl
  | succ i =>
    rw [Nat.testBit_succ, Nat.testBit_succ, Nat.testBit_succ, show twin d / 2 = d / 2 by unfold twin; split <;> omega]
    simp

set_option maxHeartbeats 2000000 in
set_option maxRecDepth 100000 in
theorem iFrom_any (vn vl : Value) (ls : List Pr) (d : Nat) (w : World) (hl : RP w vl ls) (hd : d < 2 * ls.length) :
    Calls Tryz.prog 203 #[.agg #[vn, vl], .int .i64 d] w fun e w' => e = .returned (.int .i64 (dFrom ls d)) ∧ Below w.heap.size w w' := by
  obtain ⟨A, c, rfl, hc, hm, hcell⟩ := hl.formI
  unfold maxLen at hm
  clear hl
  obtain ⟨b, off, rfl, hb, hcl⟩ := hcell (by omega)
  obtain ⟨k0, k1⟩ := hcl (d / 2) (by omega)
  have t1 := tdiv2 d
  have t2 := tmod2 d
  have HF : Hid (dFrom ls d = if d % 2 = 1 then (ndI ls (d / 2 : Nat)).2 else (ndI ls (d / 2 : Nat)).1) := Lib.hid rfl
  have hq : d / 2 < ls.length := by omega
  have hq1 : ((d / 2 : Nat) : Int) < (ls.length : Int) := by omega
  have hq2 : (0 : Int) ≤ ((d / 2 : Nat) : Int) := by omega
  have hr : d % 2 = 0 ∨ d % 2 = 1 := by omega
  have nb : b < w.heap.size + 1 := by omega
  have nb2 : b < w.heap.size + 1 + 1 := by omega
  generalize d / 2 = q at *
  generalize ndI ls (q : Int) = L at *
  obtain ⟨l1, l2⟩ := L
  simp only at k0 k1 HF
  clear hcl hcell
  rcases hr with hr | hr
  · rw [hr] at HF t2
    have e1 : ((0 : Nat) : Int) = 0 := rfl
    go_enter Tryz.func203, Tryz.ntmps203
    go_wp2
    go_ret
    exact ⟨ret_int (by rw [HF.out]; rfl), by (repeat' (first | (with_reducible exact Below.refl _ _) | (with_reducible assumption) | (with_reducible refine Below.drew ?_) | (with_reducible refine below_drewN ?_ _) | (with_reducible refine Below.alloc ?_ ?_ _) | (with_reducible refine Below.setCell ?_ ?_ _) | (with_reducible refine Below.step (by assumption) ?_ ?_))); all_goals (first | omega | (simp; done) | (simp; omega))⟩
  · rw [hr] at HF t2
    have e1 : ((1 : Nat) : Int) = 1 := rfl
    go_enter Tryz.func203, Tryz.ntmps203
    go_wp2
    go_ret
    exact ⟨ret_int (by rw [HF.out]; rfl), by (repeat' (first | (with_reducible exact Below.refl _ _) | (with_reducible assumption) | (with_reducible refine Below.drew ?_) | (with_reducible refine below_drewN ?_ _) | (with_reducible refine Below.alloc ?_ ?_ _) | (with_reducible refine Below.setCell ?_ ?_ _) | (with_reducible refine Below.step (by assumption) ?_ ?_))); all_goals (first | omega | (simp; done) | (simp; omega))⟩

set_option maxHeartbeats 1000000 in
set_option maxRecDepth 100000 in
theorem iHalf_any (ax ay bx by' : Int) (w : World) :
    Calls Tryz.prog 249 #[.agg #[.int .i64 ax, .int .i64 ay], .agg #[.int .i64 bx, .int .i64 by']] w fun e w' => e = .returned (.int .i64 (halfI ax ay bx by')) ∧ Below w.heap.size w w' := by
  go_enter Tryz.func249, Tryz.ntmps249
  go_wp2
  all_goals go_ret
  all_goals refine ⟨ret_int ?_, by (repeat' (first | (with_reducible exact Below.refl _ _) | (with_reducible assumption) | (with_reducible refine Below.drew ?_) | (with_reducible refine below_drewN ?_ _) | (with_reducible refine Below.alloc ?_ ?_ _) | (with_reducible refine Below.setCell ?_ ?_ _) | (with_reducible refine Below.step (by assumption) ?_ ?_))); all_goals (first | omega | (simp; done) | (simp; omega))⟩
  all_goals unfold halfI
  all_goals first | (rw [if_pos (by omega)]; done) | (rw [if_neg (by omega)]; done) | (simp_all; done) | (simp_all; omega)

set_option maxHeartbeats 4000000 in
set_option maxRecDepth 100000 in
theorem iBefore_any (ax ay bx by' cx cy : Int) (w : World) :
    Calls Tryz.prog 244 #[.agg #[.int .i64 ax, .int .i64 ay], .agg #[.int .i64 bx, .int .i64 by'], .agg #[.int .i64 cx, .int .i64 cy]] w
      fun e w' => e = .returned (.bool (befB ax ay bx by' cx cy)) ∧ Below w.heap.size w w' := by
  by_cases hv : nodeB ax ay = true ∧ nodeB bx by' = true ∧ nodeB cx cy = true
  · obtain ⟨h1, h2, h3⟩ := hv
    have HN : Hid ((nodeB ax ay && nodeB bx by' && nodeB cx cy) = true) := Lib.hid (by rw [h1, h2, h3]; rfl)
    have HR : Hid (befB ax ay bx by' cx cy = (if halfI ax ay bx by' = halfI ax ay cx cy then decide (0 < turnI ax ay bx by' cx cy) else decide (halfI ax ay bx by' < halfI ax ay cx cy))) := Lib.hid (by unfold befB; rw [h1, h2, h3]; rfl)
    go_enter Tryz.func244, Tryz.ntmps244
    go_wp2_with fail
    refine (nodes3_any _ ax ay bx by' cx cy _ (RP_lit (by simp) rfl rfl rfl (by simp [maxLen]))).mono ?_
    rintro e w1 ⟨rfl, hb1⟩; (first | (with_reducible have hcf1 := bcell_drew hb1) | have hcf1 := bcell hb1); obtain ⟨hc1, hf1⟩ := hcf1; have hz1 := hb1.size; (try simp at hz1); (try have hp1_0 : w.heap.size < w1.heap.size := by omega); (try have hp1_1 : w.heap.size + 1 < w1.heap.size := by omega); (try have hp1_2 : w.heap.size + 1 + 1 < w1.heap.size := by omega); (try have hp1_3 : w.heap.size + 1 + 1 + 1 < w1.heap.size := by omega)
    rw [HN.out]
    go_wp2_with fail
    (refine wp_region_quietG (by kernel_rfl) (by kernel_rfl) (fun hG => ?_))
    repeat (go_big_quiet_step ((go_at_call 249; exact quietG (iHalf_any _ _ _ _ _))))
    (refine wpQuiet_nil ?_); (clear hG); (rintro w4 ⟨⟨_, hb4⟩, rfl⟩); (try dsimp only); (first | (with_reducible have hcf4 := bcell_drew hb4) | have hcf4 := bcell hb4); obtain ⟨hc4, hf4⟩ := hcf4; have hz4 := hb4.size; (try simp at hz4); (try have hp4_0 : w.heap.size < w4.heap.size := by omega); (try have hp4_1 : w.heap.size + 1 < w4.heap.size := by omega); (try have hp4_2 : w.heap.size + 1 + 1 < w4.heap.size := by omega); (try have hp4_3 : w.heap.size + 1 + 1 + 1 < w4.heap.size := by omega)
    generalize hU : halfI ax ay bx by' = u at *
    generalize hV : halfI ax ay cx cy = v at *
    clear hU hV
    go_wp2_with (go_at_call 219; refine (iTurn_any _ _ _ _ _ _ _ h1 h2 h3).mono ?_; rintro e w5 ⟨rfl, hb5⟩; (first | (with_reducible have hcf5 := bcell_drew hb5) | have hcf5 := bcell hb5); obtain ⟨hc5, hf5⟩ := hcf5; have hz5 := hb5.size; (try simp at hz5); (try have hp5_0 : w.heap.size < w5.heap.size := by omega); (try have hp5_1 : w.heap.size + 1 < w5.heap.size := by omega); (try have hp5_2 : w.heap.size + 1 + 1 < w5.heap.size := by omega); (try have hp5_3 : w.heap.size + 1 + 1 + 1 < w5.heap.size := by omega))
    all_goals go_ret
    all_goals refine ⟨ret_bool ?_, by (repeat' (first | (with_reducible exact Below.refl _ _) | (with_reducible assumption) | (with_reducible refine Below.drew ?_) | (with_reducible refine below_drewN ?_ _) | (with_reducible refine Below.alloc ?_ ?_ _) | (with_reducible refine Below.setCell ?_ ?_ _) | (with_reducible refine Below.step (by assumption) ?_ ?_))); all_goals (first | omega | (simp; done) | (simp; omega))⟩
    all_goals rw [HR.out]
    all_goals by_cases huv : u = v
    all_goals first | rw [if_pos huv] | rw [if_neg huv]
    all_goals first | (simp_all; done) | (simp_all; omega) | (simp; omega)
  · have HN : Hid ((nodeB ax ay && nodeB bx by' && nodeB cx cy) = false) := Lib.hid (by
      cases h1 : nodeB ax ay <;> cases h2 : nodeB bx by' <;> cases h3 : nodeB cx cy <;> simp_all)
    have HR := Lib.hid (bef_inv hv)
    clear hv
    go_enter Tryz.func244, Tryz.ntmps244
    go_wp2_with fail
    refine (nodes3_any _ ax ay bx by' cx cy _ (RP_lit (by simp) rfl rfl rfl (by simp [maxLen]))).mono ?_
    rintro e w1 ⟨rfl, hb1⟩; (first | (with_reducible have hcf1 := bcell_drew hb1) | have hcf1 := bcell hb1); obtain ⟨hc1, hf1⟩ := hcf1; have hz1 := hb1.size; (try simp at hz1); (try have hp1_0 : w.heap.size < w1.heap.size := by omega); (try have hp1_1 : w.heap.size + 1 < w1.heap.size := by omega); (try have hp1_2 : w.heap.size + 1 + 1 < w1.heap.size := by omega); (try have hp1_3 : w.heap.size + 1 + 1 + 1 < w1.heap.size := by omega)
    rw [HN.out]
    go_wp2
    go_ret
    exact ⟨ret_bool HR.out.symm, by (repeat' (first | (with_reducible exact Below.refl _ _) | (with_reducible assumption) | (with_reducible refine Below.drew ?_) | (with_reducible refine below_drewN ?_ _) | (with_reducible refine Below.alloc ?_ ?_ _) | (with_reducible refine Below.setCell ?_ ?_ _) | (with_reducible refine Below.step (by assumption) ?_ ?_))); all_goals (first | omega | (simp; done) | (simp; omega))⟩

theorem iBefore_at (a b c : Pr) (x : Bool) (w : World) (h : befB a.1 a.2 b.1 b.2 c.1 c.2 = x) :
    Calls Tryz.prog 244 #[.agg #[.int .i64 a.1, .int .i64 a.2], .agg #[.int .i64 b.1, .int .i64 b.2], .agg #[.int .i64 c.1, .int .i64 c.2]] w
      fun e w' => e = .returned (.bool x) ∧ Below w.heap.size w w' := by
  subst h; exact iBefore_any _ _ _ _ _ _ w

end Go.Proofs.YtoknmjpnelbplaaGreat

namespace Go.Proofs.YtoknmjpnelbplaaGreat
open Go.RowKit

/-- How two darts compare around node k. -/
def cmpD (ns ls : List Pr) (k d e : Nat) : Int := if d = e then 0 else if bfD ns ls k d e then -1 else 1

theorem bef_self (ax ay bx by' : Int) : befB ax ay bx by' bx by' = false := by
  unfold befB
  rw [if_pos rfl]
  have : turnI ax ay bx by' bx by' = 0 := turn_self2 (ax, ay) (bx, by')
  rw [this]
  simp

theorem cmpD_lt (ns ls : List Pr) (k d e : Nat) : decide (cmpD ns ls k d e < 0) = bfD ns ls k d e := by
  unfold cmpD
  by_cases h : d = e
  · subst h
    rw [if_pos rfl]
    unfold bfD
    rw [bef_self]
    rfl
  · rw [if_neg h]
    cases bfD ns ls k d e <;> rfl

set_option maxHeartbeats 4000000 in
set_option maxRecDepth 100000 in
theorem cmp_any (gW gK : Nat) (vn vl : Value) (ns ls : List Pr) (k d e : Nat) (w : World) (hW : Blk w gW 38 #[vn, vl]) (hKc : w.cell? ⟨gK, 0, none⟩ = some (.int .i64 k)) (hKl : gK < w.heap.size) (hn : RP w vn ns) (hl : RP w vl ls)
    (hk : k < ns.length) (hd : d < 2 * ls.length) (he : e < 2 * ls.length) (hwin : WinOk ns ls) :
    Calls Tryz.prog 243 #[.int .i64 d, .int .i64 e, .pointer (some ⟨gW, 0, none⟩), .pointer (some ⟨gK, 0, none⟩)] w fun en w' => en = .returned (.int .i64 (cmpD ns ls k d e)) ∧ Below w.heap.size w w' := by
  have hld : ∀ j : Nat, j < ls.length → leadB ns (ndI ls j) = true := fun j hj => (hwin.2.2.2.2.2 j hj).1
  have hm20 := hwin.2.2.1
  obtain ⟨An, cn, rfl, hcn, hmn, hcelln⟩ := hn.formI
  obtain ⟨bn, offn, rfl, hbn, hcc⟩ := hcelln (by omega)
  obtain ⟨t, ht, htn⟩ := dTo_nat hld hd
  obtain ⟨u, hu, hun⟩ := dTo_nat hld he
  obtain ⟨k0, k1⟩ := hcc k hk
  obtain ⟨t0, t1⟩ := hcc t htn
  obtain ⟨u0, u1⟩ := hcc u hun
  unfold maxLen at hmn
  have hgW := hW.lt
  have x1 := bits_xor_nat (a := d) (b := 1) (by omega) (by omega)
  have x2 := bits_xor_nat (a := e) (b := 1) (by omega) (by omega)
  rw [twin_xor] at x1 x2
  have x1' : bits .xor .i64 (d : Int) 1 = ((twin d : Nat) : Int) := x1
  have x2' : bits .xor .i64 (e : Int) 1 = ((twin e : Nat) : Int) := x2
  clear x1 x2
  have X1 := Lib.hid x1'
  have X2 := Lib.hid x2'
  clear x1' x2'
  have ik1 : (0 : Int) ≤ (k : Int) := by omega
  have ik2 : (k : Int) < (ns.length : Int) := by omega
  have it1 : (0 : Int) ≤ (t : Int) := by omega
  have it2 : (t : Int) < (ns.length : Int) := by omega
  have iu1 : (0 : Int) ≤ (u : Int) := by omega
  have iu2 : (u : Int) < (ns.length : Int) := by omega
  (have a_0 := hW.cell 0); (have a_1 := hW.cell 1); simp only [List.getElem?_toArray, List.getElem?_cons_succ, List.getElem?_cons_zero] at a_0 a_1
  clear hcelln hcc
  go_enter Tryz.func243, Tryz.ntmps243
  go_wp2_with fail
  have HS : Hid (∀ v : World, Below w.heap.size w v → v.cell? ⟨gW, 0, none⟩ = some (.slice (some ⟨bn, offn, none⟩) ns.length cn) ∧ v.cell? ⟨gW, 1, none⟩ = some vl ∧ v.cell? ⟨gK, 0, none⟩ = some (.int .i64 k) ∧ v.cell? ⟨bn, offn + k * 2, none⟩ = some (.int .i64 (ndI ns k).1) ∧ v.cell? ⟨bn, offn + k * 2 + 1, none⟩ = some (.int .i64 (ndI ns k).2)) := Lib.hid (fun v hv => ⟨(hv.cell (p := ⟨gW, 0, none⟩) hgW).trans a_0, (hv.cell (p := ⟨gW, 1, none⟩) hgW).trans a_1, (hv.cell (p := ⟨gK, 0, none⟩) hKl).trans hKc, (hv.cell (p := ⟨bn, offn + k * 2, none⟩) hbn).trans k0, (hv.cell (p := ⟨bn, offn + k * 2 + 1, none⟩) hbn).trans k1⟩)
  refine region_E (n := 26) (S := fun v => v.cell? ⟨gW, 0, none⟩ = some (.slice (some ⟨bn, offn, none⟩) ns.length cn) ∧ v.cell? ⟨gW, 1, none⟩ = some vl ∧ v.cell? ⟨gK, 0, none⟩ = some (.int .i64 k) ∧ v.cell? ⟨bn, offn + k * 2, none⟩ = some (.int .i64 (ndI ns k).1) ∧ v.cell? ⟨bn, offn + k * 2 + 1, none⟩ = some (.int .i64 (ndI ns k).2)) (by kernel_rfl) (HS.out _ (Below.refl _ _).drew) (fun hS => ?_)
  (refine E_take (i := 0) (v := ?_) rfl rfl (by kernel_rfl) (by kernel_rfl) (by kernel_rfl) (by kernel_rfl) (by kernel_rfl) (fun _ _ _ h => h) (Or.inl ⟨by rfl, ?_⟩) (by assumption) ?_); rotate_left; (focus (intro w' hSw; (try dsimp only at hSw); go_simp; (try with_reducible rfl))); (try simp only [Act.put, List.setIfInBounds_toArray, List.set_cons_zero, List.set_cons_succ])
  (refine E_take (i := 1) (v := ?_) rfl rfl (by kernel_rfl) (by kernel_rfl) (by kernel_rfl) (by kernel_rfl) (by kernel_rfl) (fun _ _ _ h => h) (Or.inl ⟨by rfl, ?_⟩) (by assumption) ?_); rotate_left; (focus (intro w' hSw; (try dsimp only at hSw); go_simp; (try with_reducible rfl))); (try simp only [Act.put, List.setIfInBounds_toArray, List.set_cons_zero, List.set_cons_succ])
  (refine E_take (i := 2) (v := ?_) rfl rfl (by kernel_rfl) (by kernel_rfl) (by kernel_rfl) (by kernel_rfl) (by kernel_rfl) (fun _ _ _ h => h) (Or.inl ⟨by rfl, ?_⟩) (by assumption) ?_); rotate_left; (focus (intro w' hSw; (try dsimp only at hSw); go_simp; (try with_reducible rfl))); (try simp only [Act.put, List.setIfInBounds_toArray, List.set_cons_zero, List.set_cons_succ])
  (refine E_take (i := 3) (v := ?_) rfl rfl (by kernel_rfl) (by kernel_rfl) (by kernel_rfl) (by kernel_rfl) (by kernel_rfl) (fun _ _ _ h => h) (Or.inl ⟨by rfl, ?_⟩) (by assumption) ?_); rotate_left; (focus (intro w' hSw; (try dsimp only at hSw); go_simp; (try with_reducible rfl))); (try simp only [Act.put, List.setIfInBounds_toArray, List.set_cons_zero, List.set_cons_succ])
  (refine E_take (i := 4) (v := ?_) rfl rfl (by kernel_rfl) (by kernel_rfl) (by kernel_rfl) (by kernel_rfl) (by kernel_rfl) (fun _ _ _ h => h) (Or.inl ⟨by rfl, ?_⟩) (by assumption) ?_); rotate_left; (focus (intro w' hSw; (try dsimp only at hSw); go_simp; (try with_reducible rfl))); (try simp only [Act.put, List.setIfInBounds_toArray, List.set_cons_zero, List.set_cons_succ])
  (refine E_take (i := 5) (v := ?_) rfl rfl (by kernel_rfl) (by kernel_rfl) (by kernel_rfl) (by kernel_rfl) (by kernel_rfl) (fun _ _ _ h => h) (Or.inl ⟨by rfl, ?_⟩) (by assumption) ?_); rotate_left; (focus (intro w' hSw; (try dsimp only at hSw); go_simp; (try with_reducible rfl))); (try simp only [Act.put, List.setIfInBounds_toArray, List.set_cons_zero, List.set_cons_succ])
  (refine E_take (i := 6) (v := ?_) rfl rfl (by kernel_rfl) (by kernel_rfl) (by kernel_rfl) (by kernel_rfl) (by kernel_rfl) (fun _ _ _ h => h) (Or.inl ⟨by rfl, ?_⟩) (by assumption) ?_); rotate_left; (focus (intro w' hSw; (try dsimp only at hSw); go_simp; (try with_reducible rfl))); (try simp only [Act.put, List.setIfInBounds_toArray, List.set_cons_zero, List.set_cons_succ])
  (refine E_take (i := 7) (v := ?_) rfl rfl (by kernel_rfl) (by kernel_rfl) (by kernel_rfl) (by kernel_rfl) (by kernel_rfl) (fun _ _ _ h => h) (Or.inl ⟨by rfl, ?_⟩) (by assumption) ?_); rotate_left; (focus (intro w' hSw; (try dsimp only at hSw); go_simp; (try with_reducible rfl))); (try simp only [Act.put, List.setIfInBounds_toArray, List.set_cons_zero, List.set_cons_succ])
  (refine E_take (i := 8) (v := ?_) rfl rfl (by kernel_rfl) (by kernel_rfl) (by kernel_rfl) (by kernel_rfl) (by kernel_rfl) (fun _ _ _ h => h) (Or.inl ⟨by rfl, ?_⟩) (by assumption) ?_); rotate_left; (focus (intro w' hSw; (try dsimp only at hSw); go_simp; (try with_reducible rfl))); (try simp only [Act.put, List.setIfInBounds_toArray, List.set_cons_zero, List.set_cons_succ])
  (refine E_take (i := 9) (v := ?_) rfl rfl (by kernel_rfl) (by kernel_rfl) (by kernel_rfl) (by kernel_rfl) (by kernel_rfl) (fun _ _ _ h => h) (Or.inl ⟨by rfl, ?_⟩) (by assumption) ?_); rotate_left; (focus (intro w' hSw; (try dsimp only at hSw); go_simp; (try with_reducible rfl))); (try simp only [Act.put, List.setIfInBounds_toArray, List.set_cons_zero, List.set_cons_succ])
  (refine E_take (i := 13) (v := ?_) rfl rfl (by kernel_rfl) (by kernel_rfl) (by kernel_rfl) (by kernel_rfl) (by kernel_rfl) (fun _ _ _ h => h) (Or.inl ⟨by rfl, ?_⟩) (by assumption) ?_); rotate_left; (focus (intro w' hSw; (try dsimp only at hSw); go_simp; (try with_reducible rfl))); (try simp only [Act.put, List.setIfInBounds_toArray, List.set_cons_zero, List.set_cons_succ])
  (refine E_take (i := 14) (v := ?_) rfl rfl (by kernel_rfl) (by kernel_rfl) (by kernel_rfl) (by kernel_rfl) (by kernel_rfl) (fun _ _ _ h => h) (Or.inl ⟨by rfl, ?_⟩) (by assumption) ?_); rotate_left; (focus (intro w' hSw; (try dsimp only at hSw); go_simp; (try with_reducible rfl))); (try simp only [Act.put, List.setIfInBounds_toArray, List.set_cons_zero, List.set_cons_succ])
  (refine E_take (i := 15) (v := ?_) rfl rfl (by kernel_rfl) (by kernel_rfl) (by kernel_rfl) (by kernel_rfl) (by kernel_rfl) (fun _ _ _ h => h) (Or.inl ⟨by rfl, ?_⟩) (by assumption) ?_); rotate_left; (focus (intro w' hSw; (try dsimp only at hSw); go_simp; (try with_reducible rfl))); (try simp only [Act.put, List.setIfInBounds_toArray, List.set_cons_zero, List.set_cons_succ])
  (refine E_take (i := 16) (v := ?_) rfl rfl (by kernel_rfl) (by kernel_rfl) (by kernel_rfl) (by kernel_rfl) (by kernel_rfl) (fun _ _ _ h => h) (Or.inl ⟨by rfl, ?_⟩) (by assumption) ?_); rotate_left; (focus (intro w' hSw; (try dsimp only at hSw); go_simp; (try with_reducible rfl))); (try simp only [Act.put, List.setIfInBounds_toArray, List.set_cons_zero, List.set_cons_succ])
  (refine E_take (i := 17) (v := ?_) rfl rfl (by kernel_rfl) (by kernel_rfl) (by kernel_rfl) (by kernel_rfl) (by kernel_rfl) (fun _ _ _ h => h) (Or.inl ⟨by rfl, ?_⟩) (by assumption) ?_); rotate_left; (focus (intro w' hSw; (try dsimp only at hSw); go_simp; (try with_reducible rfl))); (try simp only [Act.put, List.setIfInBounds_toArray, List.set_cons_zero, List.set_cons_succ])
  rw [X1.out, X2.out]
  have hpt := twin_lt hd
  have hqt := twin_lt he
  have T0 := dFrom_twin ls d
  have U0 := dFrom_twin ls e
  rw [ht] at T0
  rw [hu] at U0
  have HC := Lib.hid (fun (v : World) (hb : Below w.heap.size w v) => iFrom_any (.slice (some ⟨bn, offn, none⟩) ns.length cn) vl ls (twin d) v (hl.below hb) hpt)
  have HD := Lib.hid (fun (v : World) (hb : Below w.heap.size w v) => iFrom_any (.slice (some ⟨bn, offn, none⟩) ns.length cn) vl ls (twin e) v (hl.below hb) hqt)
  rw [T0] at HC
  rw [U0] at HD
  generalize twin d = pd at *
  generalize twin e = pe at *
  have HT : Hid (∀ v : World, Below w.heap.size w v → v.cell? ⟨bn, offn + t * 2, none⟩ = some (.int .i64 (ndI ns t).1) ∧ v.cell? ⟨bn, offn + t * 2 + 1, none⟩ = some (.int .i64 (ndI ns t).2)) := Lib.hid (fun v hv => ⟨(hv.cell (p := ⟨bn, offn + t * 2, none⟩) hbn).trans t0, (hv.cell (p := ⟨bn, offn + t * 2 + 1, none⟩) hbn).trans t1⟩)
  have HU : Hid (∀ v : World, Below w.heap.size w v → v.cell? ⟨bn, offn + u * 2, none⟩ = some (.int .i64 (ndI ns u).1) ∧ v.cell? ⟨bn, offn + u * 2 + 1, none⟩ = some (.int .i64 (ndI ns u).2)) := Lib.hid (fun v hv => ⟨(hv.cell (p := ⟨bn, offn + u * 2, none⟩) hbn).trans u0, (hv.cell (p := ⟨bn, offn + u * 2 + 1, none⟩) hbn).trans u1⟩)
  refine E_phase (n := 26) (Inv := fun L a v => ∃ v7 v8 v9 v20 v21 v22 v28 v29 v30, a = {
      tmps := #[.int .i64 d, .int .i64 e, .pointer (some ⟨gW, 0, none⟩), .pointer (some ⟨gK, 0, none⟩), undef, undef, .int .i64 0, v7, v8, v9,
        .pointer (some ⟨gW, 0, none⟩), .slice (some ⟨bn, offn, none⟩) ns.length cn, .int .i64 k, .pointer (some ⟨bn, offn + k * 2, none⟩), .agg #[.int .i64 (ndI ns k).1, .int .i64 (ndI ns k).2],
        .pointer (some ⟨gW, 0, none⟩), .slice (some ⟨bn, offn, none⟩) ns.length cn, .agg #[.slice (some ⟨bn, offn, none⟩) ns.length cn, vl], .int .i64 d, .int .i64 pd, v20, v21, v22,
        .pointer (some ⟨gW, 0, none⟩), .slice (some ⟨bn, offn, none⟩) ns.length cn, .agg #[.slice (some ⟨bn, offn, none⟩) ns.length cn, vl], .int .i64 e, .int .i64 pe, v28, v29, v30,
        undef, undef, undef, undef, undef, undef, undef, undef, undef], defers := [] } ∧
      Below w.heap.size w v ∧ (∀ j ∈ [0, 1, 2, 3, 4, 5, 6, 7, 8, 9, 13, 14, 15, 16, 17], tk L j = true) ∧
      Aft L 10 (v20 = .int .i64 t) ∧ Aft L 11 (v21 = .pointer (some ⟨bn, offn + t * 2, none⟩)) ∧ Aft L 12 (v22 = .agg #[.int .i64 (ndI ns t).1, .int .i64 (ndI ns t).2]) ∧
      Aft L 18 (v28 = .int .i64 u) ∧ Aft L 19 (v29 = .pointer (some ⟨bn, offn + u * 2, none⟩)) ∧ Aft L 20 (v30 = .agg #[.int .i64 (ndI ns u).1, .int .i64 (ndI ns u).2]) ∧
      One L 21 24 w.heap.size 141 #[.int .i64 0, .int .i64 0] #[.int .i64 (ndI ns k).1, .int .i64 (ndI ns k).2] v7 v ∧
      One L 22 25 w.heap.size 141 #[.int .i64 0, .int .i64 0] #[.int .i64 (ndI ns t).1, .int .i64 (ndI ns t).2] v8 v ∧
      One L 23 26 w.heap.size 141 #[.int .i64 0, .int .i64 0] #[.int .i64 (ndI ns u).1, .int .i64 (ndI ns u).2] v9 v ∧
      Apart2 L 21 22 v7 v8 ∧ Apart2 L 21 23 v7 v9 ∧ Apart2 L 22 23 v8 v9) (by decide) (by kernel_rfl) (by kernel_rfl) ?_ ?_ 12 _ _ _ rfl ?_ (by kernel_rfl) ?_
  · intro L a v hI i hi hr
    obtain ⟨v7, v8, v9, v20, v21, v22, v28, v29, v30, rfl, hb, hpre, f10, f11, f12, f18, f19, f20, o7, o8, o9, p78, p79, p89⟩ := hI
    have hun := ready_un hr
    have hsv := HS.out v hb
    rcases (show i = 10 ∨ i = 11 ∨ i = 12 ∨ i = 18 ∨ i = 19 ∨ i = 20 ∨ i = 21 ∨ i = 22 ∨ i = 23 ∨ i = 24 ∨ i = 25 ∨ i ∈ [0, 1, 2, 3, 4, 5, 6, 7, 8, 9, 13, 14, 15, 16, 17] by simp only [List.mem_cons, List.mem_nil_iff, or_false]; omega) with rfl | rfl | rfl | rfl | rfl | rfl | rfl | rfl | rfl | rfl | rfl | hm
    · -- 10
      refine wp_step rfl (fun K hK => ?_)
      rw [if_pos (by rfl)]
      go_simp
      go_at_call 203
      refine (HC.out _ hb).mono ?_
      rintro en w1 ⟨rfl, hb1⟩
      go_wp2_with fail
      have hbw := hb.trans (hb1.mono hb.size)
      exact ⟨HS.out _ hbw, _, _, _, _, _, _, _, _, _, rfl, hbw, preS hpre, Aft.new rfl, f11.keep (by decide), f12.keep (by decide), f18.keep (by decide), f19.keep (by decide), f20.keep (by decide), o7.step (by decide) (by decide) hb1, o8.step (by decide) (by decide) hb1, o9.step (by decide) (by decide) hb1, p78.step (by decide) (by decide), p79.step (by decide) (by decide), p89.step (by decide) (by decide)⟩
    · -- 11
      obtain rfl := f10 (ready_tk hr rfl (by kernel_rfl))
      refine wp_step rfl (fun K hK => ?_)
      rw [if_pos (by rfl)]
      go_simp
      exact hK _ _ ⟨hsv, _, _, _, _, _, _, _, _, _, rfl, hb, preS hpre, f10.keep (by decide), Aft.new rfl, f12.keep (by decide), f18.keep (by decide), f19.keep (by decide), f20.keep (by decide), o7.step (by decide) (by decide) (Below.refl _ _), o8.step (by decide) (by decide) (Below.refl _ _), o9.step (by decide) (by decide) (Below.refl _ _), p78.step (by decide) (by decide), p79.step (by decide) (by decide), p89.step (by decide) (by decide)⟩
    · -- 12
      obtain rfl := f11 (ready_tk hr rfl (by kernel_rfl))
      obtain ⟨c0, c1⟩ := HT.out v hb
      refine wp_step rfl (fun K hK => ?_)
      rw [if_pos (by rfl)]
      go_simp
      exact hK _ _ ⟨hsv, _, _, _, _, _, _, _, _, _, rfl, hb, preS hpre, f10.keep (by decide), f11.keep (by decide), Aft.new rfl, f18.keep (by decide), f19.keep (by decide), f20.keep (by decide), o7.step (by decide) (by decide) (Below.refl _ _), o8.step (by decide) (by decide) (Below.refl _ _), o9.step (by decide) (by decide) (Below.refl _ _), p78.step (by decide) (by decide), p79.step (by decide) (by decide), p89.step (by decide) (by decide)⟩
    · -- 18
      refine wp_step rfl (fun K hK => ?_)
      rw [if_pos (by rfl)]
      go_simp
      go_at_call 203
      refine (HD.out _ hb).mono ?_
      rintro en w1 ⟨rfl, hb1⟩
      go_wp2_with fail
      have hbw := hb.trans (hb1.mono hb.size)
      exact ⟨HS.out _ hbw, _, _, _, _, _, _, _, _, _, rfl, hbw, preS hpre, f10.keep (by decide), f11.keep (by decide), f12.keep (by decide), Aft.new rfl, f19.keep (by decide), f20.keep (by decide), o7.step (by decide) (by decide) hb1, o8.step (by decide) (by decide) hb1, o9.step (by decide) (by decide) hb1, p78.step (by decide) (by decide), p79.step (by decide) (by decide), p89.step (by decide) (by decide)⟩
    · -- 19
      obtain rfl := f18 (ready_tk hr rfl (by kernel_rfl))
      refine wp_step rfl (fun K hK => ?_)
      rw [if_pos (by rfl)]
      go_simp
      exact hK _ _ ⟨hsv, _, _, _, _, _, _, _, _, _, rfl, hb, preS hpre, f10.keep (by decide), f11.keep (by decide), f12.keep (by decide), f18.keep (by decide), Aft.new rfl, f20.keep (by decide), o7.step (by decide) (by decide) (Below.refl _ _), o8.step (by decide) (by decide) (Below.refl _ _), o9.step (by decide) (by decide) (Below.refl _ _), p78.step (by decide) (by decide), p79.step (by decide) (by decide), p89.step (by decide) (by decide)⟩
    · -- 20
      obtain rfl := f19 (ready_tk hr rfl (by kernel_rfl))
      obtain ⟨c0, c1⟩ := HU.out v hb
      refine wp_step rfl (fun K hK => ?_)
      rw [if_pos (by rfl)]
      go_simp
      exact hK _ _ ⟨hsv, _, _, _, _, _, _, _, _, _, rfl, hb, preS hpre, f10.keep (by decide), f11.keep (by decide), f12.keep (by decide), f18.keep (by decide), f19.keep (by decide), Aft.new rfl, o7.step (by decide) (by decide) (Below.refl _ _), o8.step (by decide) (by decide) (Below.refl _ _), o9.step (by decide) (by decide) (Below.refl _ _), p78.step (by decide) (by decide), p79.step (by decide) (by decide), p89.step (by decide) (by decide)⟩
    · -- 21
      refine wp_step rfl (fun K hK => ?_)
      rw [if_pos (by rfl)]
      go_simp
      have hb1 : Below v.heap.size v (v.alloc (.cells #[.int .i64 0, .int .i64 0] 141)) := (Below.refl _ _).alloc (Nat.le_refl _) _
      have hbw := hb.trans (hb1.mono hb.size)
      exact hK _ _ ⟨HS.out _ hbw, _, _, _, _, _, _, _, _, _, rfl, hbw, preS hpre, f10.keep (by decide), f11.keep (by decide), f12.keep (by decide), f18.keep (by decide), f19.keep (by decide), f20.keep (by decide), o7.lay hun (by decide) hb.size, o8.step (by decide) (by decide) hb1, o9.step (by decide) (by decide) hb1, Apart2.newL o8 (by decide), Apart2.newL o9 (by decide), p89.step (by decide) (by decide)⟩
    · -- 22
      refine wp_step rfl (fun K hK => ?_)
      rw [if_pos (by rfl)]
      go_simp
      have hb1 : Below v.heap.size v (v.alloc (.cells #[.int .i64 0, .int .i64 0] 141)) := (Below.refl _ _).alloc (Nat.le_refl _) _
      have hbw := hb.trans (hb1.mono hb.size)
      exact hK _ _ ⟨HS.out _ hbw, _, _, _, _, _, _, _, _, _, rfl, hbw, preS hpre, f10.keep (by decide), f11.keep (by decide), f12.keep (by decide), f18.keep (by decide), f19.keep (by decide), f20.keep (by decide), o7.step (by decide) (by decide) hb1, o8.lay hun (by decide) hb.size, o9.step (by decide) (by decide) hb1, Apart2.newR o7 (by decide), p79.step (by decide) (by decide), Apart2.newL o9 (by decide)⟩
    · -- 23
      refine wp_step rfl (fun K hK => ?_)
      rw [if_pos (by rfl)]
      go_simp
      have hb1 : Below v.heap.size v (v.alloc (.cells #[.int .i64 0, .int .i64 0] 141)) := (Below.refl _ _).alloc (Nat.le_refl _) _
      have hbw := hb.trans (hb1.mono hb.size)
      exact hK _ _ ⟨HS.out _ hbw, _, _, _, _, _, _, _, _, _, rfl, hbw, preS hpre, f10.keep (by decide), f11.keep (by decide), f12.keep (by decide), f18.keep (by decide), f19.keep (by decide), f20.keep (by decide), o7.step (by decide) (by decide) hb1, o8.step (by decide) (by decide) hb1, o9.lay hun (by decide) hb.size, p78.step (by decide) (by decide), Apart2.newR o7 (by decide), Apart2.newR o8 (by decide)⟩
    · -- 24
      have h21 := ready_tk (j := 21) hr rfl (by kernel_rfl)
      obtain ⟨g, rfl, hg, hB⟩ := o7.zero h21 hun
      (have b_0 := hB.cell 0); (have b_1 := hB.cell 1); simp only [List.getElem?_toArray, List.getElem?_cons_succ, List.getElem?_cons_zero] at b_0 b_1; (have b_f0 := hB.frozen 0); (have b_f1 := hB.frozen 1)
      refine wp_step rfl (fun K hK => ?_)
      rw [if_pos (by rfl)]
      go_simp
      have hbw := (hb.setCell (p := ⟨g, 0, none⟩) hg (.int .i64 (ndI ns k).1)).setCell (p := ⟨g, 1, none⟩) hg (.int .i64 (ndI ns k).2)
      exact hK _ _ ⟨HS.out _ hbw, _, _, _, _, _, _, _, _, _, rfl, hbw, preS hpre, f10.keep (by decide), f11.keep (by decide), f12.keep (by decide), f18.keep (by decide), f19.keep (by decide), f20.keep (by decide), o7.fill h21 hun rfl (by decide), o8.far (by decide) (by decide) (fun h => (p78 h21 h).symm) 0 1 _ _, o9.far (by decide) (by decide) (fun h => (p79 h21 h).symm) 0 1 _ _, p78.step (by decide) (by decide), p79.step (by decide) (by decide), p89.step (by decide) (by decide)⟩
    · -- 25
      have h22 := ready_tk (j := 22) hr rfl (by kernel_rfl)
      obtain ⟨g, rfl, hg, hB⟩ := o8.zero h22 hun
      obtain rfl := f12 (ready_tk hr rfl (by kernel_rfl))
      (have b_0 := hB.cell 0); (have b_1 := hB.cell 1); simp only [List.getElem?_toArray, List.getElem?_cons_succ, List.getElem?_cons_zero] at b_0 b_1; (have b_f0 := hB.frozen 0); (have b_f1 := hB.frozen 1)
      refine wp_step rfl (fun K hK => ?_)
      rw [if_pos (by rfl)]
      go_simp
      have hbw := (hb.setCell (p := ⟨g, 0, none⟩) hg (.int .i64 (ndI ns t).1)).setCell (p := ⟨g, 1, none⟩) hg (.int .i64 (ndI ns t).2)
      exact hK _ _ ⟨HS.out _ hbw, _, _, _, _, _, _, _, _, _, rfl, hbw, preS hpre, f10.keep (by decide), f11.keep (by decide), f12.keep (by decide), f18.keep (by decide), f19.keep (by decide), f20.keep (by decide), o7.far (by decide) (by decide) (fun h => p78 h h22) 0 1 _ _, o8.fill h22 hun rfl (by decide), o9.far (by decide) (by decide) (fun h => (p89 h22 h).symm) 0 1 _ _, p78.step (by decide) (by decide), p79.step (by decide) (by decide), p89.step (by decide) (by decide)⟩
    · rw [hpre i hm] at hun; cases hun
  · intro a v hI
    obtain ⟨v7, v8, v9, v20, v21, v22, v28, v29, v30, rfl, hb, hpre, f10, f11, f12, f18, f19, f20, o7, o8, o9, p78, p79, p89⟩ := hI
    obtain rfl := f20 (by kernel_rfl)
    obtain ⟨g9, rfl, hg9, hB⟩ := o9.zero (by kernel_rfl) (by kernel_rfl)
    obtain ⟨g7, rfl, hg7, hB7⟩ := o7.full (by kernel_rfl)
    obtain ⟨g8, rfl, hg8, hB8⟩ := o8.full (by kernel_rfl)
    have n7 : g7 ≠ g9 := fun h => p79 (by kernel_rfl) (by kernel_rfl) (by rw [h])
    have n8 : g8 ≠ g9 := fun h => p89 (by kernel_rfl) (by kernel_rfl) (by rw [h])
    (have b_0 := hB.cell 0); (have b_1 := hB.cell 1); simp only [List.getElem?_toArray, List.getElem?_cons_succ, List.getElem?_cons_zero] at b_0 b_1; (have b_f0 := hB.frozen 0); (have b_f1 := hB.frozen 1)
    refine E_step (fuel := 0) (n := 26) (i := 26) rfl (by kernel_rfl) (fun K hK => ?_)
    rw [if_pos (by rfl)]
    go_simp
    refine hK _ _ (fun h => absurd h (by decide)) (fun _ => ?_)
    clear hK K
    refine E_done (by kernel_rfl) ?_ _
    have hbw := (hb.setCell (p := ⟨g9, 0, none⟩) hg9 (.int .i64 (ndI ns u).1)).setCell (p := ⟨g9, 1, none⟩) hg9 (.int .i64 (ndI ns u).2)
    have hB9 : Blk ((v.setCell ⟨g9, 0, none⟩ (.int .i64 (ndI ns u).1)).setCell ⟨g9, 1, none⟩ (.int .i64 (ndI ns u).2)) g9 141 #[.int .i64 (ndI ns u).1, .int .i64 (ndI ns u).2] := by
      have := (hB.set_ 0 (.int .i64 (ndI ns u).1)).set_ 1 (.int .i64 (ndI ns u).2)
      simpa using this
    have hB7' := (hB7.far (p := ⟨g9, 0, none⟩) n7 (.int .i64 (ndI ns u).1)).far (p := ⟨g9, 1, none⟩) n7 (.int .i64 (ndI ns u).2)
    have hB8' := (hB8.far (p := ⟨g9, 0, none⟩) n8 (.int .i64 (ndI ns u).1)).far (p := ⟨g9, 1, none⟩) n8 (.int .i64 (ndI ns u).2)
    generalize ((v.setCell ⟨g9, 0, none⟩ (.int .i64 (ndI ns u).1)).setCell ⟨g9, 1, none⟩ (.int .i64 (ndI ns u).2)) = w3 at *
    clear hB hB7 hB8 b_0 b_1 b_f0 b_f1 hb o7 o8 o9 p78 p79 p89 f10 f11 f12 f18 f19 f20 hpre
    (have b_0 := hB7'.cell 0); (have b_1 := hB7'.cell 1); simp only [List.getElem?_toArray, List.getElem?_cons_succ, List.getElem?_cons_zero] at b_0 b_1; (have b_f0 := hB7'.frozen 0); (have b_f1 := hB7'.frozen 1)
    (have c_0 := hB8'.cell 0); (have c_1 := hB8'.cell 1); simp only [List.getElem?_toArray, List.getElem?_cons_succ, List.getElem?_cons_zero] at c_0 c_1; (have c_f0 := hB8'.frozen 0); (have c_f1 := hB8'.frozen 1)
    (have f_0 := hB9.cell 0); (have f_1 := hB9.cell 1); simp only [List.getElem?_toArray, List.getElem?_cons_succ, List.getElem?_cons_zero] at f_0 f_1; (have f_f0 := hB9.frozen 0); (have f_f1 := hB9.frozen 1)
    by_cases hde : d = e
    · have e1 : ((d : Int) == (e : Int)) = true := by simp [hde]
      have HR : Hid (cmpD ns ls k d e = 0) := Lib.hid (by simp [cmpD, hde])
      go_wp2
      go_ret
      exact ⟨ret_int HR.out.symm, hbw⟩
    · have e1 : ((d : Int) == (e : Int)) = false := by simp; omega
      obtain ⟨x, hx⟩ : ∃ x, befB (ndI ns k).1 (ndI ns k).2 (ndI ns t).1 (ndI ns t).2 (ndI ns u).1 (ndI ns u).2 = x := ⟨_, rfl⟩
      have HR : Hid (cmpD ns ls k d e = if x then -1 else 1) := Lib.hid (by
        unfold cmpD bfD
        rw [if_neg hde, ht, hu, hx])
      go_wp2_with fail
      refine (iBefore_at (ndI ns k) (ndI ns t) (ndI ns u) x _ hx).mono ?_
      rintro en w4 ⟨rfl, hb4⟩
      have hbw4 := hbw.trans (hb4.mono hbw.size)
      cases x
      · go_wp2
        go_ret
        exact ⟨ret_int HR.out.symm, hbw4⟩
      · go_wp2
        go_ret
        exact ⟨ret_int HR.out.symm, hbw4⟩
  · intro j h1 h2
    have : j = 26 := by
      have h3 : j < 27 := h2
      omega
    subst this
    rfl
  · refine ⟨_, _, _, _, _, _, _, _, _, rfl, (Below.refl _ _).drew, by decide, Aft.no rfl, Aft.no rfl, Aft.no rfl, Aft.no rfl, Aft.no rfl, Aft.no rfl, One.start rfl rfl, One.start rfl rfl, One.start rfl rfl, Apart2.start rfl, Apart2.start rfl, Apart2.start rfl⟩

end Go.Proofs.YtoknmjpnelbplaaGreat

namespace Go.Proofs.YtoknmjpnelbplaaGreat
open Go.RowKit

set_option maxHeartbeats 2000000 in
set_option maxRecDepth 100000 in
theorem insSort_nil (f : Nat) (lb : Array Value) (w : World) :
    Calls Tryz.prog 236 #[.slice none 0 0, .int .i64 0, .int .i64 0, .func (.func f) #[] lb] w
      fun e w' => e = .returned (.tuple #[]) ∧ Below w.heap.size w w' := by
  go_enter Tryz.func236, Tryz.ntmps236
  go_wp2
  refine wp_loop_rounds 1 ?_
  rw [rounds_succ]
  go_wp2
  go_end0
  exact ⟨rfl, by (repeat' (first | (with_reducible exact Below.refl _ _) | (with_reducible assumption) | (with_reducible refine Below.drew ?_) | (with_reducible refine below_drewN ?_ _) | (with_reducible refine Below.alloc ?_ ?_ _) | (with_reducible refine Below.setCell ?_ ?_ _) | (with_reducible refine Below.step (by assumption) ?_ ?_))); all_goals (first | omega | (simp; done) | (simp; omega))⟩

set_option maxHeartbeats 4000000 in
set_option maxRecDepth 100000 in
theorem pdq_any (base f g cap : Nat) (k : Int) (lb : Array Value) (G : List Nat) (c : Nat → Nat → Int) (lt : Nat → Nat → Bool) (w : World) (hc : CmpAt f lb G c (some g) w) (hlt : ∀ d e, decide (c d e < 0) = lt d e)
    (ho : OwnI base w (.slice (some ⟨g, 0, none⟩) G.length cap) (natI G)) (h12 : G.length ≤ 12) (ef : Enters Tryz.prog f) :
    Calls Tryz.prog 247 #[.slice (some ⟨g, 0, none⟩) G.length cap, .int .i64 0, .int .i64 G.length, .int .i64 k, .func (.func f) #[] lb] w
      fun e w' => e = .returned (.tuple #[]) ∧ OwnI base w' (.slice (some ⟨g, 0, none⟩) G.length cap) (natI (isoK lt G G.length)) ∧ w.grownBy w' (some g) := by
  have h1 : (G.length : Int) ≤ 12 := by omega
  go_enter Tryz.func247, Tryz.ntmps247
  go_wp2
  refine wp_loop_rounds 1 ?_
  rw [rounds_succ]
  go_wp2_with fail
  refine (insSort_any base f g cap lb G c lt _ hc hlt ho h12 ef).mono ?_
  rintro e w1 ⟨rfl, ho1, hg1⟩
  go_wp2
  exact bodyPost_ret (v := .tuple #[]) (by simp [results, Tryz.results247, go_sem]) rfl ⟨rfl, ho1, hg1⟩

set_option maxHeartbeats 2000000 in
set_option maxRecDepth 100000 in
theorem sortF_any (base f g cap : Nat) (lb : Array Value) (G : List Nat) (c : Nat → Nat → Int) (lt : Nat → Nat → Bool) (w : World) (hc : CmpAt f lb G c (some g) w) (hlt : ∀ d e, decide (c d e < 0) = lt d e)
    (ho : OwnI base w (.slice (some ⟨g, 0, none⟩) G.length cap) (natI G)) (h12 : G.length ≤ 12) (ef : Enters Tryz.prog f) :
    Calls Tryz.prog 242 #[.slice (some ⟨g, 0, none⟩) G.length cap, .func (.func f) #[] lb] w
      fun e w' => e = .returned (.tuple #[]) ∧ OwnI base w' (.slice (some ⟨g, 0, none⟩) G.length cap) (natI (isoK lt G G.length)) ∧ w.grownBy w' (some g) := by
  have h0 : (0 : Int) ≤ (G.length : Int) := by omega
  have h1 : (G.length : Int) ≤ 12 := by omega
  go_enter Tryz.func242, Tryz.ntmps242
  go_wp2_with (go_at_call 248; refine (len_any _ _ h0 h1).mono ?_; rintro e w' ⟨⟨k, rfl⟩, rfl⟩)
  refine (pdq_any base f g cap _ lb G c lt _ hc hlt ho h12 ef).mono ?_
  rintro e w1 ⟨rfl, ho1, hg1⟩
  go_wp2
  go_end0
  exact ⟨rfl, ho1, hg1⟩

set_option maxHeartbeats 2000000 in
set_option maxRecDepth 100000 in
theorem pdq_nil (f : Nat) (k : Int) (lb : Array Value) (w : World) :
    Calls Tryz.prog 247 #[.slice none 0 0, .int .i64 0, .int .i64 0, .int .i64 k, .func (.func f) #[] lb] w
      fun e w' => e = .returned (.tuple #[]) ∧ Below w.heap.size w w' := by
  go_enter Tryz.func247, Tryz.ntmps247
  go_wp2
  refine wp_loop_rounds 1 ?_
  rw [rounds_succ]
  go_wp2_with fail
  refine (insSort_nil f lb _).mono ?_
  rintro e w1 ⟨rfl, hb1⟩
  go_wp2
  exact bodyPost_ret (v := .tuple #[]) (by simp [results, Tryz.results247, go_sem]) rfl ⟨rfl, hb1⟩

set_option maxHeartbeats 2000000 in
set_option maxRecDepth 100000 in
theorem sortF_nil (f : Nat) (lb : Array Value) (w : World) :
    Calls Tryz.prog 242 #[.slice none 0 0, .func (.func f) #[] lb] w
      fun e w' => e = .returned (.tuple #[]) ∧ Below w.heap.size w w' := by
  go_enter Tryz.func242, Tryz.ntmps242
  go_wp2_with (go_at_call 248; refine (len_any 0 _ (by omega) (by omega)).mono ?_; rintro e w' ⟨⟨k, rfl⟩, rfl⟩)
  refine (pdq_nil f _ lb _).mono ?_
  rintro e w1 ⟨rfl, hb1⟩
  go_wp2
  go_end0
  exact ⟨rfl, hb1⟩

theorem frD_len (ls : List Pr) (k : Nat) : ∀ d, (frD ls k d).length ≤ d
  | 0 => by simp [frD]
  | d + 1 => by
    have := frD_len ls k d
    unfold frD
    split <;> simp <;> omega

set_option maxHeartbeats 4000000 in
set_option maxRecDepth 100000 in
theorem iAround_any (vn vl : Value) (ns ls : List Pr) (k : Nat) (w : World) (hn : RP w vn ns) (hl : RP w vl ls) (hk : k < ns.length) (hwin : WinOk ns ls) :
    Calls Tryz.prog 239 #[.agg #[vn, vl], .int .i64 k] w (RetI (natI (ardS ns ls k (2 * ls.length))) w) := by
  have hm20 := hwin.2.2.1
  obtain ⟨Al, cl, rfl, hcl, hml, _⟩ := hl.formI
  unfold maxLen at hml
  obtain ⟨i0, hi, iz0, iz1, iz2⟩ := info_parts infoInt
  go_enter Tryz.func239, Tryz.ntmps239
  go_wp2
  go_loopw [5, 6] (fun v i wr => ∃ d : Nat, d ≤ 2 * ls.length ∧ i = .int .i64 d ∧ OwnI (w.heap.size + 1 + 1) wr v (natI (frD ls k d)) ∧ Blk wr w.heap.size 38 #[vn, .slice Al ls.length cl] ∧ Blk wr (w.heap.size + 1) 3 #[.int .i64 k] ∧ Below w.heap.size w wr) (fun _ i _ => 2 * ls.length - (intOf i).toNat)
  case atStart => exact ⟨0, Nat.zero_le _, rfl, OwnI.nil _ _, (Blk.newAt rfl).alloc _, Blk.newAt (by simp), by (repeat' (first | (with_reducible exact Below.refl _ _) | (with_reducible assumption) | (with_reducible refine Below.drew ?_) | (with_reducible refine below_drewN ?_ _) | (with_reducible refine Below.alloc ?_ ?_ _) | (with_reducible refine Below.setCell ?_ ?_ _) | (with_reducible refine Below.step (by assumption) ?_ ?_))); all_goals (first | omega | (simp; done) | (simp; omega))⟩
  case round =>
    obtain ⟨d, hd, rfl, ho, hW, hK, hbl⟩ := hrel
    have hsz := hW.lt
    have hsk := hK.lt
    by_cases hlt : d < 2 * ls.length
    · have hlt1 : (d : Int) < 2 * (ls.length : Int) := by omega
      have hlr : RP wr (.slice Al ls.length cl) ls := hl.below hbl
      have kk := hK.cell 0
      simp only [List.getElem?_toArray, List.getElem?_cons_zero] at kk
      (have a_0 := hW.cell 0); (have a_1 := hW.cell 1); simp only [List.getElem?_toArray, List.getElem?_cons_succ, List.getElem?_cons_zero] at a_0 a_1
      have HX : Hid (((dFrom ls d) == (k : Int)) = decide (dFrom ls d = k)) := Lib.hid rfl
      go_wp2_with fail
      (refine wp_region_quietG (by kernel_rfl) (by kernel_rfl) (fun hG => ?_))
      repeat (go_big_quiet_step ((go_at_call 203; exact quietG (iFrom_any _ _ ls d _ (RS.grw _ hlr) hlt))))
      (refine wpQuiet_nil ?_); (clear hG); (rintro w3 ⟨⟨_, hb3⟩, rfl⟩); (try dsimp only); (first | (with_reducible have hcf3 := bcell_drew hb3) | have hcf3 := bcell hb3); obtain ⟨hc3, hf3⟩ := hcf3; have hz3 := hb3.size; (try simp at hz3); (try have hp3_0 : w.heap.size < w3.heap.size := by omega); (try have hp3_1 : w.heap.size + 1 < w3.heap.size := by omega); (try have hp3_2 : w.heap.size + 1 + 1 < w3.heap.size := by omega); (try have hp3_3 : w.heap.size + 1 + 1 + 1 < w3.heap.size := by omega)
      have hbl3 : Below w.heap.size w w3 := hbl.trans (hb3.mono hbl.size)
      have ho3 := ho.kept hb3
      have hW3 := hW.below hb3 hsz
      have hK3 := hK.below hb3 hsk
      clear hb3 hc3 hf3 hlr ho hW hK hbl a_0 a_1 kk
      by_cases hfr : dFrom ls d = k
      · have e1 : (dFrom ls d == (k : Int)) = true := by simp [hfr]
        have HS : Hid (natI (frD ls k (d + 1)) = natI (frD ls k d) ++ [(d : Int)]) := Lib.hid (by rw [frD_yes hfr]; simp [natI])
        have hle := frD_len ls k d
        have HGL := Lib.hid (natI_length (frD ls k d))
        generalize frD ls k d = G at *
        have hG : G.length ≤ 40 := by omega
        clear hle HX
        go_wp2_with (at_builtin; refine wpList_append_own _ rfl _ _ 29 rfl (w.heap.size + 1 + 1) 3 i0 (.int .i64 0) 1 8 Tryz.underlying29 hi iz0 iz1 iz2 rfl (by decide) _ _ _ rfl (World.ownsRow.alloc ho3 _) ⟨w3.heap.size, 0, none⟩ 1 1 [.int .i64 _] rfl rfl (cell_one_new _ _ _) (by intro u hu; simp at hu; subst hu; rfl) (by rw [HGL.out]; unfold maxLen; omega) (by rw [HGL.out]; omega) (by simp; omega) ?_)
        intro v2 w2 hown2 hg2 hne2
        have hbl2 : Below w.heap.size w w2 := (hbl3.alloc hbl3.size (.cells #[.int .i64 (d : Int)] 3)).grown hg2 (by simp; have := hbl3.size; omega) (fun k hk => by have := (ho3.lt k hk).1; omega)
        have hW2 : Blk w2 w.heap.size 38 #[vn, .slice Al ls.length cl] := (hg2.block _ (by simp; omega) (fun e => by have := (ho3.lt _ e.symm).1; omega)).trans (hW3.alloc _)
        have hK2 : Blk w2 (w.heap.size + 1) 3 #[.int .i64 k] := (hg2.block _ (by simp; omega) (fun e => by have := (ho3.lt _ e.symm).1; omega)).trans (hK3.alloc _)
        have HO := Lib.hid (OwnI.snoc hown2)
        clear hown2 hg2 ho3 hW3 hK3 hbl3 hne2 hfr
        go_wp2
        go_roundw
        case rel => exact ⟨d + 1, by omega, by go_num, by rw [HS.out]; exact HO.out, hW2, hK2, hbl2⟩
        case measure => simp [intOf]; omega
      · have e1 : (dFrom ls d == (k : Int)) = false := by simp [hfr]
        have HS : Hid (frD ls k (d + 1) = frD ls k d) := Lib.hid (frD_no hfr)
        clear hfr HX
        go_wp2
        go_roundw
        case rel => exact ⟨d + 1, by omega, by go_num, by rw [HS.out]; exact ho3, hW3, hK3, hbl3⟩
        case measure => simp [intOf]; omega
    · have hdd : d = 2 * ls.length := by omega
      subst hdd
      (have a_0 := hW.cell 0); (have a_1 := hW.cell 1); simp only [List.getElem?_toArray, List.getElem?_cons_succ, List.getElem?_cons_zero] at a_0 a_1
      have hAS := iso_ard ns ls k (2 * ls.length)
      have h12 := frD_le hwin k
      have hmem := frD_lt ls k (2 * ls.length)
      generalize frD ls k (2 * ls.length) = G at *
      rcases hcase : ho.2 with ⟨rfl, e1⟩ | ⟨gb, cap, cur, rfl, hbg, hh, hrest⟩
      · have hG0 : G = [] := by rw [natI_length] at e1; exact List.eq_nil_of_length_eq_zero e1
        have HR : Hid (ardS ns ls k (2 * ls.length) = []) := Lib.hid (by rw [← hAS, hG0]; rfl)
        clear hcase hAS hmem e1 ho
        go_wp2_with fail
        refine (sortF_nil _ _ _).mono ?_
        rintro e w4 ⟨rfl, hb4⟩
        go_wp2
        go_ret
        exact ⟨_, rfl, by rw [HR.out]; exact OwnI.nil _ _, hbl.trans (hb4.mono hbl.size)⟩
      · have hgz := (ho.lt gb rfl).2
        have hgl := natI_length G
        rw [hgl] at ho ⊢
        have hc : CmpAt 243 #[.pointer (some ⟨w.heap.size, 0, none⟩), .pointer (some ⟨w.heap.size + 1, 0, none⟩)] G (cmpD ns ls k) (some gb) wr := by
          intro v d e hd he hgv
          have hbv : Below w.heap.size w v := hbl.grown hgv hbl.size (fun k hk => by cases hk; omega)
          have hWv := hW.grown hgv (by omega)
          have hKv := hK.grown hgv (by omega)
          have kk := hKv.cell 0
          simp only [List.getElem?_toArray, List.getElem?_cons_zero] at kk
          exact cmp_any w.heap.size (w.heap.size + 1) vn (.slice Al ls.length cl) ns ls k d e v hWv kk hKv.lt (hn.below hbv) (hl.below hbv) hk (hmem d hd).1 (hmem e he).1 hwin
        have HC := Lib.hid hc
        have HO := Lib.hid ho
        have HAS := Lib.hid hAS
        clear hc ho hcase hh hrest hgl hmem hAS
        go_wp2_with fail
        refine (sortF_any (w.heap.size + 1 + 1) _ gb cap _ G (cmpD ns ls k) (bfD ns ls k) _ HC.out (cmpD_lt ns ls k) HO.out h12 (enters_of Tryz.func243 (by kernel_rfl) rfl)).mono ?_
        rintro e w4 ⟨rfl, ho4, hg4⟩
        rw [HAS.out] at ho4
        go_wp2
        go_ret
        exact ⟨_, rfl, ho4.mono (by omega), hbl.grown hg4 hbl.size (fun k hk => by cases hk; omega)⟩

end Go.Proofs.YtoknmjpnelbplaaGreat

namespace Go.Proofs.YtoknmjpnelbplaaGreat

def seenB (F : List (List Nat)) (d : Nat) : Bool := F.any (·.contains d)

/-- The faces of the first m darts. -/
def facesK (ns ls : List Pr) : Nat → List (List Nat)
  | 0 => []
  | m + 1 => if seenB (facesK ns ls m) m then facesK ns ls m else facesK ns ls m ++ [walkD ns ls m]

theorem facesK_yes {ns ls : List Pr} {m : Nat} (h : seenB (facesK ns ls m) m = true) : facesK ns ls (m + 1) = facesK ns ls m := by simp [facesK, h]
theorem facesK_no {ns ls : List Pr} {m : Nat} (h : seenB (facesK ns ls m) m = false) : facesK ns ls (m + 1) = facesK ns ls m ++ [walkD ns ls m] := by simp [facesK, h]

def facesD (ns ls : List Pr) : List (List Nat) := facesK ns ls (2 * ls.length)

theorem facesK_len (ns ls : List Pr) : ∀ m, (facesK ns ls m).length ≤ m
  | 0 => by simp [facesK]
  | m + 1 => by
    have := facesK_len ns ls m
    cases h : seenB (facesK ns ls m) m
    · rw [facesK_no h]; simp; omega
    · rw [facesK_yes h]; omega

theorem walk_bd {ns ls : List Pr} (hld : ∀ j : Nat, j < ls.length → leadB ns (ndI ls j) = true) {d : Nat} (hd : d < 2 * ls.length) : ∀ e ∈ walkD ns ls d, e < 2 * ls.length := by
  intro e he
  unfold walkD walkK at he
  rw [List.mem_map] at he
  obtain ⟨i, _, rfl⟩ := he
  exact orb_lt hld hd i

theorem walk_len {ns ls : List Pr} (hld : ∀ j : Nat, j < ls.length → leadB ns (ndI ls j) = true) {d : Nat} (hd : d < 2 * ls.length) : 0 < (walkD ns ls d).length ∧ (walkD ns ls d).length ≤ 2 * ls.length := by
  unfold walkD
  rw [walkK_length]
  have := per_spec hld hd
  exact ⟨this.1, this.2.1⟩

theorem facesK_bd {ns ls : List Pr} (hld : ∀ j : Nat, j < ls.length → leadB ns (ndI ls j) = true) : ∀ m, m ≤ 2 * ls.length → ∀ f ∈ facesK ns ls m, (∀ e ∈ f, e < 2 * ls.length) ∧ 0 < f.length ∧ f.length ≤ 2 * ls.length
  | 0, _, f, hf => by simp [facesK] at hf
  | m + 1, hm, f, hf => by
    cases h : seenB (facesK ns ls m) m
    · rw [facesK_no h, List.mem_append, List.mem_singleton] at hf
      rcases hf with hf | rfl
      · exact facesK_bd hld m (by omega) f hf
      · exact ⟨walk_bd hld (by omega), walk_len hld (by omega)⟩
    · rw [facesK_yes h] at hf; exact facesK_bd hld m (by omega) f hf

/-- What a dart adds to twice an area. -/
def crossD (ns ls : List Pr) (d : Nat) : Int := (ndI ns (dFrom ls d)).1 * (ndI ns (dTo ls d)).2 - (ndI ns (dFrom ls d)).2 * (ndI ns (dTo ls d)).1
/-- Over the first k darts of a list. -/
def areaK (ns ls : List Pr) (f : List Nat) : Nat → Int
  | 0 => 0
  | k + 1 => areaK ns ls f k + crossD ns ls (f.getD k 0)
def areaF (ns ls : List Pr) (f : List Nat) : Int := areaK ns ls f f.length

theorem cross_bd {ns ls : List Pr} (h : WinOk ns ls) {d : Nat} (hd : d < 2 * ls.length) : -400 ≤ crossD ns ls d ∧ crossD ns ls d ≤ 400 := by
  have hld : ∀ j : Nat, j < ls.length → leadB ns (ndI ls j) = true := fun j hj => (h.2.2.2.2.2 j hj).1
  obtain ⟨t, ht, htn⟩ := dTo_nat hld hd
  obtain ⟨u, hu, hun⟩ := dFrom_nat hld hd
  unfold crossD
  rw [ht, hu]
  obtain ⟨a0, a1, a2, a3⟩ := nodeB_bd (nodesB_at h.2.2.2.1 t htn)
  obtain ⟨b0, b1, b2, b3⟩ := nodeB_bd (nodesB_at h.2.2.2.1 u hun)
  generalize (ndI ns (t : Int)).1 = x at *
  generalize (ndI ns (t : Int)).2 = y at *
  generalize (ndI ns (u : Int)).1 = p at *
  generalize (ndI ns (u : Int)).2 = q at *
  have m1 : p * y ≤ 20 * 20 := Int.mul_le_mul b1 a3 a2 (by omega)
  have m2 : q * x ≤ 20 * 20 := Int.mul_le_mul b3 a1 a0 (by omega)
  have m3 : 0 ≤ p * y := Int.mul_nonneg b0 a2
  have m4 : 0 ≤ q * x := Int.mul_nonneg b2 a0
  omega

theorem areaK_bd {ns ls : List Pr} (h : WinOk ns ls) {f : List Nat} (hf : ∀ e ∈ f, e < 2 * ls.length) : ∀ k, k ≤ f.length → -(400 * k : Int) ≤ areaK ns ls f k ∧ areaK ns ls f k ≤ 400 * k
  | 0, _ => by simp [areaK]
  | k + 1, hk => by
    have ih := areaK_bd h hf k (by omega)
    have hm : f.getD k 0 ∈ f := by rw [List.getD, List.getElem?_eq_getElem (by omega)]; exact List.getElem_mem _
    have hc := cross_bd h (hf _ hm)
    have e : areaK ns ls f (k + 1) = areaK ns ls f k + crossD ns ls (f.getD k 0) := rfl
    omega

/-- The first face from the k-th on whose area is not above 0, or -1. -/
def outerK (ns ls : List Pr) (F : List (List Nat)) : Nat → Nat → Int
  | 0, _ => -1
  | m + 1, k => if areaF ns ls (F.getD k []) ≤ 0 then (k : Int) else outerK ns ls F m (k + 1)
def outerF (ns ls : List Pr) (F : List (List Nat)) : Int := outerK ns ls F F.length 0

end Go.Proofs.YtoknmjpnelbplaaGreat

namespace Go.Proofs.YtoknmjpnelbplaaGreat

theorem orb_add (ns ls : List Pr) (d i : Nat) : ∀ j, orbD ns ls d (i + j) = orbD ns ls (orbD ns ls d i) j
  | 0 => rfl
  | j + 1 => by show nextD ns ls (orbD ns ls d (i + j)) = _; rw [orb_add ns ls d i j]; rfl

theorem orb_mul {ns ls : List Pr} {d p : Nat} (h : orbD ns ls d p = d) : ∀ q, orbD ns ls d (p * q) = d
  | 0 => rfl
  | q + 1 => by rw [Nat.mul_succ, orb_add, orb_mul h q, h]

section
variable {ns ls : List Pr} (hld : ∀ j : Nat, j < ls.length → leadB ns (ndI ls j) = true)
include hld

theorem walk_mem {d : Nat} (hd : d < 2 * ls.length) (e : Nat) : e ∈ walkD ns ls d ↔ ∃ i, orbD ns ls d i = e := by
  obtain ⟨h1, _, h3, _⟩ := per_spec hld hd
  unfold walkD walkK
  rw [List.mem_map]
  constructor
  · rintro ⟨i, _, h⟩; exact ⟨i, h⟩
  · rintro ⟨i, rfl⟩
    refine ⟨i % perD ns ls d, List.mem_range.2 (Nat.mod_lt _ h1), ?_⟩
    have e : orbD ns ls d (perD ns ls d * (i / perD ns ls d) + i % perD ns ls d) = orbD ns ls d (i % perD ns ls d) := by rw [orb_add, orb_mul h3]
    rw [← e, Nat.div_add_mod]

theorem walk_self {d : Nat} (hd : d < 2 * ls.length) : d ∈ walkD ns ls d := (walk_mem hld hd d).2 ⟨0, rfl⟩

theorem walk_nodup {d : Nat} (hd : d < 2 * ls.length) : (walkD ns ls d).Nodup := by
  obtain ⟨_, _, _, h4⟩ := per_spec hld hd
  unfold walkD walkK
  rw [List.nodup_iff_pairwise_ne, List.pairwise_map]
  refine List.Pairwise.imp_of_mem (R := fun a b => a < b) (fun {a b} ha hb hlt he => ?_) (List.pairwise_lt_range)
  have hb' := List.mem_range.1 hb
  have := orb_back hld hd a (b - a) (by rw [he, show a + (b - a) = b by omega])
  exact h4 (b - a) (by omega) (by omega) this

theorem walk_back {d e : Nat} (hd : d < 2 * ls.length) (h : e ∈ walkD ns ls d) : d ∈ walkD ns ls e := by
  have he := walk_bd hld hd e h
  obtain ⟨_, _, h3, _⟩ := per_spec hld hd
  unfold walkD walkK at h
  rw [List.mem_map] at h
  obtain ⟨i, hi, rfl⟩ := h
  have hi' := List.mem_range.1 hi
  refine (walk_mem hld he d).2 ⟨perD ns ls d - i, ?_⟩
  rw [← orb_add, show i + (perD ns ls d - i) = perD ns ls d by omega, h3]

theorem walk_trans {d e x : Nat} (hd : d < 2 * ls.length) (h : e ∈ walkD ns ls d) (h2 : x ∈ walkD ns ls e) : x ∈ walkD ns ls d := by
  obtain ⟨i, hi⟩ := (walk_mem hld hd e).1 h
  obtain ⟨j, hj⟩ := (walk_mem hld (walk_bd hld hd e h) x).1 h2
  exact (walk_mem hld hd x).2 ⟨i + j, by rw [orb_add, hi, hj]⟩

/-- The faces so far: all darts so far are in them, none twice, and each is a walk. -/
theorem facesK_all : ∀ m, m ≤ 2 * ls.length → (∀ d, d < m → d ∈ (facesK ns ls m).flatten) ∧ (facesK ns ls m).flatten.Nodup ∧ (∀ f ∈ facesK ns ls m, ∃ d, d < 2 * ls.length ∧ f = walkD ns ls d)
  | 0, _ => ⟨fun d h => absurd h (by omega), by simp [facesK], by simp [facesK]⟩
  | m + 1, hm => by
    obtain ⟨h1, h2, h3⟩ := facesK_all m (by omega)
    cases h : seenB (facesK ns ls m) m
    · rw [facesK_no h]
      have hnm : m ∉ (facesK ns ls m).flatten := by
        intro hc
        rw [List.mem_flatten] at hc
        obtain ⟨f, hf, hmf⟩ := hc
        have : seenB (facesK ns ls m) m = true := by
          unfold seenB
          rw [List.any_eq_true]
          exact ⟨f, hf, by simpa using hmf⟩
        rw [h] at this; cases this
      refine ⟨fun d hd => ?_, ?_, fun f hf => ?_⟩
      · rw [List.flatten_append, List.mem_append]
        by_cases he : d = m
        · subst he; right; simpa using walk_self hld (show d < 2 * ls.length by omega)
        · exact .inl (h1 d (by omega))
      · rw [List.flatten_append, List.nodup_append]
        refine ⟨h2, by simpa using walk_nodup hld (show m < 2 * ls.length by omega), fun x hx y hy => ?_⟩
        rintro rfl
        have hy' : x ∈ walkD ns ls m := by simpa using hy
        rw [List.mem_flatten] at hx
        obtain ⟨f, hf, hxf⟩ := hx
        obtain ⟨d, hd, rfl⟩ := h3 f hf
        apply hnm
        rw [List.mem_flatten]
        exact ⟨_, hf, walk_trans hld hd hxf (walk_back hld (by omega) hy')⟩
      · rw [List.mem_append, List.mem_singleton] at hf
        rcases hf with hf | rfl
        · exact h3 f hf
        · exact ⟨m, by omega, rfl⟩
    · rw [facesK_yes h]
      refine ⟨fun d hd => ?_, h2, h3⟩
      by_cases he : d = m
      · subst he
        unfold seenB at h
        rw [List.any_eq_true] at h
        obtain ⟨f, hf, hm'⟩ := h
        rw [List.mem_flatten]
        exact ⟨f, hf, by simpa using hm'⟩
      · exact h1 d (by omega)

end

end Go.Proofs.YtoknmjpnelbplaaGreat

namespace Go.Proofs.YtoknmjpnelbplaaGreat
open Go.RowKit

/-- The place of a number, or -1. -/
def idxN (l : List Nat) (d : Nat) : Int := if d ∈ l then (l.idxOf d : Int) else -1

theorem idxN_no {l : List Nat} {d : Nat} (h : d ∉ l) : idxN l d = -1 := by simp [idxN, h]

theorem idxN_at {l : List Nat} {d k : Nat} (hk : k < l.length) (h : d ∉ l.take k) (hp : l.getD k 0 = d) : idxN l d = k := by
  have hp' : l[k] = d := by simpa [List.getD, hk] using hp
  have e : l = l.take k ++ d :: l.drop (k + 1) := by
    rw [← hp', ← List.drop_eq_getElem_cons hk, List.take_append_drop]
  have hm : d ∈ l := by rw [e]; simp
  unfold idxN
  rw [if_pos hm]
  have : l.idxOf d = k := by
    rw [e, List.idxOf_append, if_neg h, List.idxOf_cons_self]
    simp; omega
  rw [this]

theorem natI_get (l : List Nat) (k : Nat) : (natI l).getD k 0 = ((l.getD k 0 : Nat) : Int) := by
  unfold natI
  simp only [List.getD, List.getElem?_map]
  cases l[k]? <;> rfl

theorem not_take_succ {l : List Nat} {d k : Nat} (hk : k < l.length) (h : d ∉ l.take k) (hne : l.getD k 0 ≠ d) : d ∉ l.take (k + 1) := by
  rw [List.take_succ_eq_append_getElem hk, List.mem_append, List.mem_singleton]
  rintro (h2 | h2)
  · exact h h2
  · apply hne
    rw [h2]
    simp [List.getD, hk]

set_option maxHeartbeats 2000000 in
set_option maxRecDepth 100000 in
theorem indexInt_any (v : Value) (l : List Nat) (d : Nat) (w : World) (h : RI w v (natI l)) :
    Calls Tryz.prog 161 #[v, .int .i64 d] w fun e w' => e = .returned (.int .i64 (idxN l d)) ∧ w = w' := by
  obtain ⟨A, c, rfl, hc, hm, hcell⟩ := h.form
  rw [natI_length] at hc hm hcell ⊢
  unfold maxLen at hm
  clear h
  go_enter Tryz.func161, Tryz.ntmps161
  go_wp2
  go_loop [8] (fun i => ∃ k : Nat, k ≤ l.length ∧ i = .int .i64 k ∧ Hid (d ∉ l.take k)) (fun i => l.length - (intOf i).toNat)
  case atStart => exact ⟨0, Nat.zero_le _, rfl, Lib.hid (by simp)⟩
  case round =>
    obtain ⟨k, hk, rfl, HT⟩ := hrel
    by_cases hlt : k < l.length
    · obtain ⟨b, off, rfl, hb, hcl⟩ := hcell (by omega)
      have hck := hcl k hlt
      rw [natI_get] at hck
      clear hcl hcell
      have HS := Lib.hid (fun hne => not_take_succ hlt HT.out hne)
      have HY := Lib.hid (fun he => idxN_at hlt HT.out he)
      generalize l.getD k 0 = x at *
      by_cases he : x = d
      · have e1 : ((d : Int) == (x : Int)) = true := by simp [he]
        have e2 : ((x : Int) == (d : Int)) = true := by simp [he]
        have HX := Lib.hid (HY.out he)
        clear he
        go_wp2
        go_ret
        exact ⟨ret_int HX.out.symm, rfl⟩
      · have e1 : ((d : Int) == (x : Int)) = false := by simp; omega
        have e2 : ((x : Int) == (d : Int)) = false := by simp; omega
        have HX := Lib.hid (HS.out he)
        clear he
        go_wp2
        go_round
        case rel => exact ⟨k + 1, by omega, by go_num, HX⟩
        case measure => simp [intOf]; omega
    · have hkk : l.length ≤ k := by omega
      have h := HT.out
      rw [List.take_of_length_le hkk] at h
      have HX : Hid (idxN l d = -1) := Lib.hid (idxN_no h)
      clear h hcell
      go_wp2
      go_ret
      exact ⟨ret_int HX.out.symm, rfl⟩

theorem idxN_in {l : List Nat} {d : Nat} (h : d ∈ l) : idxN l d = (l.idxOf d : Int) := by simp [idxN, h]

/-- What is needed of the list around a dart's node. -/
theorem ring_facts {ns ls : List Pr} (hwin : WinOk ns ls) {d : Nat} (hd : d < 2 * ls.length) : ∃ (t : Nat) (G : List Nat) (i q : Nat), dFrom ls d = (t : Int) ∧ t < ns.length ∧ ardS ns ls t (2 * ls.length) = G ∧ idxN G d = (i : Int) ∧ i < G.length ∧ G.length ≤ 12 ∧ G.getD i 0 = d ∧ d ∉ G.take i ∧
    (i + G.length - 1) % G.length = q ∧ q < G.length ∧ G.getD q 0 = lastD ns ls d := by
  have hld : ∀ j : Nat, j < ls.length → leadB ns (ndI ls j) = true := fun j hj => (hwin.2.2.2.2.2 j hj).1
  obtain ⟨t, ht, htn⟩ := dFrom_nat hld hd
  have hr : ringD ns ls d = ardS ns ls t (2 * ls.length) := by unfold ringD; rw [ht, Int.toNat_natCast]
  have hm := ring_self hld hd
  have hil := List.idxOf_lt_length_of_mem hm
  have hpos := List.length_pos_of_mem hm
  have h12 := frD_le hwin t
  have hAS := iso_ard ns ls t (2 * ls.length)
  have hlen : (ringD ns ls d).length = (frD ls t (2 * ls.length)).length := by rw [hr, ← hAS, isoK_len _ _ _ (Nat.le_refl _)]
  refine ⟨t, ringD ns ls d, (ringD ns ls d).idxOf d, _, ht, htn, hr.symm, idxN_in hm, hil, by omega, ?_, ?_, rfl, Nat.mod_lt _ hpos, rfl⟩
  · rw [List.getD, List.getElem?_eq_getElem hil, List.getElem_idxOf hil]; rfl
  · intro hc
    have hn : (ringD ns ls d).Nodup := ardS_nodup _ _ _ _
    obtain ⟨j, hj, e⟩ := List.getElem_of_mem hc
    rw [List.length_take] at hj
    rw [List.getElem_take] at e
    have e2 := List.getElem_idxOf hil
    have := (List.getElem_inj hn (h₀ := by omega) (h₁ := hil)).1 (e.trans e2.symm)
    omega

set_option maxHeartbeats 4000000 in
set_option maxRecDepth 100000 in
theorem iBeside_any (vn vl : Value) (ns ls : List Pr) (d : Nat) (w : World) (hn : RP w vn ns) (hl : RP w vl ls) (hd : d < 2 * ls.length) (hwin : WinOk ns ls) :
    Calls Tryz.prog 235 #[.agg #[vn, vl], .int .i64 d, .int .i64 (-1)] w fun e w' => e = .returned (.int .i64 (lastD ns ls d)) ∧ Below w.heap.size w w' := by
  obtain ⟨t, G, i, q, ht, htn, hG, hidx, hil, h12, _, _, hq, hql, hlast⟩ := ring_facts hwin hd
  have HW := Lib.hid hwin
  have B0 : Blk (w.alloc (.cells #[vn, vl] 38)) w.heap.size 38 #[vn, vl] := Blk.newAt rfl
  have hb0 : Below w.heap.size w (w.alloc (.cells #[vn, vl] 38)) := by (repeat' (first | (with_reducible exact Below.refl _ _) | (with_reducible assumption) | (with_reducible refine Below.drew ?_) | (with_reducible refine below_drewN ?_ _) | (with_reducible refine Below.alloc ?_ ?_ _) | (with_reducible refine Below.setCell ?_ ?_ _) | (with_reducible refine Below.step (by assumption) ?_ ?_))); all_goals (first | omega | (simp; done) | (simp; omega))
  have HBF := Lib.hid (fun (v : World) (hv : Below w.heap.size w v) => iFrom_any vn vl ls d v (hl.below hv) hd)
  have HAR := Lib.hid (fun (v : World) (hv : Below w.heap.size w v) => iAround_any vn vl ns ls t v (hn.below hv) (hl.below hv) htn HW.out)
  rw [ht] at HBF
  rw [hG] at HAR
  rw [← hlast]
  obtain ⟨x, hx⟩ : ∃ x, G.getD q 0 = x := ⟨_, rfl⟩
  rw [hx]
  have HX := Lib.hid hx
  clear hx
  have HID := Lib.hid hidx
  clear hidx hlast hG hwin ht
  have HQ := Lib.hid hq
  clear hq
  go_enter Tryz.func235, Tryz.ntmps235
  go_wp2_with fail
  go_region_held3 (fun w' => w'.cell? ⟨w.heap.size, 0, none⟩ = some vn ∧ w'.cell? ⟨w.heap.size, 1, none⟩ = some vl)
    (go_keep)
    (first | (go_at_call 203; refine (HBF.out _ (by (repeat' (first | (with_reducible exact Below.refl _ _) | (with_reducible assumption) | (with_reducible refine Below.drew ?_) | (with_reducible refine below_drewN ?_ _) | (with_reducible refine Below.alloc ?_ ?_ _) | (with_reducible refine Below.setCell ?_ ?_ _) | (with_reducible refine Below.step (by assumption) ?_ ?_))); all_goals (first | omega | (simp; done) | (simp; omega)))).mono ?_; rintro e w1 ⟨rfl, hb1⟩; (first | (with_reducible have hcf1 := bcell_drew hb1) | have hcf1 := bcell hb1); obtain ⟨hc1, hf1⟩ := hcf1; have hz1 := hb1.size; (try simp at hz1); (try have hp1_0 : w.heap.size < w1.heap.size := by omega); (try have hp1_1 : w.heap.size + 1 < w1.heap.size := by omega); (try have hp1_2 : w.heap.size + 1 + 1 < w1.heap.size := by omega); (try have hp1_3 : w.heap.size + 1 + 1 + 1 < w1.heap.size := by omega); have hbw1 : Below w.heap.size w w1 := (by (repeat' (first | (with_reducible exact Below.refl _ _) | (with_reducible assumption) | (with_reducible refine Below.drew ?_) | (with_reducible refine below_drewN ?_ _) | (with_reducible refine Below.alloc ?_ ?_ _) | (with_reducible refine Below.setCell ?_ ?_ _) | (with_reducible refine Below.step (by assumption) ?_ ?_))); all_goals (first | omega | (simp; done) | (simp; omega)))) | (go_at_call 239; refine (HAR.out _ (by (repeat' (first | (with_reducible exact Below.refl _ _) | (with_reducible assumption) | (with_reducible refine Below.drew ?_) | (with_reducible refine below_drewN ?_ _) | (with_reducible refine Below.alloc ?_ ?_ _) | (with_reducible refine Below.setCell ?_ ?_ _) | (with_reducible refine Below.step (by assumption) ?_ ?_))); all_goals (first | omega | (simp; done) | (simp; omega)))).mono ?_; rintro e w2 ⟨v2, rfl, ho2, hb2⟩; (first | (with_reducible have hcf2 := bcell_drew hb2) | have hcf2 := bcell hb2); obtain ⟨hc2, hf2⟩ := hcf2; have hz2 := hb2.size; (try simp at hz2); (try have hp2_0 : w.heap.size < w2.heap.size := by omega); (try have hp2_1 : w.heap.size + 1 < w2.heap.size := by omega); (try have hp2_2 : w.heap.size + 1 + 1 < w2.heap.size := by omega); (try have hp2_3 : w.heap.size + 1 + 1 + 1 < w2.heap.size := by omega)))
  have hbw2 : Below w.heap.size w w2 := by (repeat' (first | (with_reducible exact Below.refl _ _) | (with_reducible assumption) | (with_reducible refine Below.drew ?_) | (with_reducible refine below_drewN ?_ _) | (with_reducible refine Below.alloc ?_ ?_ _) | (with_reducible refine Below.setCell ?_ ?_ _) | (with_reducible refine Below.step (by assumption) ?_ ?_))); all_goals (first | omega | (simp; done) | (simp; omega))
  have hri := ho2.reads
  obtain ⟨A, c, rfl, hc, hm, hcell⟩ := hri.form
  rw [natI_length] at hc hm hcell hri ⊢
  obtain ⟨b, off, rfl, hbb, hcl⟩ := hcell (by omega)
  have hck := hcl q hql
  rw [natI_get] at hck
  clear hcl hcell hc1 hf1 hc2 hf2
  rw [HX.out] at hck
  have e1 : (i : Int) + -1 + (G.length : Int) = ((i + G.length - 1 : Nat) : Int) := by omega
  have e2 : ((i + G.length - 1 : Nat) : Int).tmod (G.length : Int) = (q : Int) := by
    rw [Int.tmod_eq_emod_of_nonneg (Int.natCast_nonneg _), ← Int.natCast_emod, HQ.out]
  have e3 : ((G.length : Int) == 0) = false := beq_eq_false_iff_ne.2 (by omega)
  have n0 : (G.length : Int) ≠ 0 := by omega
  have i1 : (0 : Int) ≤ (q : Int) := by omega
  have i2 : (q : Int) < (G.length : Int) := by omega
  go_wp2_with fail
  refine (indexInt_any _ G d _ hri).mono ?_
  rintro e w3 ⟨rfl, rfl⟩
  rw [HID.out]
  go_wp2
  go_ret
  exact ⟨rfl, by (repeat' (first | (with_reducible exact Below.refl _ _) | (with_reducible assumption) | (with_reducible refine Below.drew ?_) | (with_reducible refine below_drewN ?_ _) | (with_reducible refine Below.alloc ?_ ?_ _) | (with_reducible refine Below.setCell ?_ ?_ _) | (with_reducible refine Below.step (by assumption) ?_ ?_))); all_goals (first | omega | (simp; done) | (simp; omega))⟩

set_option maxHeartbeats 4000000 in
set_option maxRecDepth 100000 in
theorem sStepD_any (vn vl : Value) (ns ls : List Pr) (d : Nat) (w : World) (hn : RP w vn ns) (hl : RP w vl ls) (hd : d < 2 * ls.length) (hwin : WinOk ns ls) :
    Calls Tryz.prog 230 #[.agg #[vn, vl], .int .i64 d, .int .i64 (-1)] w fun e w' => e = .returned (.int .i64 (lastD ns ls d)) ∧ Below w.heap.size w w' := by
  obtain ⟨t, G, i, q, ht, htn, hG, hidx, hil, h12, hgi, hni, hq, hql, hlast⟩ := ring_facts hwin hd
  have hld : ∀ j : Nat, j < ls.length → leadB ns (ndI ls j) = true := fun j hj => (hwin.2.2.2.2.2 j hj).1
  have HLD := Lib.hid hld
  have HNI := Lib.hid hni
  have HGI := Lib.hid hgi
  have HM := Lib.hid (And.intro hwin.2.2.1 hwin.2.1)
  rw [← hlast]
  obtain ⟨x, hx⟩ : ∃ x, G.getD q 0 = x := ⟨_, rfl⟩
  rw [hx]
  have HX := Lib.hid hx
  clear hx
  have HG := Lib.hid hG
  have HT := Lib.hid ht
  clear hidx hlast hG hwin ht hni hgi hld
  have HQ := Lib.hid hq
  clear hq
  go_enter Tryz.func230, Tryz.ntmps230
  go_wp2_with fail
  refine (sEnds_any _ _ ls d _ (hl.below (by (repeat' (first | (with_reducible exact Below.refl _ _) | (with_reducible assumption) | (with_reducible refine Below.drew ?_) | (with_reducible refine below_drewN ?_ _) | (with_reducible refine Below.alloc ?_ ?_ _) | (with_reducible refine Below.setCell ?_ ?_ _) | (with_reducible refine Below.step (by assumption) ?_ ?_))); all_goals (first | omega | (simp; done) | (simp; omega)))) hd).mono ?_
  rintro e w1 ⟨rfl, hb1⟩; (first | (with_reducible have hcf1 := bcell_drew hb1) | have hcf1 := bcell hb1); obtain ⟨hc1, hf1⟩ := hcf1; have hz1 := hb1.size; (try simp at hz1); (try have hp1_0 : w.heap.size < w1.heap.size := by omega); (try have hp1_1 : w.heap.size + 1 < w1.heap.size := by omega); (try have hp1_2 : w.heap.size + 1 + 1 < w1.heap.size := by omega); (try have hp1_3 : w.heap.size + 1 + 1 + 1 < w1.heap.size := by omega)
  have hbw1 : Below w.heap.size w w1 := by (repeat' (first | (with_reducible exact Below.refl _ _) | (with_reducible assumption) | (with_reducible refine Below.drew ?_) | (with_reducible refine below_drewN ?_ _) | (with_reducible refine Below.alloc ?_ ?_ _) | (with_reducible refine Below.setCell ?_ ?_ _) | (with_reducible refine Below.step (by assumption) ?_ ?_))); all_goals (first | omega | (simp; done) | (simp; omega))
  rw [HT.out]
  go_wp2_with fail
  refine (sAround_any _ _ ns ls t _ (hn.below hbw1) (hl.below hbw1) htn HM.out.1 HM.out.2 HLD.out).mono ?_
  rw [HG.out]
  rintro e w2 ⟨v2, rfl, ho2, hb2⟩
  have hbw2 := hbw1.trans (hb2.mono hbw1.size)
  have hri := ho2.reads
  obtain ⟨A, c, rfl, hc, hm, hcell⟩ := hri.form
  rw [natI_length] at hc hm hcell hri ⊢
  obtain ⟨b, off, rfl, hbb, hcl⟩ := hcell (by omega)
  have hck := hcl q hql
  rw [natI_get] at hck
  have HCL := Lib.hid hcl
  clear hcl hcell hc1 hf1 hb1 hb2 ho2
  rw [HX.out] at hck
  have e1 : (i : Int) + -1 + (G.length : Int) = ((i + G.length - 1 : Nat) : Int) := by omega
  have e2 : ((i + G.length - 1 : Nat) : Int).tmod (G.length : Int) = (q : Int) := by
    rw [Int.tmod_eq_emod_of_nonneg (Int.natCast_nonneg _), ← Int.natCast_emod, HQ.out]
  have e3 : ((G.length : Int) == 0) = false := beq_eq_false_iff_ne.2 (by omega)
  have n0 : (G.length : Int) ≠ 0 := by omega
  have i1 : (0 : Int) ≤ (q : Int) := by omega
  have i2 : (q : Int) < (G.length : Int) := by omega
  go_wp2
  go_loop [10] (fun y => ∃ k : Nat, k ≤ i ∧ y = .int .i64 k) (fun y => i + 1 - (intOf y).toNat)
  case atStart => exact ⟨0, Nat.zero_le _, rfl⟩
  case round =>
    obtain ⟨k, hk, rfl⟩ := hrel
    have hkl : k < G.length := by omega
    have hkc := HCL.out k hkl
    rw [natI_get] at hkc
    by_cases hki : k = i
    · subst hki
      rw [HGI.out] at hkc
      have e4 : ((d : Int) == (d : Int)) = true := by simp
      go_wp2
      go_ret
      exact ⟨rfl, hbw2⟩
    · have hne : G.getD k 0 ≠ d := by
        intro h
        apply HNI.out
        rw [← h, List.getD, List.getElem?_eq_getElem hkl]
        simp only [Option.getD_some]
        rw [List.mem_take_iff_getElem]
        exact ⟨k, by omega, rfl⟩
      generalize G.getD k 0 = y at *
      have e4 : ((y : Int) == (d : Int)) = false := by simp; omega
      clear hne
      go_wp2
      go_round
      case rel => exact ⟨k + 1, by omega, by go_num⟩
      case measure => simp [intOf]; omega

theorem twin_xor_int (d : Nat) (h : d < 1000000) : bits .xor .i64 (d : Int) 1 = ((twin d : Nat) : Int) := by
  have x := bits_xor_nat (a := d) (b := 1) (by omega) (by omega)
  rw [twin_xor] at x
  exact x

set_option maxHeartbeats 1000000 in
set_option maxRecDepth 100000 in
theorem sNext_any (vn vl : Value) (ns ls : List Pr) (d : Nat) (w : World) (hn : RP w vn ns) (hl : RP w vl ls) (hd : d < 2 * ls.length) (hwin : WinOk ns ls) :
    Calls Tryz.prog 215 #[.agg #[vn, vl], .int .i64 d] w fun e w' => e = .returned (.int .i64 (nextD ns ls d)) ∧ Below w.heap.size w w' := by
  have hm20 := hwin.2.2.1
  have x1 := twin_xor_int d (by omega)
  have hb0 : Below w.heap.size w (w.alloc (.cells #[vn, vl] 38)) := by (repeat' (first | (with_reducible exact Below.refl _ _) | (with_reducible assumption) | (with_reducible refine Below.drew ?_) | (with_reducible refine below_drewN ?_ _) | (with_reducible refine Below.alloc ?_ ?_ _) | (with_reducible refine Below.setCell ?_ ?_ _) | (with_reducible refine Below.step (by assumption) ?_ ?_))); all_goals (first | omega | (simp; done) | (simp; omega))
  have HC := Lib.hid (fun (v : World) (hv : Below w.heap.size w v) => sStepD_any vn vl ns ls (twin d) v (hn.below hv) (hl.below hv) (twin_lt hd) hwin)
  have HR : Hid (nextD ns ls d = lastD ns ls (twin d)) := Lib.hid rfl
  generalize twin d = e at *
  clear hwin
  go_enter Tryz.func215, Tryz.ntmps215
  go_wp2_with fail
  refine (HC.out _ hb0).mono ?_
  rintro e w1 ⟨rfl, hb1⟩; (first | (with_reducible have hcf1 := bcell_drew hb1) | have hcf1 := bcell hb1); obtain ⟨hc1, hf1⟩ := hcf1; have hz1 := hb1.size; (try simp at hz1); (try have hp1_0 : w.heap.size < w1.heap.size := by omega); (try have hp1_1 : w.heap.size + 1 < w1.heap.size := by omega); (try have hp1_2 : w.heap.size + 1 + 1 < w1.heap.size := by omega); (try have hp1_3 : w.heap.size + 1 + 1 + 1 < w1.heap.size := by omega)
  go_wp2
  go_ret
  exact ⟨ret_int (by rw [HR.out]), by (repeat' (first | (with_reducible exact Below.refl _ _) | (with_reducible assumption) | (with_reducible refine Below.drew ?_) | (with_reducible refine below_drewN ?_ _) | (with_reducible refine Below.alloc ?_ ?_ _) | (with_reducible refine Below.setCell ?_ ?_ _) | (with_reducible refine Below.step (by assumption) ?_ ?_))); all_goals (first | omega | (simp; done) | (simp; omega))⟩

end Go.Proofs.YtoknmjpnelbplaaGreat

namespace Go.Proofs.YtoknmjpnelbplaaGreat
open Go.RowKit

/-- The length of a slice. -/
def lenV : Value → Nat
  | .slice _ n _ => n
  | _ => 0

theorem OwnI.lenV {base : Nat} {w : World} {v : Value} {zs : List Int} (h : OwnI base w v zs) : lenV v = zs.length := by
  obtain ⟨A, c, rfl⟩ := h.form
  rfl

theorem OwnI.lit1 {base g : Nat} {w : World} {x : Int} (hg : g = w.heap.size) (hb : base ≤ w.heap.size) : OwnI base (w.alloc (.cells #[.int .i64 x] 3)) (.slice (some ⟨g, 0, none⟩) 1 1) [x] := by
  subst hg
  exact World.ownsRow_lit w #[.int .i64 x] 1 hb (by simp [maxLen]) rfl

set_option maxHeartbeats 4000000 in
set_option maxRecDepth 100000 in
theorem iWalk_any (vn vl : Value) (ns ls : List Pr) (d : Nat) (w : World) (hn : RP w vn ns) (hl : RP w vl ls) (hd : d < 2 * ls.length) (hwin : WinOk ns ls) :
    Calls Tryz.prog 225 #[.agg #[vn, vl], .int .i64 d] w (RetI (natI (walkD ns ls d)) w) := by
  have hm20 := hwin.2.2.1
  have hld : ∀ j : Nat, j < ls.length → leadB ns (ndI ls j) = true := fun j hj => (hwin.2.2.2.2.2 j hj).1
  obtain ⟨hp0, hpm, hpd, hpj⟩ := per_spec hld hd
  obtain ⟨i0, hi, iz0, iz1, iz2⟩ := info_parts infoInt
  have HNX := Lib.hid (fun (v : World) (e : Nat) (hv : Below w.heap.size w v) (he : e < 2 * ls.length) => iBeside_any vn vl ns ls (twin e) v (hn.below hv) (hl.below hv) (twin_lt he) hwin)
  have HOL := Lib.hid (fun k => orb_lt hld hd k)
  have HPJ := Lib.hid hpj
  have HPD := Lib.hid hpd
  have HWD : Hid (walkD ns ls d = walkK ns ls d (perD ns ls d)) := Lib.hid rfl
  have HWS := Lib.hid (fun k => walkK_succ ns ls d k)
  have HWL := Lib.hid (fun k => walkK_length ns ls d k)
  have HOS : Hid (∀ k, nextD ns ls (orbD ns ls d k) = orbD ns ls d (k + 1)) := Lib.hid (fun _ => rfl)
  have H01 : Hid (orbD ns ls d 1 = nextD ns ls d) := Lib.hid rfl
  have HW1 : Hid (walkK ns ls d 1 = [d]) := Lib.hid rfl
  generalize perD ns ls d = per at *
  have HTX := Lib.hid (fun (e : Nat) (he : e < 2 * ls.length) => twin_xor_int e (by omega))
  have x0 := HTX.out d hd
  have HNX : Hid (∀ (v : World) (e : Nat), Below w.heap.size w v → e < 2 * ls.length → Calls Tryz.prog 235 #[.agg #[vn, vl], .int .i64 (bits .xor .i64 (e : Int) 1), .int .i64 (-1)] v fun e' w' => e' = .returned (.int .i64 (nextD ns ls e)) ∧ Below v.heap.size v w') := Lib.hid (fun v e hv he => by rw [HTX.out e he]; exact HNX.out v e hv he)
  clear x0
  clear hwin hpj hpd hld
  go_enter Tryz.func225, Tryz.ntmps225
  go_wp2_with fail
  have hba : Below w.heap.size w ((w.alloc (.cells #[vn, vl] 38)).alloc (.cells #[.int .i64 d] 3)) := by (repeat' (first | (with_reducible exact Below.refl _ _) | (with_reducible assumption) | (with_reducible refine Below.drew ?_) | (with_reducible refine below_drewN ?_ _) | (with_reducible refine Below.alloc ?_ ?_ _) | (with_reducible refine Below.setCell ?_ ?_ _) | (with_reducible refine Below.step (by assumption) ?_ ?_))); all_goals (first | omega | (simp; done) | (simp; omega))
  have hW0 : Blk ((w.alloc (.cells #[vn, vl] 38)).alloc (.cells #[.int .i64 d] 3)) w.heap.size 38 #[vn, vl] := (Blk.newAt rfl).alloc _
  have ho0 : OwnI (w.heap.size + 1) ((w.alloc (.cells #[vn, vl] 38)).alloc (.cells #[.int .i64 d] 3)) (.slice (some ⟨w.heap.size + 1, 0, none⟩) 1 1) [(d : Int)] := OwnI.lit1 (by simp) (by simp)
  refine (HNX.out _ d hba hd).mono ?_
  rintro e w1 ⟨rfl, hb1⟩
  have hbw1 := hba.trans (hb1.mono hba.size)
  have hW1 := hW0.below hb1 hW0.lt
  have ho1 := ho0.kept hb1
  clear hb1 hba hW0 ho0
  go_wp2
  go_loopw [5, 6] (fun v x wr => ∃ k : Nat, 1 ≤ k ∧ k ≤ per ∧ x = .int .i64 (orbD ns ls d k) ∧ OwnI (w.heap.size + 1) wr v (natI (walkK ns ls d k)) ∧ Blk wr w.heap.size 38 #[vn, vl] ∧ Below w.heap.size w wr) (fun v _ _ => per - lenV v)
  case atStart => exact ⟨1, Nat.le_refl _, hp0, by rw [H01.out], by rw [HW1.out]; exact ho1, hW1, hbw1⟩
  case round =>
    clear ho1 hW1 hbw1
    obtain ⟨k, hk1, hkp, rfl, ho, hW, hbl⟩ := hrel
    have hlv := ho.lenV
    have hsz := hW.lt
    rw [natI_length, HWL.out] at hlv
    (have a_0 := hW.cell 0); (have a_1 := hW.cell 1); simp only [List.getElem?_toArray, List.getElem?_cons_succ, List.getElem?_cons_zero] at a_0 a_1
    have HK : Hid (k < per → orbD ns ls d k ≠ d) := Lib.hid (fun h => HPJ.out k (by omega) h)
    have hol := HOL.out k
    have HS : Hid (natI (walkK ns ls d (k + 1)) = natI (walkK ns ls d k) ++ [((orbD ns ls d k : Nat) : Int)]) := Lib.hid (by rw [HWS.out]; simp [natI])
    have HO1 := Lib.hid (HOS.out k)
    have HGL : Hid ((natI (walkK ns ls d k)).length = k) := Lib.hid (by rw [natI_length, HWL.out])
    have HE : Hid (k = per → orbD ns ls d k = d) := Lib.hid (fun h => by rw [h]; exact HPD.out)
    have HEW : Hid (k = per → walkD ns ls d = walkK ns ls d k) := Lib.hid (fun h => by rw [h]; exact HWD.out)
    generalize hxe : orbD ns ls d k = x at *
    clear hxe
    by_cases hkd : k < per
    · have hne := HK.out hkd
      have e1 : ((x : Int) != (d : Int)) = true := by simp; omega
      generalize walkK ns ls d k = G at *
      go_wp2_with (at_builtin; refine wpList_append_own _ rfl _ _ 29 rfl (w.heap.size + 1) 3 i0 (.int .i64 0) 1 8 Tryz.underlying29 hi iz0 iz1 iz2 rfl (by decide) _ _ _ rfl (World.ownsRow.alloc ho _) ⟨wr.heap.size, 0, none⟩ 1 1 [.int .i64 _] rfl rfl (cell_one_at (by simp)) (by intro u hu; simp at hu; subst hu; rfl) (by rw [HGL.out]; unfold maxLen; omega) (by rw [HGL.out]; omega) (by simp; omega) ?_)
      intro v2 w2 hown2 hg2 hne2
      have hbl2 : Below w.heap.size w w2 := (hbl.alloc (show w.heap.size ≤ wr.heap.size by omega) (.cells #[.int .i64 (x : Int)] 3)).grown hg2 (by simp; omega) (fun k hk => by have := (ho.lt k hk).1; omega)
      have hW2 : Blk w2 w.heap.size 38 #[vn, vl] := (hg2.block _ (by simp; omega) (fun e => by have := (ho.lt _ e.symm).1; omega)).trans (hW.alloc _)
      have hO2 := OwnI.snoc hown2
      have hz2 := hW2.lt
      have hl2 := hO2.lenV
      rw [List.length_append, HGL.out] at hl2
      simp at hl2
      clear hown2 hg2 ho hW hbl hne2 a_0 a_1
      (have a_0 := hW2.cell 0); (have a_1 := hW2.cell 1); simp only [List.getElem?_toArray, List.getElem?_cons_succ, List.getElem?_cons_zero] at a_0 a_1
      go_wp2_with fail
      refine (HNX.out _ x hbl2 hol).mono ?_
      rw [HO1.out]
      rintro e w3 ⟨rfl, hb3⟩
      have HO3 := Lib.hid (hO2.kept hb3)
      have HW3 := Lib.hid (hW2.below hb3 hz2)
      have hbl3 := hbl2.trans (hb3.mono hbl2.size)
      clear hb3 hO2 hW2 hbl2 a_0 a_1
      go_wp2
      go_roundw
      case rel => exact ⟨k + 1, by omega, by omega, rfl, by rw [HS.out]; exact HO3.out, HW3.out, hbl3⟩
      case measure => simp [hl2, hlv]; omega
    · have hkk : k = per := by omega
      have hxd := HE.out hkk
      have e1 : ((x : Int) != (d : Int)) = false := by simp [hxd]
      have HR := Lib.hid (HEW.out hkk)
      clear hkk hxd
      go_wp2
      go_ret
      exact ⟨_, rfl, by rw [HR.out]; exact ho.mono (by omega), hbl⟩

set_option maxHeartbeats 4000000 in
set_option maxRecDepth 100000 in
theorem sWalk_any (vn vl : Value) (ns ls : List Pr) (d : Nat) (w : World) (hn : RP w vn ns) (hl : RP w vl ls) (hd : d < 2 * ls.length) (hwin : WinOk ns ls) :
    Calls Tryz.prog 171 #[.agg #[vn, vl], .int .i64 d] w (RetI (natI (walkD ns ls d)) w) := by
  have hm20 := hwin.2.2.1
  have hld : ∀ j : Nat, j < ls.length → leadB ns (ndI ls j) = true := fun j hj => (hwin.2.2.2.2.2 j hj).1
  obtain ⟨hp0, hpm, hpd, hpj⟩ := per_spec hld hd
  obtain ⟨i0, hi, iz0, iz1, iz2⟩ := info_parts infoInt
  have HNX := Lib.hid (fun (v : World) (e : Nat) (hv : Below w.heap.size w v) (he : e < 2 * ls.length) => sNext_any vn vl ns ls e v (hn.below hv) (hl.below hv) he hwin)
  have HOL := Lib.hid (fun k => orb_lt hld hd k)
  have HPJ := Lib.hid hpj
  have HPD := Lib.hid hpd
  have HWD : Hid (walkD ns ls d = walkK ns ls d (perD ns ls d)) := Lib.hid rfl
  have HWS := Lib.hid (fun k => walkK_succ ns ls d k)
  have HWL := Lib.hid (fun k => walkK_length ns ls d k)
  have HOS : Hid (∀ k, nextD ns ls (orbD ns ls d k) = orbD ns ls d (k + 1)) := Lib.hid (fun _ => rfl)
  have H01 : Hid (orbD ns ls d 1 = nextD ns ls d) := Lib.hid rfl
  have HW1 : Hid (walkK ns ls d 1 = [d]) := Lib.hid rfl
  generalize perD ns ls d = per at *
  clear hwin hpj hpd hld
  go_enter Tryz.func171, Tryz.ntmps171
  go_wp2_with fail
  have hba : Below w.heap.size w ((w.alloc (.cells #[vn, vl] 38)).alloc (.cells #[.int .i64 d] 3)) := by (repeat' (first | (with_reducible exact Below.refl _ _) | (with_reducible assumption) | (with_reducible refine Below.drew ?_) | (with_reducible refine below_drewN ?_ _) | (with_reducible refine Below.alloc ?_ ?_ _) | (with_reducible refine Below.setCell ?_ ?_ _) | (with_reducible refine Below.step (by assumption) ?_ ?_))); all_goals (first | omega | (simp; done) | (simp; omega))
  have hW0 : Blk ((w.alloc (.cells #[vn, vl] 38)).alloc (.cells #[.int .i64 d] 3)) w.heap.size 38 #[vn, vl] := (Blk.newAt rfl).alloc _
  have ho0 : OwnI (w.heap.size + 1) ((w.alloc (.cells #[vn, vl] 38)).alloc (.cells #[.int .i64 d] 3)) (.slice (some ⟨w.heap.size + 1, 0, none⟩) 1 1) [(d : Int)] := OwnI.lit1 (by simp) (by simp)
  refine (HNX.out _ d hba hd).mono ?_
  rintro e w1 ⟨rfl, hb1⟩
  have hbw1 := hba.trans (hb1.mono hba.size)
  have hW1 := hW0.below hb1 hW0.lt
  have ho1 := ho0.kept hb1
  clear hb1 hba hW0 ho0
  go_wp2
  go_loopw [5, 6] (fun v x wr => ∃ k : Nat, 1 ≤ k ∧ k ≤ per ∧ x = .int .i64 (orbD ns ls d k) ∧ OwnI (w.heap.size + 1) wr v (natI (walkK ns ls d k)) ∧ Blk wr w.heap.size 38 #[vn, vl] ∧ Below w.heap.size w wr) (fun v _ _ => per - lenV v)
  case atStart => exact ⟨1, Nat.le_refl _, hp0, by rw [H01.out], by rw [HW1.out]; exact ho1, hW1, hbw1⟩
  case round =>
    clear ho1 hW1 hbw1
    obtain ⟨k, hk1, hkp, rfl, ho, hW, hbl⟩ := hrel
    have hlv := ho.lenV
    have hsz := hW.lt
    rw [natI_length, HWL.out] at hlv
    (have a_0 := hW.cell 0); (have a_1 := hW.cell 1); simp only [List.getElem?_toArray, List.getElem?_cons_succ, List.getElem?_cons_zero] at a_0 a_1
    have HK : Hid (k < per → orbD ns ls d k ≠ d) := Lib.hid (fun h => HPJ.out k (by omega) h)
    have hol := HOL.out k
    have HS : Hid (natI (walkK ns ls d (k + 1)) = natI (walkK ns ls d k) ++ [((orbD ns ls d k : Nat) : Int)]) := Lib.hid (by rw [HWS.out]; simp [natI])
    have HO1 := Lib.hid (HOS.out k)
    have HGL : Hid ((natI (walkK ns ls d k)).length = k) := Lib.hid (by rw [natI_length, HWL.out])
    have HE : Hid (k = per → orbD ns ls d k = d) := Lib.hid (fun h => by rw [h]; exact HPD.out)
    have HEW : Hid (k = per → walkD ns ls d = walkK ns ls d k) := Lib.hid (fun h => by rw [h]; exact HWD.out)
    generalize hxe : orbD ns ls d k = x at *
    clear hxe
    by_cases hkd : k < per
    · have hne := HK.out hkd
      have e1 : ((x : Int) != (d : Int)) = true := by simp; omega
      generalize walkK ns ls d k = G at *
      go_wp2_with (at_builtin; refine wpList_append_own _ rfl _ _ 29 rfl (w.heap.size + 1) 3 i0 (.int .i64 0) 1 8 Tryz.underlying29 hi iz0 iz1 iz2 rfl (by decide) _ _ _ rfl (World.ownsRow.alloc ho _) ⟨wr.heap.size, 0, none⟩ 1 1 [.int .i64 _] rfl rfl (cell_one_at (by simp)) (by intro u hu; simp at hu; subst hu; rfl) (by rw [HGL.out]; unfold maxLen; omega) (by rw [HGL.out]; omega) (by simp; omega) ?_)
      intro v2 w2 hown2 hg2 hne2
      have hbl2 : Below w.heap.size w w2 := (hbl.alloc (show w.heap.size ≤ wr.heap.size by omega) (.cells #[.int .i64 (x : Int)] 3)).grown hg2 (by simp; omega) (fun k hk => by have := (ho.lt k hk).1; omega)
      have hW2 : Blk w2 w.heap.size 38 #[vn, vl] := (hg2.block _ (by simp; omega) (fun e => by have := (ho.lt _ e.symm).1; omega)).trans (hW.alloc _)
      have hO2 := OwnI.snoc hown2
      have hz2 := hW2.lt
      have hl2 := hO2.lenV
      rw [List.length_append, HGL.out] at hl2
      simp at hl2
      clear hown2 hg2 ho hW hbl hne2 a_0 a_1
      (have a_0 := hW2.cell 0); (have a_1 := hW2.cell 1); simp only [List.getElem?_toArray, List.getElem?_cons_succ, List.getElem?_cons_zero] at a_0 a_1
      go_wp2_with fail
      refine (HNX.out _ x hbl2 hol).mono ?_
      rw [HO1.out]
      rintro e w3 ⟨rfl, hb3⟩
      have HO3 := Lib.hid (hO2.kept hb3)
      have HW3 := Lib.hid (hW2.below hb3 hz2)
      have hbl3 := hbl2.trans (hb3.mono hbl2.size)
      clear hb3 hO2 hW2 hbl2 a_0 a_1
      go_wp2
      go_roundw
      case rel => exact ⟨k + 1, by omega, by omega, rfl, by rw [HS.out]; exact HO3.out, HW3.out, hbl3⟩
      case measure => simp [hl2, hlv]; omega
    · have hkk : k = per := by omega
      have hxd := HE.out hkk
      have e1 : ((x : Int) != (d : Int)) = false := by simp [hxd]
      have HR := Lib.hid (HEW.out hkk)
      clear hkk hxd
      go_wp2
      go_ret
      exact ⟨_, rfl, by rw [HR.out]; exact ho.mono (by omega), hbl⟩

end Go.Proofs.YtoknmjpnelbplaaGreat

namespace Go.Proofs.YtoknmjpnelbplaaGreat
open Go.RowKit

theorem memS_end {s m i : Nat} (hm : i ≤ m) (h : s / 2 ^ i = 0) : memS s m = memS s i := by
  have hp : 0 < 2 ^ i := Nat.two_pow_pos i
  have hlt : s < 2 ^ i := by
    rcases Nat.lt_or_ge s (2 ^ i) with h1 | h1
    · exact h1
    · have := Nat.div_pos h1 hp
      omega
  have := memS_more hlt (m - i)
  rw [show i + (m - i) = m by omega] at this
  exact this

theorem shl64 {k : Nat} (hk : k < 62) : wrap64 ((2 : Int) ^ k) = ((2 ^ k : Nat) : Int) := by
  have h := shl_one hk
  rw [Int.one_mul] at h
  have e : wrap64 ((2 : Int) ^ k) = IntKind.i64.wrap ((2 : Int) ^ k) := (IntWalk.i64_left _).symm
  rw [e]
  exact h

theorem addS_no {s : Nat} {l : Pr} {p q : Nat} (h1 : l.1 = p) (h2 : l.2 = q) (hb : (s.testBit p || s.testBit q) = false) : addS s l = s := by
  unfold addS; rw [h1, h2, Int.toNat_natCast, Int.toNat_natCast, hb]; rfl
theorem addS_yes {s : Nat} {l : Pr} {p q : Nat} (h1 : l.1 = p) (h2 : l.2 = q) (hb : (s.testBit p || s.testBit q) = true) : addS s l = s ||| (2 ^ p ||| 2 ^ q) := by
  unfold addS; rw [h1, h2, Int.toNat_natCast, Int.toNat_natCast, hb]; rfl
theorem roundS_succ (t : Nat) {ls : List Pr} {i : Nat} (h : i < ls.length) : roundS t (ls.take (i + 1)) = addS (roundS t (ls.take i)) (ndI ls i) := by
  rw [List.take_succ_eq_append_getElem h, roundS_append, ndI_nat ls i h]; rfl

theorem div_full {s m : Nat} (h : s < 2 ^ m) : s / 2 ^ m = 0 := Nat.div_eq_of_lt h

set_option maxHeartbeats 4000000 in
set_option maxRecDepth 100000 in
theorem iMembers_any (s m : Nat) (w : World) (hs : s < 2 ^ m) (hm : m ≤ 40) :
    Calls Tryz.prog 190 #[.int .i64 s] w (RetI (natI (memS s m)) w) := by
  obtain ⟨i0, hi, iz0, iz1, iz2⟩ := info_parts infoInt
  have hs62 : s < 2 ^ 62 := Nat.lt_of_lt_of_le hs (Nat.pow_le_pow_right (by omega) (by omega))
  have HB := Lib.hid (fun k => bit_test (k := k) hs62)
  have HD := Lib.hid (div_full hs)
  have HME := Lib.hid (fun i (h1 : i ≤ m) h2 => memS_end (s := s) h1 h2)
  have HY := Lib.hid (fun i h => memS_succ_yes (s := s) (m := i) h)
  have HN := Lib.hid (fun i h => memS_succ_no (s := s) (m := i) h)
  have HL := Lib.hid (fun i => memS_le s i)
  clear hs
  go_enter Tryz.func190, Tryz.ntmps190
  go_wp2
  go_loopw [3, 4] (fun v x wr => ∃ i : Nat, i ≤ m ∧ x = .int .i64 i ∧ OwnI w.heap.size wr v (natI (memS s i)) ∧ Below w.heap.size w wr) (fun _ x _ => m - (intOf x).toNat)
  case atStart => exact ⟨0, Nat.zero_le _, rfl, OwnI.nil _ _, by (repeat' (first | (with_reducible exact Below.refl _ _) | (with_reducible assumption) | (with_reducible refine Below.drew ?_) | (with_reducible refine below_drewN ?_ _) | (with_reducible refine Below.alloc ?_ ?_ _) | (with_reducible refine Below.setCell ?_ ?_ _) | (with_reducible refine Below.step (by assumption) ?_ ?_))); all_goals (first | omega | (simp; done) | (simp; omega))⟩
  case round =>
    obtain ⟨i, him, rfl, ho, hbl⟩ := hrel
    have hsz := hbl.size
    have hbt := HB.out i
    have HLI := HL.out i
    have h0 : i < 64 := by omega
    have HZ : Hid ((0 : Int) < (s : Int) / 2 ^ i ↔ s / 2 ^ i ≠ 0) := Lib.hid (by
      have e : ((s : Int) / 2 ^ i) = ((s / 2 ^ i : Nat) : Int) := by (rw [Int.natCast_ediv]; rfl)
      rw [e]
      generalize s / 2 ^ i = q
      omega)
    by_cases hz : (0 : Int) < (s : Int) / 2 ^ i
    · have hne := HZ.out.1 hz
      have him2 : i < m := by
        rcases Nat.lt_or_ge i m with h | h
        · exact h
        · have : i = m := by omega
          subst this
          exact absurd HD.out hne
      clear hne
      cases hb : s.testBit i
      · rw [hb] at hbt
        have hbt' : bits .and .i64 ((s : Int) / 2 ^ i) 1 = 0 := hbt
        have HS := Lib.hid (HN.out i hb)
        clear hb hbt
        go_wp2
        go_roundw
        case rel => exact ⟨i + 1, by omega, by go_num, by rw [HS.out]; exact ho, hbl⟩
        case measure => simp [intOf]; omega
      · rw [hb] at hbt
        have hbt' : bits .and .i64 ((s : Int) / 2 ^ i) 1 = 1 := hbt
        have HS : Hid (natI (memS s (i + 1)) = natI (memS s i) ++ [(i : Int)]) := Lib.hid (by rw [HY.out i hb]; simp [natI])
        have HGL := Lib.hid (natI_length (memS s i))
        clear hb hbt
        generalize memS s i = G at *
        go_wp2_with (at_builtin; refine wpList_append_own _ rfl _ _ 29 rfl (w.heap.size) 3 i0 (.int .i64 0) 1 8 Tryz.underlying29 hi iz0 iz1 iz2 rfl (by decide) _ _ _ rfl (World.ownsRow.alloc ho _) ⟨wr.heap.size, 0, none⟩ 1 1 [.int .i64 _] rfl rfl (cell_one_at (by simp)) (by intro u hu; simp at hu; subst hu; rfl) (by rw [HGL.out]; unfold maxLen; omega) (by rw [HGL.out]; omega) (by simp; omega) ?_)
        intro v2 w2 hown2 hg2 hne2
        have hbl2 : Below w.heap.size w w2 := (hbl.alloc hsz (.cells #[.int .i64 (i : Int)] 3)).grown hg2 (by simp; omega) (fun k hk => (ho.lt k hk).1)
        have HO := Lib.hid (OwnI.snoc hown2)
        clear hown2 hg2 ho hbl hne2
        go_wp2
        go_roundw
        case rel => exact ⟨i + 1, by omega, by go_num, by rw [HS.out]; exact HO.out, hbl2⟩
        case measure => simp [intOf]; omega
    · have h2 : s / 2 ^ i = 0 := by
        apply Classical.byContradiction
        intro h
        exact hz (HZ.out.2 h)
      have HR := Lib.hid (HME.out i him h2)
      clear h2 hbt
      go_wp2
      go_ret
      exact ⟨_, rfl, by rw [HR.out]; exact ho, hbl⟩

set_option maxHeartbeats 8000000 in
set_option maxRecDepth 100000 in
theorem iPartOf_any (vn vl : Value) (ns ls : List Pr) (k : Nat) (w : World) (hn : RP w vn ns) (hl : RP w vl ls) (hk : k < ns.length) (hn12 : ns.length ≤ 12) (hm20 : ls.length ≤ 20) (hld : ∀ j : Nat, j < ls.length → leadB ns (ndI ls j) = true) :
    Calls Tryz.prog 131 #[.agg #[vn, vl], .int .i64 k] w (RetI (natI (memS (roundsS (2 ^ k) ls ns.length) ns.length)) w) := by
  obtain ⟨An, cn, rfl, hcn, hmn, _⟩ := hn.formI
  obtain ⟨Al, cl, rfl, hcl, hml, hcell⟩ := hl.formI
  unfold maxLen at hmn hml
  have hends : ∀ l ∈ ls, l.1.toNat < ns.length ∧ l.2.toNat < ns.length := by
    intro l hm
    obtain ⟨j, hj, e⟩ := List.getElem_of_mem hm
    obtain ⟨h1, h2, h3, _⟩ := leadB_iff.1 (hld j hj)
    rw [ndI_nat ls j hj, e] at h1 h2 h3
    omega
  have h2k : 2 ^ k < 2 ^ ns.length := Nat.pow_lt_pow_right (by omega) hk
  have HLT := Lib.hid (fun j => roundsS_lt (ls := ls) h2k hends j)
  have HRL := Lib.hid (fun (t : Nat) (i : Nat) (ht : t < 2 ^ ns.length) => roundS_lt (ls.take i) t ht (fun l hm => hends l (List.mem_of_mem_take hm)))
  have h12 : (2 : Nat) ^ ns.length ≤ 2 ^ 12 := Nat.pow_le_pow_right (by omega) hn12
  have HLD := Lib.hid hld
  have HCELL := Lib.hid hcell
  have x0 := shl64 (k := k) (by omega)
  have hk64 : k < 64 := by omega
  clear hld hcell hends
  generalize hB : (2 : Nat) ^ ns.length = B at *
  have HBE := Lib.hid hB
  clear hB
  go_enter Tryz.func131, Tryz.ntmps131
  go_wp2
  go_loopw [5, 13] (fun t x wr => ∃ j : Nat, j ≤ ns.length ∧ x = .int .i64 j ∧ t = .int .i64 (roundsS (2 ^ k) ls j) ∧ Blk wr w.heap.size 38 #[.slice An ns.length cn, .slice Al ls.length cl] ∧ Below w.heap.size w wr) (fun _ x _ => ns.length - (intOf x).toNat)
  case atStart => exact ⟨0, Nat.zero_le _, rfl, by rw [x0]; rfl, Blk.newAt rfl, by (repeat' (first | (with_reducible exact Below.refl _ _) | (with_reducible assumption) | (with_reducible refine Below.drew ?_) | (with_reducible refine below_drewN ?_ _) | (with_reducible refine Below.alloc ?_ ?_ _) | (with_reducible refine Below.setCell ?_ ?_ _) | (with_reducible refine Below.step (by assumption) ?_ ?_))); all_goals (first | omega | (simp; done) | (simp; omega))⟩
  case round =>
    clear x0
    obtain ⟨j, hj, rfl, rfl, hW, hbl⟩ := hrel
    have hsz := hW.lt
    (have a_0 := hW.cell 0); (have a_1 := hW.cell 1); simp only [List.getElem?_toArray, List.getElem?_cons_succ, List.getElem?_cons_zero] at a_0 a_1
    by_cases hjn : j < ns.length
    · have HTB := Lib.hid (HLT.out j)
      have HTS : Hid (roundsS (2 ^ k) ls (j + 1) = roundS (roundsS (2 ^ k) ls j) ls) := Lib.hid rfl
      have HT0 : Hid (roundS (roundsS (2 ^ k) ls j) (ls.take 0) = roundsS (2 ^ k) ls j) := Lib.hid rfl
      generalize roundsS (2 ^ k) ls j = T at *
      go_wp2
      go_loopw [5, 18] (fun t x wr => ∃ i : Nat, i ≤ ls.length ∧ x = .int .i64 i ∧ t = .int .i64 (roundS T (ls.take i)) ∧ Blk wr w.heap.size 38 #[.slice An ns.length cn, .slice Al ls.length cl] ∧ Below w.heap.size w wr) (fun _ x _ => ls.length - (intOf x).toNat)
      case atStart => exact ⟨0, Nat.zero_le _, rfl, by rw [HT0.out], hW, hbl⟩
      case round =>
        clear hW hbl hsz a_0 a_1
        obtain ⟨i, hi, rfl, rfl, hW, hbl⟩ := hrel
        have hsz := hW.lt
        (have a_0 := hW.cell 0); (have a_1 := hW.cell 1); simp only [List.getElem?_toArray, List.getElem?_cons_succ, List.getElem?_cons_zero] at a_0 a_1
        by_cases hil : i < ls.length
        · obtain ⟨b, off, rfl, hb, hcl⟩ := HCELL.out (by omega)
          obtain ⟨k0, k1⟩ := hcl i hil
          have q0 := (hbl.cell (p := ⟨b, off + i * 2, none⟩) hb).trans k0
          have q1 := (hbl.cell (p := ⟨b, off + i * 2 + 1, none⟩) hb).trans k1
          obtain ⟨h1, h2, h3, _⟩ := leadB_iff.1 (HLD.out i hil)
          obtain ⟨p, hp⟩ : ∃ p : Nat, (ndI ls i).1 = p := ⟨(ndI ls i).1.toNat, by omega⟩
          obtain ⟨q, hq⟩ : ∃ q : Nat, (ndI ls i).2 = q := ⟨(ndI ls i).2.toNat, by omega⟩
          have HS := Lib.hid (roundS_succ T hil)
          have HSB := Lib.hid (HRL.out T i HTB.out)
          have HAN := Lib.hid (fun s hb => addS_no (s := s) hp hq hb)
          have HAY := Lib.hid (fun s hb => addS_yes (s := s) hp hq hb)
          rw [hp] at q0
          rw [hq] at q1
          have hp12 : p < 12 := by omega
          have hq12 : q < 12 := by omega
          have hp64 : p < 64 := by omega
          have hq64 : q < 64 := by omega
          have ii1 : (0 : Int) ≤ (i : Int) := by omega
          have ii2 : (i : Int) < (ls.length : Int) := by omega
          generalize roundS T (ls.take i) = s at *
          have hs12 : s < 2 ^ 12 := by have := HSB.out; omega
          have bp := bit_test (s := s) (k := p) (by omega)
          have bq := bit_test (s := s) (k := q) (by omega)
          have xp := shl64 (k := p) (by omega)
          have xq := shl64 (k := q) (by omega)
          have Pp : 2 ^ p < 2 ^ 12 := Nat.pow_lt_pow_right (by omega) hp12
          have Pq : 2 ^ q < 2 ^ 12 := Nat.pow_lt_pow_right (by omega) hq12
          have o1 := bits_or_nat (a := 2 ^ p) (b := 2 ^ q) (by omega) (by omega)
          have Po : 2 ^ p ||| 2 ^ q < 2 ^ 12 := Nat.or_lt_two_pow Pp Pq
          have o2 := bits_or_nat (a := s) (b := 2 ^ p ||| 2 ^ q) (by omega) (by omega)
          clear hcl k0 k1 hp hq h1 h2 h3 Pp Pq Po
          have hbl2 : Below w.heap.size w (wr.alloc (.cells #[.int .i64 p, .int .i64 q] 143)) := by (repeat' (first | (with_reducible exact Below.refl _ _) | (with_reducible assumption) | (with_reducible refine Below.drew ?_) | (with_reducible refine below_drewN ?_ _) | (with_reducible refine Below.alloc ?_ ?_ _) | (with_reducible refine Below.setCell ?_ ?_ _) | (with_reducible refine Below.step (by assumption) ?_ ?_))); all_goals (first | omega | (simp; done) | (simp; omega))
          have hW2 := hW.alloc (.cells #[.int .i64 p, .int .i64 q] 143)
          cases hor : s.testBit p || s.testBit q
          · have HX := Lib.hid (HAN.out s hor)
            rw [Bool.or_eq_false_iff] at hor
            rw [hor.1] at bp
            rw [hor.2] at bq
            have bp' : bits .and .i64 ((s : Int) / 2 ^ p) 1 = 0 := bp
            have bq' : bits .and .i64 ((s : Int) / 2 ^ q) 1 = 0 := bq
            clear bp bq hor o1 o2 xp xq hW hbl
            go_wp2
            go_roundw
            case rel => exact ⟨i + 1, by omega, by go_num, by rw [HS.out, HX.out], hW2, hbl2⟩
            case measure => simp [intOf]; omega
          · have HX := Lib.hid (HAY.out s hor)
            cases hb1 : s.testBit p
            · rw [hb1, Bool.false_or] at hor
              rw [hb1] at bp
              rw [hor] at bq
              have bp' : bits .and .i64 ((s : Int) / 2 ^ p) 1 = 0 := bp
              have bq' : bits .and .i64 ((s : Int) / 2 ^ q) 1 = 1 := bq
              clear bp bq hor hb1 hW hbl
              generalize hO : s ||| (2 ^ p ||| 2 ^ q) = O at *
              generalize (2 ^ p ||| 2 ^ q) = O1 at *
              generalize hP : ((2 ^ p : Nat) : Int) = P at *
              generalize hQ : ((2 ^ q : Nat) : Int) = QQ at *
              clear hP hQ hO
              go_wp2
              go_quiet (fail)
              go_wp2
              go_roundw
              case rel => exact ⟨i + 1, by omega, by go_num, by rw [HS.out, HX.out], hW2, below_drewN hbl2 _⟩
              case measure => simp [intOf]; omega
            · rw [hb1] at bp
              have bp' : bits .and .i64 ((s : Int) / 2 ^ p) 1 = 1 := bp
              clear bp bq hor hb1 hW hbl
              generalize hO : s ||| (2 ^ p ||| 2 ^ q) = O at *
              generalize (2 ^ p ||| 2 ^ q) = O1 at *
              generalize hP : ((2 ^ p : Nat) : Int) = P at *
              generalize hQ : ((2 ^ q : Nat) : Int) = QQ at *
              clear hP hQ hO
              go_wp2
              go_quiet (fail)
              go_wp2
              go_roundw
              case rel => exact ⟨i + 1, by omega, by go_num, by rw [HS.out, HX.out], hW2, below_drewN hbl2 _⟩
              case measure => simp [intOf]; omega
        · have hii : i = ls.length := by omega
          subst hii
          have HX : Hid (roundS T (ls.take ls.length) = roundS T ls) := Lib.hid (by rw [List.take_length])
          rw [HX.out]
          go_wp2
          go_roundw
          case rel => exact ⟨j + 1, by omega, by go_num, by rw [HTS.out], hW, hbl⟩
          case measure => simp [intOf]; omega
    · have hjj : j = ns.length := by omega
      subst hjj
      have hlt := HLT.out ns.length
      rw [← HBE.out] at hlt
      have HM := Lib.hid (fun (v : World) => iMembers_any (roundsS (2 ^ k) ls ns.length) ns.length v hlt (by omega))
      clear hlt
      generalize roundsS (2 ^ k) ls ns.length = R at *
      go_wp2_with fail
      refine (HM.out _).mono ?_
      rintro e w1 ⟨v1, rfl, ho1, hb1⟩
      go_wp2
      go_ret
      exact ⟨_, rfl, ho1.mono (by omega), hbl.trans (hb1.mono hbl.size)⟩

theorem ends_in {ns ls : List Pr} (hld : ∀ j : Nat, j < ls.length → leadB ns (ndI ls j) = true) : EndsIn ns.length ls := by
  intro j hj
  obtain ⟨h1, h2, h3, _⟩ := leadB_iff.1 (hld j hj)
  exact ⟨(ndI ls j).1.toNat, (ndI ls j).2.toNat, by omega, by omega, by omega, by omega⟩

set_option maxHeartbeats 4000000 in
set_option maxRecDepth 100000 in
theorem iWhole_any (vn vl : Value) (ns ls : List Pr) (w : World) (hn : RP w vn ns) (hl : RP w vl ls) :
    Calls Tryz.prog 72 #[.agg #[vn, vl]] w fun e w' => e = .returned (.bool (wholeB ns ls)) ∧ Below w.heap.size w w' := by
  obtain ⟨An, cn, rfl, hcn, hmn, _⟩ := hn.formI
  obtain ⟨Al, cl, rfl, hcl, hml, _⟩ := hl.formI
  unfold maxLen at hmn hml
  have hb0 : Below w.heap.size w (w.alloc (.cells #[.slice An ns.length cn, .slice Al ls.length cl] 38)) := by (repeat' (first | (with_reducible exact Below.refl _ _) | (with_reducible assumption) | (with_reducible refine Below.drew ?_) | (with_reducible refine below_drewN ?_ _) | (with_reducible refine Below.alloc ?_ ?_ _) | (with_reducible refine Below.setCell ?_ ?_ _) | (with_reducible refine Below.step (by assumption) ?_ ?_))); all_goals (first | omega | (simp; done) | (simp; omega))
  have hn0 := hn.below hb0
  have hl0 := hl.below hb0
  cases hw : winB ns ls
  · have HR : Hid (wholeB ns ls = false) := Lib.hid (by simp [wholeB, hw])
    have HC := Lib.hid (fun (v : World) (h1 : RP v (.slice An ns.length cn) ns) (h2 : RP v (.slice Al ls.length cl) ls) => iWinOk_at _ _ ns ls _ v h1 h2 hw)
    clear hw
    go_enter Tryz.func72, Tryz.ntmps72
    go_wp2_with fail
    (refine wp_region_quietG (by kernel_rfl) (by kernel_rfl) (fun hG => ?_))
    repeat (go_big_quiet_step ((go_at_call 125; exact quietG (HC.out _ (RS.grw _ hn0) (RS.grw _ hl0)))))
    (refine wpQuiet_nil ?_); (clear hG); (rintro w3 ⟨⟨_, hb3⟩, rfl⟩); (try dsimp only); (first | (with_reducible have hcf3 := bcell_drew hb3) | have hcf3 := bcell hb3); obtain ⟨hc3, hf3⟩ := hcf3; have hz3 := hb3.size; (try simp at hz3); (try have hp3_0 : w.heap.size < w3.heap.size := by omega); (try have hp3_1 : w.heap.size + 1 < w3.heap.size := by omega); (try have hp3_2 : w.heap.size + 1 + 1 < w3.heap.size := by omega); (try have hp3_3 : w.heap.size + 1 + 1 + 1 < w3.heap.size := by omega)
    go_wp2
    go_ret
    exact ⟨ret_bool HR.out.symm, by (repeat' (first | (with_reducible exact Below.refl _ _) | (with_reducible assumption) | (with_reducible refine Below.drew ?_) | (with_reducible refine below_drewN ?_ _) | (with_reducible refine Below.alloc ?_ ?_ _) | (with_reducible refine Below.setCell ?_ ?_ _) | (with_reducible refine Below.step (by assumption) ?_ ?_))); all_goals (first | omega | (simp; done) | (simp; omega))⟩
  · have HC := Lib.hid (fun (v : World) (h1 : RP v (.slice An ns.length cn) ns) (h2 : RP v (.slice Al ls.length cl) ls) => iWinOk_at _ _ ns ls _ v h1 h2 hw)
    by_cases h0 : ls.length = 0
    · have HR : Hid (wholeB ns ls = false) := Lib.hid (by simp [wholeB, hw, h0])
      have e1 : decide ((0 : Int) < (ls.length : Int)) = false := by simp [h0]
      have e2 : ¬ (0 : Int) < (ls.length : Int) := by omega
      have e3 : decide (0 < ls.length) = false := by simp [h0]
      have e4 : ¬ 0 < ls.length := by omega
      clear hw h0
      go_enter Tryz.func72, Tryz.ntmps72
      go_wp2_with fail
      (refine wp_region_quietG (by kernel_rfl) (by kernel_rfl) (fun hG => ?_))
      repeat (go_big_quiet_step ((go_at_call 125; exact quietG (HC.out _ (RS.grw _ hn0) (RS.grw _ hl0)))))
      (refine wpQuiet_nil ?_); (clear hG); (rintro w3 ⟨⟨_, hb3⟩, rfl⟩); (try dsimp only); (first | (with_reducible have hcf3 := bcell_drew hb3) | have hcf3 := bcell hb3); obtain ⟨hc3, hf3⟩ := hcf3; have hz3 := hb3.size; (try simp at hz3); (try have hp3_0 : w.heap.size < w3.heap.size := by omega); (try have hp3_1 : w.heap.size + 1 < w3.heap.size := by omega); (try have hp3_2 : w.heap.size + 1 + 1 < w3.heap.size := by omega); (try have hp3_3 : w.heap.size + 1 + 1 + 1 < w3.heap.size := by omega)
      go_wp2
      go_ret
      exact ⟨ret_bool HR.out.symm, by (repeat' (first | (with_reducible exact Below.refl _ _) | (with_reducible assumption) | (with_reducible refine Below.drew ?_) | (with_reducible refine below_drewN ?_ _) | (with_reducible refine Below.alloc ?_ ?_ _) | (with_reducible refine Below.setCell ?_ ?_ _) | (with_reducible refine Below.step (by assumption) ?_ ?_))); all_goals (first | omega | (simp; done) | (simp; omega))⟩
    · have hok := winB_true.1 hw
      have hld : ∀ j : Nat, j < ls.length → leadB ns (ndI ls j) = true := fun j hj => (hok.2.2.2.2.2 j hj).1
      have hn1 := hok.1
      have hws := whole_set (ends_in hld) hok.1
      have HP := Lib.hid (fun (v : World) (h1 : RP v (.slice An ns.length cn) ns) (h2 : RP v (.slice Al ls.length cl) ls) => iPartOf_any _ _ ns ls 0 v h1 h2 hok.1 hok.2.1 hok.2.2.1 hld)
      have e0 : (2 : Nat) ^ 0 = 1 := rfl
      rw [e0] at HP
      have e2 : (0 : Int) < (ls.length : Int) := by omega
      have e1 : decide ((0 : Int) < (ls.length : Int)) = true := by simp; omega
      have e3 : decide (0 < ls.length) = true := by simp; omega
      have e4 : 0 < ls.length := by omega
      generalize memS (roundsS 1 ls ns.length) ns.length = G at *
      have HR : Hid (wholeB ns ls = ((G.length : Int) == (ns.length : Int))) := Lib.hid (by
        unfold wholeB
        rw [hw]
        have h1 : decide (0 < ls.length) = true := by simp; omega
        rw [h1, Bool.true_and, Bool.true_and]
        cases hq : (partsK ns.length ls ls.length).all (· == 0)
        · have : ¬ G.length = ns.length := fun h => by rw [hws.1 h] at hq; cases hq
          symm; simp; omega
        · have := hws.2 hq
          symm; simp; omega)
      have HN0 := Lib.hid hn0
      have HL0 := Lib.hid hl0
      clear hw h0 hok hld hws hn1 hn0 hl0 e0
      go_enter Tryz.func72, Tryz.ntmps72
      go_wp2_with fail
      go_region_held3 (fun w' => w'.cell? ⟨w.heap.size, 0, none⟩ = some (.slice An ns.length cn) ∧ w'.cell? ⟨w.heap.size, 1, none⟩ = some (.slice Al ls.length cl))
        (go_keep)
        (first | (go_at_call 125; refine (HC.out _ (hn.below (by (repeat' (first | (with_reducible exact Below.refl _ _) | (with_reducible assumption) | (with_reducible refine Below.drew ?_) | (with_reducible refine below_drewN ?_ _) | (with_reducible refine Below.alloc ?_ ?_ _) | (with_reducible refine Below.setCell ?_ ?_ _) | (with_reducible refine Below.step (by assumption) ?_ ?_))); all_goals (first | omega | (simp; done) | (simp; omega)))) (hl.below (by (repeat' (first | (with_reducible exact Below.refl _ _) | (with_reducible assumption) | (with_reducible refine Below.drew ?_) | (with_reducible refine below_drewN ?_ _) | (with_reducible refine Below.alloc ?_ ?_ _) | (with_reducible refine Below.setCell ?_ ?_ _) | (with_reducible refine Below.step (by assumption) ?_ ?_))); all_goals (first | omega | (simp; done) | (simp; omega))))).mono ?_; rintro e w1 ⟨rfl, hb1⟩; (first | (with_reducible have hcf1 := bcell_drew hb1) | have hcf1 := bcell hb1); obtain ⟨hc1, hf1⟩ := hcf1; have hz1 := hb1.size; (try simp at hz1); (try have hp1_0 : w.heap.size < w1.heap.size := by omega); (try have hp1_1 : w.heap.size + 1 < w1.heap.size := by omega); (try have hp1_2 : w.heap.size + 1 + 1 < w1.heap.size := by omega); (try have hp1_3 : w.heap.size + 1 + 1 + 1 < w1.heap.size := by omega); have hbw1 : Below w.heap.size w w1 := (by (repeat' (first | (with_reducible exact Below.refl _ _) | (with_reducible assumption) | (with_reducible refine Below.drew ?_) | (with_reducible refine below_drewN ?_ _) | (with_reducible refine Below.alloc ?_ ?_ _) | (with_reducible refine Below.setCell ?_ ?_ _) | (with_reducible refine Below.step (by assumption) ?_ ?_))); all_goals (first | omega | (simp; done) | (simp; omega)))) | (go_at_call 131; refine (HP.out _ (hn.below (by (repeat' (first | (with_reducible exact Below.refl _ _) | (with_reducible assumption) | (with_reducible refine Below.drew ?_) | (with_reducible refine below_drewN ?_ _) | (with_reducible refine Below.alloc ?_ ?_ _) | (with_reducible refine Below.setCell ?_ ?_ _) | (with_reducible refine Below.step (by assumption) ?_ ?_))); all_goals (first | omega | (simp; done) | (simp; omega)))) (hl.below (by (repeat' (first | (with_reducible exact Below.refl _ _) | (with_reducible assumption) | (with_reducible refine Below.drew ?_) | (with_reducible refine below_drewN ?_ _) | (with_reducible refine Below.alloc ?_ ?_ _) | (with_reducible refine Below.setCell ?_ ?_ _) | (with_reducible refine Below.step (by assumption) ?_ ?_))); all_goals (first | omega | (simp; done) | (simp; omega))))).mono ?_; rintro e w2 ⟨v2, rfl, ho2, hb2⟩; obtain ⟨A2, c2, rfl⟩ := ho2.form; (first | (with_reducible have hcf2 := bcell_drew hb2) | have hcf2 := bcell hb2); obtain ⟨hc2, hf2⟩ := hcf2; have hz2 := hb2.size; (try simp at hz2); (try have hp2_0 : w.heap.size < w2.heap.size := by omega); (try have hp2_1 : w.heap.size + 1 < w2.heap.size := by omega); (try have hp2_2 : w.heap.size + 1 + 1 < w2.heap.size := by omega); (try have hp2_3 : w.heap.size + 1 + 1 + 1 < w2.heap.size := by omega)))
      rw [natI_length]
      go_wp2
      go_ret
      exact ⟨ret_bool HR.out.symm, by (repeat' (first | (with_reducible exact Below.refl _ _) | (with_reducible assumption) | (with_reducible refine Below.drew ?_) | (with_reducible refine below_drewN ?_ _) | (with_reducible refine Below.alloc ?_ ?_ _) | (with_reducible refine Below.setCell ?_ ?_ _) | (with_reducible refine Below.step (by assumption) ?_ ?_))); all_goals (first | omega | (simp; done) | (simp; omega))⟩

end Go.Proofs.YtoknmjpnelbplaaGreat

namespace Go.Proofs.YtoknmjpnelbplaaGreat
open Go.RowKit

/-- A row of its own of things of one cell. -/
def OwnE {α : Type} (t : TypeId) (enc : α → Value) (base : Nat) (w : World) (v : Value) (l : List α) : Prop := w.ownsRow base t 1 v l.length (l.map enc)

section
variable {α : Type} {t : TypeId} {enc : α → Value} {base : Nat} {w w' : World} {v : Value} {l : List α} {g n cap : Nat}
theorem OwnE.kept (h : OwnE t enc base w v l) (hb : Below w.heap.size w w') : OwnE t enc base w' v l := own_kept h hb
theorem OwnE.alloc (h : OwnE t enc base w v l) (o : Obj) : OwnE t enc base (w.alloc o) v l := World.ownsRow.alloc h o
theorem OwnE.lt (h : OwnE t enc base w v l) : ∀ k, v.ownBlock = some k → base ≤ k ∧ k < w.heap.size := World.ownsRow.lt h
theorem OwnE.form (h : OwnE t enc base w v l) : ∃ A c, v = .slice A l.length c := by
  rcases h.2 with ⟨rfl, hn⟩ | ⟨g, cap, cur, rfl, _⟩
  · exact ⟨none, 0, by rw [hn]⟩
  · exact ⟨_, _, rfl⟩
theorem OwnE.len (h : OwnE t enc base w (.slice (some ⟨g, 0, none⟩) n cap) l) : n = l.length := by
  obtain ⟨A, c, e⟩ := h.form
  cases e; rfl
theorem OwnE.cell (h : OwnE t enc base w (.slice (some ⟨g, 0, none⟩) n cap) l) (d : α) {q : Nat} (hq : q < l.length) : w.cell? ⟨g, q, none⟩ = some (enc (l.getD q d)) := by
  have e := h.len
  subst e
  have ho : w.ownsRow base t 1 (.slice (some ⟨g, 0, none⟩) l.length cap) l.length (l.map enc) := h
  rw [ho.cellAt q (by omega), List.getElem?_map, List.getElem?_eq_getElem hq]
  simp [List.getD, List.getElem?_eq_getElem hq]
theorem OwnE.frz (h : OwnE t enc base w (.slice (some ⟨g, 0, none⟩) n cap) l) (q : Nat) : w.frozen? ⟨g, q, none⟩ = false := by
  have e := h.len
  subst e
  have ho : w.ownsRow base t 1 (.slice (some ⟨g, 0, none⟩) l.length cap) l.length (l.map enc) := h
  exact ho.frozenAt q
theorem OwnE.set_ (h : OwnE t enc base w (.slice (some ⟨g, 0, none⟩) n cap) l) (q : Nat) (x : α) : OwnE t enc base (w.setCell ⟨g, q, none⟩ (enc x)) (.slice (some ⟨g, 0, none⟩) n cap) (l.set q x) := by
  have e := h.len
  subst e
  have ho : w.ownsRow base t 1 (.slice (some ⟨g, 0, none⟩) l.length cap) l.length (l.map enc) := h
  have := (ho.stored q (enc x)).1
  unfold OwnE
  rw [List.length_set, List.map_set]
  exact this
/-- What belongs to a row of another type is left alone. -/
theorem OwnE.other (h : OwnE t enc base w v l) {b2 s2 n2 : Nat} {t2 : TypeId} {u : Value} {xs : List Value} (h2 : w.ownsRow b2 t2 s2 u n2 xs) (hne : t ≠ t2) (hg : w.grownBy w' u.ownBlock) : OwnE t enc base w' v l := by
  refine World.ownsRow.kept h hg ?_
  rcases h.2 with ⟨rfl, hn⟩ | ⟨g, cap, cur, rfl, _, hh, _⟩
  · exact .inl rfl
  · right
    rcases h2.2 with ⟨rfl, _⟩ | ⟨g2, cap2, cur2, rfl, _, hh2, _⟩
    · exact fun e => by cases e
    · intro e
      have e' : g = g2 := by injection e
      subst e'
      rw [hh] at hh2
      injection hh2 with hh2
      injection hh2 with _ hh2 _
      exact hne hh2
end

theorem RS.get {w : World} {v : Value} {n : Nat} {xs : List Value} (h : RS w 1 v n xs) : ∃ A c, v = .slice A n c ∧ n ≤ c ∧ n ≤ maxLen ∧ (0 < n → ∃ b off, A = some ⟨b, off, none⟩ ∧ b < w.heap.size ∧ ∀ k, k < n → w.cell? ⟨b, off + k, none⟩ = some (xs.getD k undef)) := by
  obtain ⟨h0, A, c, h1, h2, h3, h4⟩ := h
  refine ⟨A, c, h1, h2, h3, fun hn => ?_⟩
  obtain ⟨b, off, e1, e2, e3⟩ := h4 hn
  refine ⟨b, off, e1, e2, fun k hk => e3 k _ ?_⟩
  rw [List.getD, List.getElem?_eq_getElem (by omega)]
  rfl

/-- Rows of ints, in memory that the call itself has made. -/
def OwnF (base : Nat) (w : World) (v : Value) (F : List (List Nat)) : Prop := ∃ vs : List Value, vs.length = F.length ∧ w.ownsRow base 29 1 v F.length vs ∧ ∀ k, k < F.length → OwnI base w (vs.getD k undef) (natI (F.getD k []))

/-- v reads as rows of ints. -/
def RF (w : World) (v : Value) (F : List (List Nat)) : Prop := ∃ vs : List Value, RS w 1 v F.length vs ∧ ∀ k, k < F.length → RI w (vs.getD k undef) (natI (F.getD k []))

def RetF (F : List (List Nat)) (w : World) (e : Ending) (w' : World) : Prop := ∃ v, e = .returned v ∧ OwnF w.heap.size w' v F ∧ Below w.heap.size w w'

section
variable {base : Nat} {w w' : World} {v : Value} {F : List (List Nat)}
theorem OwnF.nil (base : Nat) (w : World) : OwnF base w (.slice none 0 0) [] := ⟨[], rfl, World.ownsRow_nil _ _ _ _, fun k hk => absurd hk (by simp)⟩
theorem OwnF.kept (h : OwnF base w v F) (hb : Below w.heap.size w w') : OwnF base w' v F := by
  obtain ⟨vs, h1, h2, h3⟩ := h
  exact ⟨vs, h1, own_kept h2 hb, fun k hk => (h3 k hk).kept hb⟩
theorem OwnF.alloc (h : OwnF base w v F) (o : Obj) : OwnF base (w.alloc o) v F := h.kept ((Below.refl _ _).alloc (Nat.le_refl _) _)
theorem OwnF.far {row : Option Nat} (h : OwnF base w v F) (hg : w.grownBy w' row) (hr : ∀ k, row = some k → k < base) : OwnF base w' v F := by
  obtain ⟨vs, h1, h2, h3⟩ := h
  refine ⟨vs, h1, ?_, fun k hk => (h3 k hk).far hg hr⟩
  refine World.ownsRow.kept h2 hg ?_
  cases hv : v.ownBlock with
  | none => exact .inl rfl
  | some k =>
    right
    rintro rfl
    have := hr k rfl
    have := (World.ownsRow.lt h2 k hv).1
    omega
theorem OwnF.mono {base' : Nat} (h : OwnF base w v F) (hb : base' ≤ base) : OwnF base' w v F := by
  obtain ⟨vs, h1, h2, h3⟩ := h
  refine ⟨vs, h1, ?_, fun k hk => (h3 k hk).mono hb⟩
  obtain ⟨h4, h5⟩ := h2
  refine ⟨h4, ?_⟩
  rcases h5 with h5 | ⟨g, cap, cur, e1, e2, e3⟩
  · exact .inl h5
  · exact .inr ⟨g, cap, cur, e1, Nat.le_trans hb e2, e3⟩
theorem OwnF.form (h : OwnF base w v F) : ∃ A c, v = .slice A F.length c := by
  obtain ⟨vs, h1, h2, h3⟩ := h
  rcases h2.2 with ⟨rfl, hn⟩ | ⟨g, cap, cur, rfl, _⟩
  · exact ⟨none, 0, by rw [hn]⟩
  · exact ⟨_, _, rfl⟩
theorem OwnF.reads (h : OwnF base w v F) : RF w v F := by
  obtain ⟨vs, h1, h2, h3⟩ := h
  exact ⟨vs, own_reads h2, fun k hk => (h3 k hk).reads⟩
theorem OwnF.lt (h : OwnF base w v F) : ∀ k, v.ownBlock = some k → base ≤ k ∧ k < w.heap.size := by
  obtain ⟨vs, h1, h2, h3⟩ := h
  exact World.ownsRow.lt h2
end

theorem ty_ne : 3 ≠ 29 := by decide

/-- A row put behind the others. -/
theorem OwnF.snoc {base n : Nat} {w w' : World} {v v' u : Value} {vs : List Value} {F : List (List Nat)} {f : List Nat} (hv : vs.length = F.length) (h2 : w.ownsRow base 29 1 v n vs) (h3 : ∀ k, k < F.length → OwnI base w (vs.getD k undef) (natI (F.getD k [])))
    (hu : OwnI base w u (natI f)) (hg : w.grownBy w' v.ownBlock) (hw : w'.ownsRow base 29 1 v' (n + 1) (vs ++ [u])) : OwnF base w' v' (F ++ [f]) := by
  have hn : n = F.length := by have := h2.1; omega
  subst hn
  have kp : ∀ x zs, OwnI base w x zs → OwnI base w' x zs := fun x zs hx => OwnE.other (t := 3) (enc := vI) hx h2 ty_ne hg
  refine ⟨vs ++ [u], by simp [hv], by simpa using hw, fun k hk => ?_⟩
  rw [List.length_append, List.length_singleton] at hk
  by_cases he : k = F.length
  · subst he
    rw [List.getD, List.getElem?_append_right (by omega), hv, Nat.sub_self, List.getD, List.getElem?_append_right (Nat.le_refl _), Nat.sub_self]
    exact kp _ _ hu
  · have hlt : k < F.length := by omega
    have e1 : (vs ++ [u]).getD k undef = vs.getD k undef := by rw [List.getD, List.getD, List.getElem?_append_left (by omega)]
    have e2 : (F ++ [f]).getD k [] = F.getD k [] := by rw [List.getD, List.getD, List.getElem?_append_left hlt]
    rw [e1, e2]
    exact kp _ _ (h3 k hlt)

theorem infoRow : (Tryz.prog.info? 29).map (fun i => (i.zero, i.size, i.bytes)) = some (some (.slice none 0 0), 1, 24) := by kernel_rfl

/-- append(rows, row). -/
theorem wpList_append_row {w : World} {ops : Array Oper} {rest : List Oper} {o : Oper} {a : Act} {Q : Exit → Act → World → Prop} (hgd : o.guard = none) (s x : Operand)
    (ho : o.op = .call { callee := .builtin .append, args := #[s, x], argTypes := #[130, 130] })
    (base : Nat) (v u : Value) (F : List (List Nat)) (f : List Nat) (hs : a.eval s = v) (g : Nat) (hx : a.eval x = .slice (some ⟨g, 0, none⟩) 1 1) (hg : w.cell? ⟨g, 0, none⟩ = some u)
    (hown : OwnF base w v F) (hu : OwnI base w u (natI f)) (hlen : F.length ≤ 1048576) (hbase : base ≤ w.heap.size)
    (h : ∀ v' w', OwnF base w' v' (F ++ [f]) → w.grownBy w' v.ownBlock → wpList Tryz.prog ops Q rest (a.put o.dst v') w') : wpList Tryz.prog ops Q (o :: rest) a w := by
  obtain ⟨i, hi, hz, hsize, hby⟩ := info_parts infoRow
  obtain ⟨vs, h1, h2, h3⟩ := hown
  exact wpList_append_own w hgd s x 130 ho base 29 i (.slice none 0 0) 1 24 Tryz.underlying130 hi hz hsize hby rfl (by decide) v F.length _ hs h2 ⟨g, 0, none⟩ 1 1 [u] hx rfl
    (fun j y hj => by
      match j, hj with
      | 0, hj => cases hj; exact hg
      | j + 1, hj => simp at hj)
    (by
      intro y hy
      simp at hy
      subst hy
      obtain ⟨A, c, rfl⟩ := hu.form
      rfl) (by unfold maxLen; omega) (by omega) hbase fun v' w' e1 e2 _ => h v' w' (OwnF.snoc h1 h2 h3 hu e2 e1) e2

/-- The darts that are in faces, and in the first j of one more. -/
def mkS (n : Nat) (F : List (List Nat)) (f : List Nat) (j : Nat) : List Bool := (List.range n).map fun e => seenB F e || (f.take j).contains e
theorem mkS_len (n : Nat) (F : List (List Nat)) (f : List Nat) (j : Nat) : (mkS n F f j).length = n := by simp [mkS]
theorem mkS_zero (n : Nat) (F : List (List Nat)) (f : List Nat) : mkS n F f 0 = (List.range n).map (seenB F) := by simp [mkS]
theorem mkS_start (n : Nat) : (List.range n).map (seenB []) = List.replicate n false := by
  apply List.ext_getElem?
  intro j
  by_cases hj : j < n
  · simp [List.getElem?_map, hj, seenB, List.getElem?_replicate]
  · simp [hj, List.getElem?_replicate]
theorem mkS_all (n : Nat) (F : List (List Nat)) (f : List Nat) : mkS n F f f.length = (List.range n).map (seenB (F ++ [f])) := by
  unfold mkS seenB
  rw [List.take_length]
  simp
theorem mkS_succ (n : Nat) (F : List (List Nat)) (f : List Nat) (j : Nat) (hj : j < f.length) : mkS n F f (j + 1) = (mkS n F f j).set (f.getD j 0) true := by
  have e : f.getD j 0 = f[j] := by simp [List.getD, hj]
  rw [e]
  apply List.ext_getElem?
  intro i
  rw [List.getElem?_set, mkS_len]
  unfold mkS
  by_cases hi : i < n
  · rw [List.getElem?_map, List.getElem?_map, List.getElem?_range hi, Option.map_some, Option.map_some, List.take_succ_eq_append_getElem hj, List.contains_append]
    by_cases he : f[j] = i
    · rw [if_pos he, if_pos (by omega), he]; simp
    · rw [if_neg he]
      have : ([f[j]] : List Nat).contains i = false := by simp; omega
      rw [this, Bool.or_false]
  · have h1 : (List.range n)[i]? = none := by simp; omega
    rw [List.getElem?_map, List.getElem?_map, h1]
    by_cases he : f[j] = i
    · rw [if_pos he, if_neg (by omega)]; rfl
    · rw [if_neg he]; rfl
theorem mkS_get {n : Nat} {F : List (List Nat)} {d : Nat} (h : d < n) : ((List.range n).map (seenB F)).getD d false = seenB F d := by simp [List.getD, h]

theorem madeB (n : Nat) : (madeCells #[.bool false] n).toList = (List.replicate n false).map Value.bool := by
  apply List.ext_getElem?
  intro j
  by_cases hj : j < n
  · simp only [madeCells, Array.toList_map, List.getElem?_map, Array.toList_range, List.getElem?_range hj, List.getElem?_replicate, if_pos hj, Option.map_some]
    congr 1
    show #[Value.bool false][j % 1]! = _
    rw [Nat.mod_one]; rfl
  · simp [madeCells, hj]

theorem infoBool : (Tryz.prog.info? 4).map (fun i => (i.zero, i.size, i.bytes)) = some (some (.bool false), 1, 1) := by kernel_rfl

/-- The faces of a window that is whole, or none. -/
noncomputable def facesW (ns ls : List Pr) : List (List Nat) := if wholeB ns ls then facesD ns ls else []

end Go.Proofs.YtoknmjpnelbplaaGreat

namespace Go.Proofs.YtoknmjpnelbplaaGreat
open Go.RowKit

theorem iWhole_at (vn vl : Value) (ns ls : List Pr) (b : Bool) (w : World) (hn : RP w vn ns) (hl : RP w vl ls) (hb : wholeB ns ls = b) :
    Calls Tryz.prog 72 #[.agg #[vn, vl]] w fun e w' => e = .returned (.bool b) ∧ Below w.heap.size w w' := by
  subst hb; exact iWhole_any vn vl ns ls w hn hl

theorem cell_new1 {W : World} {v : Value} {t : TypeId} {g : Nat} (hg : g = W.heap.size) : (W.alloc (.cells #[v] t)).cell? ⟨g, 0, none⟩ = some v := (Blk.newAt hg).cell 0

theorem ty_nb : 3 ≠ 4 := by decide

theorem OwnF.made {base g : Nat} {w : World} (hg : g = w.heap.size) (hb : base ≤ w.heap.size) : OwnF base (w.alloc (.cells #[] 29)) (.slice (some ⟨g, 0, none⟩) 0 0) [] := by
  subst hg
  exact ⟨[], rfl, World.ownsRow_made _ _ _ hb (by simp [maxLen]) (by simp), fun k hk => absurd hk (by simp)⟩

theorem OwnF.grownNone {base : Nat} {w w' : World} {v : Value} {F : List (List Nat)} (h : OwnF base w v F) (hg : w.grownBy w' none) : OwnF base w' v F :=
  h.far hg (fun k hk => by cases hk)

/-- Bools are no rows of ints. -/
theorem OwnF.offType {base b2 : Nat} {w w' : World} {v u : Value} {F : List (List Nat)} {l : List Bool} (h : OwnF base w v F) (hs : OwnE 4 Value.bool b2 w u l) (hg : w.grownBy w' u.ownBlock) : OwnF base w' v F := by
  obtain ⟨vs, h1, h2, h3⟩ := h
  have h2' : OwnE 29 (fun x : Value => x) base w v vs := by
    unfold OwnE
    rw [List.map_id', h1]; exact h2
  refine ⟨vs, h1, ?_, fun k hk => OwnE.other (t := 3) (enc := vI) (h3 k hk) hs ty_nb hg⟩
  have := OwnE.other h2' hs (by decide) hg
  unfold OwnE at this
  rw [List.map_id', h1] at this
  exact this

set_option maxHeartbeats 8000000 in
set_option maxRecDepth 100000 in
theorem iFaces_any (vn vl : Value) (ns ls : List Pr) (w : World) (hn : RP w vn ns) (hl : RP w vl ls) :
    Calls Tryz.prog 187 #[.agg #[vn, vl]] w (RetF (facesW ns ls) w) := by
  obtain ⟨An, cn, rfl, hcn, hmn, _⟩ := hn.formI
  obtain ⟨Al, cl, rfl, hcl, hml, _⟩ := hl.formI
  unfold maxLen at hmn hml
  have hb0 : Below w.heap.size w (w.alloc (.cells #[.slice An ns.length cn, .slice Al ls.length cl] 38)) := by (repeat' (first | (with_reducible exact Below.refl _ _) | (with_reducible assumption) | (with_reducible refine Below.drew ?_) | (with_reducible refine below_drewN ?_ _) | (with_reducible refine Below.alloc ?_ ?_ _) | (with_reducible refine Below.setCell ?_ ?_ _) | (with_reducible refine Below.step (by assumption) ?_ ?_))); all_goals (first | omega | (simp; done) | (simp; omega))
  have hW0 : Blk (w.alloc (.cells #[.slice An ns.length cn, .slice Al ls.length cl] 38)) w.heap.size 38 #[.slice An ns.length cn, .slice Al ls.length cl] := Blk.newAt rfl
  cases hw : wholeB ns ls
  · have HR : Hid (facesW ns ls = []) := Lib.hid (by simp [facesW, hw])
    go_enter Tryz.func187, Tryz.ntmps187
    go_wp2_with fail
    refine (iWhole_at _ _ ns ls _ _ (hn.below hb0) (hl.below hb0) hw).mono ?_
    rintro e w1 ⟨rfl, hb1⟩
    have hbw1 := hb0.trans (hb1.mono hb0.size)
    go_wp2
    go_ret
    exact ⟨_, rfl, by rw [HR.out]; exact OwnF.nil _ _, hbw1⟩
  · have HR : Hid (facesW ns ls = facesK ns ls (2 * ls.length)) := Lib.hid (by simp [facesW, hw]; rfl)
    have hwin := (whole_win hw).1
    have hpos := (whole_win hw).2
    have hm20 := hwin.2.2.1
    have hld : ∀ j : Nat, j < ls.length → leadB ns (ndI ls j) = true := fun j hj => (hwin.2.2.2.2.2 j hj).1
    obtain ⟨i0, hi, iz0, iz1, iz2⟩ := info_parts infoBool
    have HWK := Lib.hid (fun (v : World) (d : Nat) (hv : Below w.heap.size w v) (hd : d < 2 * ls.length) => iWalk_any (.slice An ns.length cn) (.slice Al ls.length cl) ns ls d v (hn.below hv) (hl.below hv) hd hwin)
    have HBD := Lib.hid (fun d hd => walk_bd (ns := ns) hld (d := d) hd)
    have HWL := Lib.hid (fun d hd => walk_len (ns := ns) hld (d := d) hd)
    have HFL := Lib.hid (facesK_len ns ls)
    have HFY := Lib.hid (fun m h => facesK_yes (ns := ns) (ls := ls) (m := m) h)
    have HFN := Lib.hid (fun m h => facesK_no (ns := ns) (ls := ls) (m := m) h)
    have HF0 : Hid (facesK ns ls 0 = []) := Lib.hid rfl
    have e2 : 2 * (ls.length : Int) = ((2 * ls.length : Nat) : Int) := by omega
    clear hwin hld
    go_enter Tryz.func187, Tryz.ntmps187
    go_wp2_with fail
    refine (iWhole_at _ _ ns ls _ _ (hn.below hb0) (hl.below hb0) hw).mono ?_
    rintro e w1 ⟨rfl, hb1⟩
    have hbw1 := hb0.trans (hb1.mono hb0.size)
    have hW1 := hW0.below hb1 hW0.lt
    have hz1 := hW1.lt
    clear hb1 hb0 hW0 hw
    (have a_0 := hW1.cell 0); (have a_1 := hW1.cell 1); simp only [List.getElem?_toArray, List.getElem?_cons_succ, List.getElem?_cons_zero] at a_0 a_1
    generalize hNN : 2 * ls.length = N at *
    have hN40 : N ≤ 40 := by omega
    go_wp2_with (at_make; refine wpList_make_full _ rfl _ _ 171 rfl (w.heap.size + 1) 4 i0 (.bool false) 1 Tryz.underlying171 hi iz0 iz1 .i64 .i64 _ _ N rfl rfl rfl rfl (by rw [iz2]; omega) (by unfold maxLen; omega) (by omega) ?_)
    intro w2 hown1 hgr1
    have hb2 : Below w.heap.size w w2 := hbw1.grown hgr1 hbw1.size (by intro k hk; cases hk)
    have hW2 : Blk w2 w.heap.size 38 #[.slice An ns.length cn, .slice Al ls.length cl] := (hgr1.block _ hz1 (fun e => by cases e)).trans hW1
    have hz2 := hgr1.size
    have hsn : OwnE 4 Value.bool (w.heap.size + 1) w2 (.slice (some ⟨w1.heap.size, 0, none⟩) N N) ((List.range N).map (seenB (facesK ns ls 0))) := by
      unfold OwnE
      rw [HF0.out, mkS_start, List.length_replicate]
      rw [← madeB]; exact hown1
    have hgsz := (hsn.lt _ rfl).2
    have hO0 : OwnF (w1.heap.size + 1) w2 (.slice none 0 0) [] := OwnF.nil _ _
    have hgg := hz1
    generalize w1.heap.size = gs at *
    clear hown1 hgr1 hbw1 hW1 a_0 a_1 hz1 hz2
    (have a_0 := hW2.cell 0); (have a_1 := hW2.cell 1); simp only [List.getElem?_toArray, List.getElem?_cons_succ, List.getElem?_cons_zero] at a_0 a_1
    go_wp2
    go_loopw [4, 19] (fun v x wr => ∃ d : Nat, d ≤ N ∧ x = .int .i64 d ∧ OwnF (gs + 1) wr v (facesK ns ls d) ∧ OwnE 4 Value.bool (w.heap.size + 1) wr (.slice (some ⟨gs, 0, none⟩) N N) ((List.range N).map (seenB (facesK ns ls d))) ∧ Blk wr w.heap.size 38 #[.slice An ns.length cn, .slice Al ls.length cl] ∧ Below w.heap.size w wr) (fun _ x _ => N - (intOf x).toNat)
    case atStart => exact ⟨0, Nat.zero_le _, rfl, by rw [HF0.out]; exact hO0, hsn, hW2, hb2⟩
    case round =>
      clear hsn hW2 hb2 a_0 a_1
      obtain ⟨d, hd, rfl, ho, hsn, hW, hbl⟩ := hrel
      have hsz := hW.lt
      have hgz : gs < wr.heap.size := (hsn.lt gs rfl).2
      by_cases hlt : d < N
      · have hlt1 : (d : Int) < (N : Int) := by omega
        have hx := hsn.cell false (q := d) (by simpa using hlt)
        rw [mkS_get hlt] at hx
        have HY := Lib.hid (HFY.out d)
        have HNo := Lib.hid (HFN.out d)
        have hfl := HFL.out d
        generalize facesK ns ls d = F at *
        (have a_0 := hW.cell 0); (have a_1 := hW.cell 1); simp only [List.getElem?_toArray, List.getElem?_cons_succ, List.getElem?_cons_zero] at a_0 a_1
        cases hs : seenB F d
        · rw [hs] at hx
          have HS := Lib.hid (HNo.out hs)
          clear hs
          go_wp2_with fail
          refine (HWK.out _ d hbl hlt).mono ?_
          rintro e w3 ⟨v3, rfl, ho3, hb3⟩
          have hF3 := ho.kept hb3
          have hS3 := hsn.kept hb3
          have hW3 := hW.below hb3 hsz
          have hbl3 := hbl.trans (hb3.mono hbl.size)
          have hI3 : OwnI (gs + 1) w3 v3 (natI (walkD ns ls d)) := ho3.mono (by omega)
          have HB := Lib.hid (HBD.out d hlt)
          have hwl := HWL.out d hlt
          generalize walkD ns ls d = f at *
          obtain ⟨A3, c3, rfl⟩ := hI3.form
          rw [natI_length] at hI3 ⊢
          rw [← mkS_zero N F f] at hS3
          clear hb3 ho3 ho hsn hW hbl a_0 a_1 hx hsz
          go_wp2
          go_loopw [31] (fun x wr => ∃ j : Nat, j ≤ f.length ∧ x = .int .i64 j ∧ OwnF (gs + 1) wr u4 F ∧ OwnE 4 Value.bool (w.heap.size + 1) wr (.slice (some ⟨gs, 0, none⟩) N N) (mkS N F f j) ∧ OwnI (gs + 1) wr (.slice A3 f.length c3) (natI f) ∧ Blk wr w.heap.size 38 #[.slice An ns.length cn, .slice Al ls.length cl] ∧ Below w.heap.size w wr) (fun x _ => f.length - (intOf x).toNat)
          case atStart => exact ⟨0, Nat.zero_le _, rfl, hF3, hS3, hI3, hW3, hbl3⟩
          case round =>
            clear hF3 hS3 hI3 hW3 hbl3
            obtain ⟨j, hj, rfl, ho, hsn, hI, hW, hbl⟩ := hrel
            have hsz := hW.lt
            by_cases hjl : j < f.length
            · have hjl1 : (j : Int) < (f.length : Int) := by omega
              have ij1 : (0 : Int) ≤ (j : Int) := by omega
              obtain ⟨A4, c4, he4, hc4, hm4, hcell4⟩ := hI.reads.form
              rw [natI_length] at he4
              cases he4
              rw [natI_length] at hcell4
              obtain ⟨b4, off4, rfl, hb4, hcl4⟩ := hcell4 (by omega)
              have hx := hcl4 j hjl
              rw [natI_get] at hx
              have hem : f.getD j 0 < N := HB.out _ (by rw [List.getD, List.getElem?_eq_getElem hjl]; exact List.getElem_mem hjl)
              have HS1 := Lib.hid (mkS_succ N F f j hjl)
              generalize f.getD j 0 = x at *
              have ix1 : (0 : Int) ≤ (x : Int) := by omega
              have ix2 : (x : Int) < (N : Int) := by omega
              have hxs := hsn.cell false (q := x) (by rw [mkS_len]; exact hem)
              obtain ⟨z, hz⟩ : ∃ z, wr.cell? ⟨gs, x, none⟩ = some z := ⟨_, hxs⟩
              have fx := hsn.frz x
              have HSN : Hid (OwnE 4 Value.bool (w.heap.size + 1) (wr.setCell ⟨gs, x, none⟩ (.bool true)) (.slice (some ⟨gs, 0, none⟩) N N) (mkS N F f (j + 1))) := Lib.hid (by rw [HS1.out]; exact hsn.set_ x true)
              have hgw : wr.grownBy (wr.setCell ⟨gs, x, none⟩ (.bool true)) (some gs) := grown_set (grown_refl _ _) x _
              have HOF := Lib.hid (ho.far hgw (fun k hk => by cases hk; omega))
              have HIF := Lib.hid (hI.far hgw (fun k hk => by cases hk; omega))
              have HWF := Lib.hid (hW.far (p := ⟨gs, x, none⟩) (show ¬ w.heap.size = gs by omega) (.bool true))
              have HBF := Lib.hid (hbl.setCell (p := ⟨gs, x, none⟩) (show w.heap.size ≤ gs by omega) (.bool true))
              clear ho hsn hI hW hbl hxs hgw hcl4 hcell4
              go_wp2
              go_roundw
              case rel => exact ⟨j + 1, by omega, by go_num, HOF.out, HSN.out, HIF.out, HWF.out, HBF.out⟩
              case measure => simp [intOf]; omega
            · have hjj : j = f.length := by omega
              subst hjj
              have HSN : Hid (OwnE 4 Value.bool (w.heap.size + 1) wr (.slice (some ⟨gs, 0, none⟩) N N) ((List.range N).map (seenB (F ++ [f])))) := Lib.hid (by rw [← mkS_all]; exact hsn)
              have hgz4 : gs < wr.heap.size := (hsn.lt gs rfl).2
              clear hsn
              go_wp2_with (at_builtin; refine wpList_append_row rfl _ _ rfl (gs + 1) _ (.slice A3 f.length c3) F f rfl wr.heap.size rfl (cell_new1 (by simp)) (ho.alloc _) (hI.alloc _) (by omega) (by simp; omega) ?_)
              intro v4 w4 hF4 hg4
              have hrb : ∀ k, (u4 : Value).ownBlock = some k → gs + 1 ≤ k ∧ k < wr.heap.size := fun k hk => ho.lt k hk
              have hbl4 : Below w.heap.size w w4 := (hbl.alloc hbl.size (.cells #[.slice A3 f.length c3] 29)).grown hg4 (by simp; have := hbl.size; omega) (fun k hk => by have := (hrb k hk).1; omega)
              have hW4 : Blk w4 w.heap.size 38 #[.slice An ns.length cn, .slice Al ls.length cl] := (hg4.block _ (by simp; omega) (fun e => by have := (hrb _ e.symm).1; omega)).trans (hW.alloc _)
              have hS4 : OwnE 4 Value.bool (w.heap.size + 1) w4 (.slice (some ⟨gs, 0, none⟩) N N) ((List.range N).map (seenB (F ++ [f]))) := by
                obtain ⟨vs, g1, g2, g3⟩ := ho.alloc (.cells #[.slice A3 f.length c3] 29)
                exact OwnE.other (HSN.out.alloc _) g2 (by decide) hg4
              clear ho hI hW hbl hg4 hrb
              go_wp2
              go_roundw
              case rel => exact ⟨d + 1, by omega, by go_num, by rw [HS.out]; exact hF4, by rw [HS.out]; exact hS4, hW4, hbl4⟩
              case measure => simp [intOf]; omega
        · rw [hs] at hx
          have HS := Lib.hid (HY.out hs)
          clear hs
          go_wp2
          go_roundw
          case rel => exact ⟨d + 1, by omega, by go_num, by rw [HS.out]; exact ho, by rw [HS.out]; exact hsn, hW, hbl⟩
          case measure => simp [intOf]; omega
      · have hdd : d = N := by omega
        subst hdd
        have HN := Lib.hid hNN
        go_wp2
        go_ret
        exact ⟨_, rfl, by rw [HR.out]; exact ho.mono (by omega), hbl⟩

set_option maxHeartbeats 8000000 in
set_option maxRecDepth 100000 in
theorem sFaces_any (vn vl : Value) (ns ls : List Pr) (w : World) (hn : RP w vn ns) (hl : RP w vl ls) :
    Calls Tryz.prog 119 #[.agg #[vn, vl]] w (RetF (facesW ns ls) w) := by
  obtain ⟨An, cn, rfl, hcn, hmn, _⟩ := hn.formI
  obtain ⟨Al, cl, rfl, hcl, hml, _⟩ := hl.formI
  unfold maxLen at hmn hml
  have hb0 : Below w.heap.size w ((w.alloc (.cells #[.slice An ns.length cn, .slice Al ls.length cl] 38)).alloc (.cells #[] 29)) := by (repeat' (first | (with_reducible exact Below.refl _ _) | (with_reducible assumption) | (with_reducible refine Below.drew ?_) | (with_reducible refine below_drewN ?_ _) | (with_reducible refine Below.alloc ?_ ?_ _) | (with_reducible refine Below.setCell ?_ ?_ _) | (with_reducible refine Below.step (by assumption) ?_ ?_))); all_goals (first | omega | (simp; done) | (simp; omega))
  have hW0 : Blk ((w.alloc (.cells #[.slice An ns.length cn, .slice Al ls.length cl] 38)).alloc (.cells #[] 29)) w.heap.size 38 #[.slice An ns.length cn, .slice Al ls.length cl] := (Blk.newAt rfl).alloc _
  have hOz : OwnF (w.heap.size + 1) ((w.alloc (.cells #[.slice An ns.length cn, .slice Al ls.length cl] 38)).alloc (.cells #[] 29)) (.slice (some ⟨w.heap.size + 1, 0, none⟩) 0 0) [] := OwnF.made (by simp) (by simp)
  cases hw : wholeB ns ls
  · have HR : Hid (facesW ns ls = []) := Lib.hid (by simp [facesW, hw])
    go_enter Tryz.func119, Tryz.ntmps119
    go_wp2_with fail
    refine (sWhole_at _ _ ns ls _ _ (hn.below hb0) (hl.below hb0) hw).mono ?_
    rintro e w1 ⟨rfl, hb1⟩
    have hbw1 := hb0.trans (hb1.mono hb0.size)
    have hOz1 := hOz.kept hb1
    go_wp2
    go_ret
    exact ⟨_, rfl, by rw [HR.out]; exact hOz1.mono (by omega), hbw1⟩
  · have HR : Hid (facesW ns ls = facesK ns ls (2 * ls.length)) := Lib.hid (by simp [facesW, hw]; rfl)
    have hwin := (whole_win hw).1
    have hpos := (whole_win hw).2
    have hm20 := hwin.2.2.1
    have hld : ∀ j : Nat, j < ls.length → leadB ns (ndI ls j) = true := fun j hj => (hwin.2.2.2.2.2 j hj).1
    obtain ⟨i0, hi, iz0, iz1, iz2⟩ := info_parts infoBool
    have HWK := Lib.hid (fun (v : World) (d : Nat) (hv : Below w.heap.size w v) (hd : d < 2 * ls.length) => sWalk_any (.slice An ns.length cn) (.slice Al ls.length cl) ns ls d v (hn.below hv) (hl.below hv) hd hwin)
    have HBD := Lib.hid (fun d hd => walk_bd (ns := ns) hld (d := d) hd)
    have HWL := Lib.hid (fun d hd => walk_len (ns := ns) hld (d := d) hd)
    have HFL := Lib.hid (facesK_len ns ls)
    have HFY := Lib.hid (fun m h => facesK_yes (ns := ns) (ls := ls) (m := m) h)
    have HFN := Lib.hid (fun m h => facesK_no (ns := ns) (ls := ls) (m := m) h)
    have HF0 : Hid (facesK ns ls 0 = []) := Lib.hid rfl
    have e2 : 2 * (ls.length : Int) = ((2 * ls.length : Nat) : Int) := by omega
    clear hwin hld
    go_enter Tryz.func119, Tryz.ntmps119
    go_wp2_with fail
    refine (sWhole_at _ _ ns ls _ _ (hn.below hb0) (hl.below hb0) hw).mono ?_
    rintro e w1 ⟨rfl, hb1⟩
    have hbw1 := hb0.trans (hb1.mono hb0.size)
    have hW1 := hW0.below hb1 hW0.lt
    have hOz1 := hOz.kept hb1
    have hz1 := hW1.lt
    clear hb1 hb0 hW0 hw
    (have a_0 := hW1.cell 0); (have a_1 := hW1.cell 1); simp only [List.getElem?_toArray, List.getElem?_cons_succ, List.getElem?_cons_zero] at a_0 a_1
    generalize hNN : 2 * ls.length = N at *
    have hN40 : N ≤ 40 := by omega
    go_wp2_with (at_make; refine wpList_make_full _ rfl _ _ 171 rfl (w.heap.size + 1) 4 i0 (.bool false) 1 Tryz.underlying171 hi iz0 iz1 .i64 .i64 _ _ N rfl rfl rfl rfl (by rw [iz2]; omega) (by unfold maxLen; omega) (by omega) ?_)
    intro w2 hown1 hgr1
    have hb2 : Below w.heap.size w w2 := hbw1.grown hgr1 hbw1.size (by intro k hk; cases hk)
    have hW2 : Blk w2 w.heap.size 38 #[.slice An ns.length cn, .slice Al ls.length cl] := (hgr1.block _ hz1 (fun e => by cases e)).trans hW1
    have hz2 := hgr1.size
    have hsn : OwnE 4 Value.bool (w.heap.size + 1) w2 (.slice (some ⟨w1.heap.size, 0, none⟩) N N) ((List.range N).map (seenB (facesK ns ls 0))) := by
      unfold OwnE
      rw [HF0.out, mkS_start, List.length_replicate]
      rw [← madeB]; exact hown1
    have hgsz := (hsn.lt _ rfl).2
    have hO0 : OwnF (w.heap.size + 1) w2 (.slice (some ⟨w.heap.size + 1, 0, none⟩) 0 0) [] := hOz1.grownNone hgr1
    clear hOz hOz1
    have hgg := hz1
    generalize w1.heap.size = gs at *
    clear hown1 hgr1 hbw1 hW1 a_0 a_1 hz1 hz2
    (have a_0 := hW2.cell 0); (have a_1 := hW2.cell 1); simp only [List.getElem?_toArray, List.getElem?_cons_succ, List.getElem?_cons_zero] at a_0 a_1
    go_wp2
    go_loopw [3, 5] (fun v x wr => ∃ d : Nat, d ≤ N ∧ x = .int .i64 d ∧ OwnF (w.heap.size + 1) wr v (facesK ns ls d) ∧ OwnE 4 Value.bool (w.heap.size + 1) wr (.slice (some ⟨gs, 0, none⟩) N N) ((List.range N).map (seenB (facesK ns ls d))) ∧ Blk wr w.heap.size 38 #[.slice An ns.length cn, .slice Al ls.length cl] ∧ Below w.heap.size w wr) (fun _ x _ => N - (intOf x).toNat)
    case atStart => exact ⟨0, Nat.zero_le _, rfl, by rw [HF0.out]; exact hO0, hsn, hW2, hb2⟩
    case round =>
      clear hsn hW2 hb2 a_0 a_1
      obtain ⟨d, hd, rfl, ho, hsn, hW, hbl⟩ := hrel
      have hsz := hW.lt
      have hgz : gs < wr.heap.size := (hsn.lt gs rfl).2
      by_cases hlt : d < N
      · have hlt1 : (d : Int) < (N : Int) := by omega
        have hx := hsn.cell false (q := d) (by simpa using hlt)
        rw [mkS_get hlt] at hx
        have HY := Lib.hid (HFY.out d)
        have HNo := Lib.hid (HFN.out d)
        have hfl := HFL.out d
        generalize facesK ns ls d = F at *
        (have a_0 := hW.cell 0); (have a_1 := hW.cell 1); simp only [List.getElem?_toArray, List.getElem?_cons_succ, List.getElem?_cons_zero] at a_0 a_1
        cases hs : seenB F d
        · rw [hs] at hx
          have HS := Lib.hid (HNo.out hs)
          clear hs
          go_wp2_with fail
          refine (HWK.out _ d hbl hlt).mono ?_
          rintro e w3 ⟨v3, rfl, ho3, hb3⟩
          have hF3 := ho.kept hb3
          have hS3 := hsn.kept hb3
          have hW3 := hW.below hb3 hsz
          have hbl3 := hbl.trans (hb3.mono hbl.size)
          have hI3 : OwnI (w.heap.size + 1) w3 v3 (natI (walkD ns ls d)) := ho3.mono (by omega)
          have HB := Lib.hid (HBD.out d hlt)
          have hwl := HWL.out d hlt
          generalize walkD ns ls d = f at *
          obtain ⟨A3, c3, rfl⟩ := hI3.form
          rw [natI_length] at hI3 ⊢
          rw [← mkS_zero N F f] at hS3
          clear hb3 ho3 ho hsn hW hbl a_0 a_1 hx hsz
          go_wp2
          go_loopw [7] (fun x wr => ∃ j : Nat, j ≤ f.length ∧ x = .int .i64 j ∧ OwnF (w.heap.size + 1) wr u3 F ∧ OwnE 4 Value.bool (w.heap.size + 1) wr (.slice (some ⟨gs, 0, none⟩) N N) (mkS N F f j) ∧ OwnI (w.heap.size + 1) wr (.slice A3 f.length c3) (natI f) ∧ Blk wr w.heap.size 38 #[.slice An ns.length cn, .slice Al ls.length cl] ∧ Below w.heap.size w wr) (fun x _ => f.length - (intOf x).toNat)
          case atStart => exact ⟨0, Nat.zero_le _, rfl, hF3, hS3, hI3, hW3, hbl3⟩
          case round =>
            clear hF3 hS3 hI3 hW3 hbl3
            obtain ⟨j, hj, rfl, ho, hsn, hI, hW, hbl⟩ := hrel
            have hsz := hW.lt
            by_cases hjl : j < f.length
            · have hjl1 : (j : Int) < (f.length : Int) := by omega
              have ij1 : (0 : Int) ≤ (j : Int) := by omega
              obtain ⟨A4, c4, he4, hc4, hm4, hcell4⟩ := hI.reads.form
              rw [natI_length] at he4
              cases he4
              rw [natI_length] at hcell4
              obtain ⟨b4, off4, rfl, hb4, hcl4⟩ := hcell4 (by omega)
              have hx := hcl4 j hjl
              rw [natI_get] at hx
              have hem : f.getD j 0 < N := HB.out _ (by rw [List.getD, List.getElem?_eq_getElem hjl]; exact List.getElem_mem hjl)
              have HS1 := Lib.hid (mkS_succ N F f j hjl)
              generalize f.getD j 0 = x at *
              have ix1 : (0 : Int) ≤ (x : Int) := by omega
              have ix2 : (x : Int) < (N : Int) := by omega
              have hxs := hsn.cell false (q := x) (by rw [mkS_len]; exact hem)
              obtain ⟨z, hz⟩ : ∃ z, wr.cell? ⟨gs, x, none⟩ = some z := ⟨_, hxs⟩
              have fx := hsn.frz x
              have HSN : Hid (OwnE 4 Value.bool (w.heap.size + 1) (wr.setCell ⟨gs, x, none⟩ (.bool true)) (.slice (some ⟨gs, 0, none⟩) N N) (mkS N F f (j + 1))) := Lib.hid (by rw [HS1.out]; exact hsn.set_ x true)
              have hgw : wr.grownBy (wr.setCell ⟨gs, x, none⟩ (.bool true)) (some gs) := grown_set (grown_refl _ _) x _
              have HOF := Lib.hid (ho.offType hsn hgw)
              have HIF := Lib.hid (OwnE.other (t := 3) (enc := vI) hI hsn ty_nb hgw)
              have HWF := Lib.hid (hW.far (p := ⟨gs, x, none⟩) (show ¬ w.heap.size = gs by omega) (.bool true))
              have HBF := Lib.hid (hbl.setCell (p := ⟨gs, x, none⟩) (show w.heap.size ≤ gs by omega) (.bool true))
              clear ho hsn hI hW hbl hxs hgw hcl4 hcell4
              go_wp2
              go_roundw
              case rel => exact ⟨j + 1, by omega, by go_num, HOF.out, HSN.out, HIF.out, HWF.out, HBF.out⟩
              case measure => simp [intOf]; omega
            · have hjj : j = f.length := by omega
              subst hjj
              have HSN : Hid (OwnE 4 Value.bool (w.heap.size + 1) wr (.slice (some ⟨gs, 0, none⟩) N N) ((List.range N).map (seenB (F ++ [f])))) := Lib.hid (by rw [← mkS_all]; exact hsn)
              have hgz4 : gs < wr.heap.size := (hsn.lt gs rfl).2
              clear hsn
              go_wp2_with (at_builtin; refine wpList_append_row rfl _ _ rfl (w.heap.size + 1) _ (.slice A3 f.length c3) F f rfl wr.heap.size rfl (cell_new1 (by simp)) (ho.alloc _) (hI.alloc _) (by omega) (by simp; omega) ?_)
              intro v4 w4 hF4 hg4
              have hrb : ∀ k, (u3 : Value).ownBlock = some k → w.heap.size + 1 ≤ k ∧ k < wr.heap.size := fun k hk => ho.lt k hk
              have hbl4 : Below w.heap.size w w4 := (hbl.alloc hbl.size (.cells #[.slice A3 f.length c3] 29)).grown hg4 (by simp; have := hbl.size; omega) (fun k hk => by have := (hrb k hk).1; omega)
              have hW4 : Blk w4 w.heap.size 38 #[.slice An ns.length cn, .slice Al ls.length cl] := (hg4.block _ (by simp; omega) (fun e => by have := (hrb _ e.symm).1; omega)).trans (hW.alloc _)
              have hS4 : OwnE 4 Value.bool (w.heap.size + 1) w4 (.slice (some ⟨gs, 0, none⟩) N N) ((List.range N).map (seenB (F ++ [f]))) := by
                obtain ⟨vs, g1, g2, g3⟩ := ho.alloc (.cells #[.slice A3 f.length c3] 29)
                exact OwnE.other (HSN.out.alloc _) g2 (by decide) hg4
              clear ho hI hW hbl hg4 hrb
              go_wp2
              go_roundw
              case rel => exact ⟨d + 1, by omega, by go_num, by rw [HS.out]; exact hF4, by rw [HS.out]; exact hS4, hW4, hbl4⟩
              case measure => simp [intOf]; omega
        · rw [hs] at hx
          have HS := Lib.hid (HY.out hs)
          clear hs
          go_wp2
          go_roundw
          case rel => exact ⟨d + 1, by omega, by go_num, by rw [HS.out]; exact ho, by rw [HS.out]; exact hsn, hW, hbl⟩
          case measure => simp [intOf]; omega
      · have hdd : d = N := by omega
        subst hdd
        have HN := Lib.hid hNN
        go_wp2
        go_ret
        exact ⟨_, rfl, by rw [HR.out]; exact ho.mono (by omega), hbl⟩

end Go.Proofs.YtoknmjpnelbplaaGreat

namespace Go.Proofs.YtoknmjpnelbplaaGreat
open Go.RowKit

/-- A list ascends in a range: the first k. -/
def riseK (zs : List Int) (n : Int) (k : Nat) : Prop := ∀ j, j < k → (0 ≤ zs.getD j 0 ∧ zs.getD j 0 ≤ n) ∧ (0 < j → zs.getD (j - 1) 0 < zs.getD j 0)
end Go.Proofs.YtoknmjpnelbplaaGreat

namespace Go.Proofs.YtoknmjpnelbplaaGreat
open Go.RowKit

theorem RF.get {w : World} {v : Value} {F : List (List Nat)} (h : RF w v F) : ∃ A c, v = .slice A F.length c ∧ F.length ≤ c ∧ F.length ≤ maxLen ∧ (0 < F.length → ∃ b off, A = some ⟨b, off, none⟩ ∧ b < w.heap.size ∧ ∀ k, k < F.length → ∃ u, w.cell? ⟨b, off + k, none⟩ = some u ∧ RI w u (natI (F.getD k []))) := by
  obtain ⟨vs, h1, h2⟩ := h
  obtain ⟨A, c, e1, e2, e3, e4⟩ := h1.get
  refine ⟨A, c, e1, e2, e3, fun hn => ?_⟩
  obtain ⟨b, off, g1, g2, g3⟩ := e4 hn
  exact ⟨b, off, g1, g2, fun k hk => ⟨_, g3 k hk, h2 k hk⟩⟩

theorem areaK_succ (ns ls : List Pr) (f : List Nat) (k : Nat) : areaK ns ls f (k + 1) = areaK ns ls f k + crossD ns ls (f.getD k 0) := rfl

set_option maxHeartbeats 8000000 in
set_option maxRecDepth 100000 in
theorem iAreaOf_any (vn vl u : Value) (ns ls : List Pr) (f : List Nat) (w : World) (hn : RP w vn ns) (hl : RP w vl ls) (hu : RI w u (natI f)) (hf : ∀ e ∈ f, e < 2 * ls.length) (hfl : f.length ≤ 40) (hwin : WinOk ns ls) :
    Calls Tryz.prog 204 #[.agg #[vn, vl], u] w fun e w' => e = .returned (.int .i64 (areaF ns ls f)) ∧ Below w.heap.size w w' := by
  have hm20 := hwin.2.2.1
  have hld : ∀ j : Nat, j < ls.length → leadB ns (ndI ls j) = true := fun j hj => (hwin.2.2.2.2.2 j hj).1
  obtain ⟨An, cn, rfl, hcn, hmn, hcelln⟩ := hn.formI
  obtain ⟨bn, offn, rfl, hbn, hcc⟩ := hcelln (by have := hwin.1; omega)
  obtain ⟨Au, cu, rfl, hcu, hmu, hcellu⟩ := hu.form
  rw [natI_length] at hcu hmu hcellu hu ⊢
  unfold maxLen at hmn hmu
  have HBD := Lib.hid (fun k hk => areaK_bd hwin hf k hk)
  have HTO := Lib.hid (fun d (hd : d < 2 * ls.length) => dTo_nat hld hd)
  have HFR := Lib.hid (fun d (hd : d < 2 * ls.length) => dFrom_nat hld hd)
  have HND := Lib.hid (fun t ht => nodesB_at hwin.2.2.2.1 t ht)
  have HAS := Lib.hid (areaK_succ ns ls f)
  have HA0 : Hid (areaK ns ls f 0 = 0) := Lib.hid rfl
  have HCC := Lib.hid hcc
  have HCU := Lib.hid hcellu
  have HTX := Lib.hid (fun (e : Nat) (he : e < 2 * ls.length) => twin_xor_int e (by omega))
  have HFM := Lib.hid hf
  clear hcelln hcc hcellu hwin hld hf
  go_enter Tryz.func204, Tryz.ntmps204
  go_wp2
  go_loopw [5, 12] (fun n x wr => ∃ k : Nat, k ≤ f.length ∧ x = .int .i64 k ∧ n = .int .i64 (areaK ns ls f k) ∧ Blk wr w.heap.size 38 #[.slice (some ⟨bn, offn, none⟩) ns.length cn, vl] ∧ Below w.heap.size w wr) (fun _ x _ => f.length - (intOf x).toNat)
  case atStart => exact ⟨0, Nat.zero_le _, rfl, by rw [HA0.out], Blk.newAt rfl, by (repeat' (first | (with_reducible exact Below.refl _ _) | (with_reducible assumption) | (with_reducible refine Below.drew ?_) | (with_reducible refine below_drewN ?_ _) | (with_reducible refine Below.alloc ?_ ?_ _) | (with_reducible refine Below.setCell ?_ ?_ _) | (with_reducible refine Below.step (by assumption) ?_ ?_))); all_goals (first | omega | (simp; done) | (simp; omega))⟩
  case round =>
    obtain ⟨k, hk, rfl, rfl, hW, hbl⟩ := hrel
    have hsz := hW.lt
    by_cases hlt : k < f.length
    · have hlt1 : (k : Int) < (f.length : Int) := by omega
      have ik1 : (0 : Int) ≤ (k : Int) := by omega
      obtain ⟨b4, off4, rfl, hb4, hcl4⟩ := HCU.out (by omega)
      have hx0 := hcl4 k hlt
      rw [natI_get] at hx0
      have hx := (hbl.cell (p := ⟨b4, off4 + k, none⟩) hb4).trans hx0
      have hem : f.getD k 0 < 2 * ls.length := HFM.out _ (by rw [List.getD, List.getElem?_eq_getElem hlt]; exact List.getElem_mem hlt)
      have HSU := Lib.hid (HAS.out k)
      have hbd := HBD.out k hk
      generalize f.getD k 0 = d at *
      obtain ⟨u, hu', hun⟩ := HTO.out d hem
      obtain ⟨t, ht', htn⟩ := HFR.out d hem
      (have a_0 := hW.cell 0); (have a_1 := hW.cell 1); simp only [List.getElem?_toArray, List.getElem?_cons_succ, List.getElem?_cons_zero] at a_0 a_1
      have X2 := Lib.hid (HTX.out d hem)
      have hpt := twin_lt hem
      have U0 := dFrom_twin ls d
      rw [hu'] at U0
      obtain ⟨t0, t1⟩ := HCC.out t htn
      obtain ⟨u0, u1⟩ := HCC.out u hun
      have HS0 : Hid (∀ v : World, Below wr.heap.size wr v → v.cell? ⟨w.heap.size, 0, none⟩ = some (.slice (some ⟨bn, offn, none⟩) ns.length cn) ∧ v.cell? ⟨w.heap.size, 1, none⟩ = some vl) := Lib.hid (fun v hv => ⟨(hv.cell (p := ⟨w.heap.size, 0, none⟩) hsz).trans a_0, (hv.cell (p := ⟨w.heap.size, 1, none⟩) hsz).trans a_1⟩)
      go_wp2_with fail
      refine region_E (n := 18) (S := fun v => v.cell? ⟨w.heap.size, 0, none⟩ = some (.slice (some ⟨bn, offn, none⟩) ns.length cn) ∧ v.cell? ⟨w.heap.size, 1, none⟩ = some vl) (by kernel_rfl) (HS0.out _ (Below.refl _ _).drew) (fun hS => ?_)
      (refine E_take (i := 0) (v := ?_) rfl rfl (by kernel_rfl) (by kernel_rfl) (by kernel_rfl) (by kernel_rfl) (by kernel_rfl) (fun _ _ _ h => h) (Or.inl ⟨by rfl, ?_⟩) (by assumption) ?_); rotate_left; (focus (intro w' hSw; (try dsimp only at hSw); go_simp; (try with_reducible rfl))); (try simp only [Act.put, List.setIfInBounds_toArray, List.set_cons_zero, List.set_cons_succ])
      (refine E_take (i := 1) (v := ?_) rfl rfl (by kernel_rfl) (by kernel_rfl) (by kernel_rfl) (by kernel_rfl) (by kernel_rfl) (fun _ _ _ h => h) (Or.inl ⟨by rfl, ?_⟩) (by assumption) ?_); rotate_left; (focus (intro w' hSw; (try dsimp only at hSw); go_simp; (try with_reducible rfl))); (try simp only [Act.put, List.setIfInBounds_toArray, List.set_cons_zero, List.set_cons_succ])
      (refine E_take (i := 2) (v := ?_) rfl rfl (by kernel_rfl) (by kernel_rfl) (by kernel_rfl) (by kernel_rfl) (by kernel_rfl) (fun _ _ _ h => h) (Or.inl ⟨by rfl, ?_⟩) (by assumption) ?_); rotate_left; (focus (intro w' hSw; (try dsimp only at hSw); go_simp; (try with_reducible rfl))); (try simp only [Act.put, List.setIfInBounds_toArray, List.set_cons_zero, List.set_cons_succ])
      (refine E_take (i := 3) (v := ?_) rfl rfl (by kernel_rfl) (by kernel_rfl) (by kernel_rfl) (by kernel_rfl) (by kernel_rfl) (fun _ _ _ h => h) (Or.inl ⟨by rfl, ?_⟩) (by assumption) ?_); rotate_left; (focus (intro w' hSw; (try dsimp only at hSw); go_simp; (try with_reducible rfl))); (try simp only [Act.put, List.setIfInBounds_toArray, List.set_cons_zero, List.set_cons_succ])
      (refine E_take (i := 7) (v := ?_) rfl rfl (by kernel_rfl) (by kernel_rfl) (by kernel_rfl) (by kernel_rfl) (by kernel_rfl) (fun _ _ _ h => h) (Or.inl ⟨by rfl, ?_⟩) (by assumption) ?_); rotate_left; (focus (intro w' hSw; (try dsimp only at hSw); go_simp; (try with_reducible rfl))); (try simp only [Act.put, List.setIfInBounds_toArray, List.set_cons_zero, List.set_cons_succ])
      (refine E_take (i := 8) (v := ?_) rfl rfl (by kernel_rfl) (by kernel_rfl) (by kernel_rfl) (by kernel_rfl) (by kernel_rfl) (fun _ _ _ h => h) (Or.inl ⟨by rfl, ?_⟩) (by assumption) ?_); rotate_left; (focus (intro w' hSw; (try dsimp only at hSw); go_simp; (try with_reducible rfl))); (try simp only [Act.put, List.setIfInBounds_toArray, List.set_cons_zero, List.set_cons_succ])
      (refine E_take (i := 9) (v := ?_) rfl rfl (by kernel_rfl) (by kernel_rfl) (by kernel_rfl) (by kernel_rfl) (by kernel_rfl) (fun _ _ _ h => h) (Or.inl ⟨by rfl, ?_⟩) (by assumption) ?_); rotate_left; (focus (intro w' hSw; (try dsimp only at hSw); go_simp; (try with_reducible rfl))); (try simp only [Act.put, List.setIfInBounds_toArray, List.set_cons_zero, List.set_cons_succ])
      (refine E_take (i := 10) (v := ?_) rfl rfl (by kernel_rfl) (by kernel_rfl) (by kernel_rfl) (by kernel_rfl) (by kernel_rfl) (fun _ _ _ h => h) (Or.inl ⟨by rfl, ?_⟩) (by assumption) ?_); rotate_left; (focus (intro w' hSw; (try dsimp only at hSw); go_simp; (try with_reducible rfl))); (try simp only [Act.put, List.setIfInBounds_toArray, List.set_cons_zero, List.set_cons_succ])
      (refine E_take (i := 11) (v := ?_) rfl rfl (by kernel_rfl) (by kernel_rfl) (by kernel_rfl) (by kernel_rfl) (by kernel_rfl) (fun _ _ _ h => h) (Or.inl ⟨by rfl, ?_⟩) (by assumption) ?_); rotate_left; (focus (intro w' hSw; (try dsimp only at hSw); go_simp; (try with_reducible rfl))); (try simp only [Act.put, List.setIfInBounds_toArray, List.set_cons_zero, List.set_cons_succ])
      rw [X2.out]
      have HC := Lib.hid (fun (v : World) (hb : Below wr.heap.size wr v) => iFrom_any (.slice (some ⟨bn, offn, none⟩) ns.length cn) vl ls d v (hl.below (hbl.trans (hb.mono hbl.size))) hem)
      have HD := Lib.hid (fun (v : World) (hb : Below wr.heap.size wr v) => iFrom_any (.slice (some ⟨bn, offn, none⟩) ns.length cn) vl ls (twin d) v (hl.below (hbl.trans (hb.mono hbl.size))) hpt)
      rw [ht'] at HC
      rw [U0] at HD
      have hbn2 : bn < wr.heap.size := Nat.lt_of_lt_of_le hbn hbl.size
      have HT : Hid (∀ v : World, Below wr.heap.size wr v → v.cell? ⟨bn, offn + t * 2, none⟩ = some (.int .i64 (ndI ns t).1) ∧ v.cell? ⟨bn, offn + t * 2 + 1, none⟩ = some (.int .i64 (ndI ns t).2)) := Lib.hid (fun v hv => ⟨(hv.cell (p := ⟨bn, offn + t * 2, none⟩) hbn2).trans ((hbl.cell (p := ⟨bn, offn + t * 2, none⟩) hbn).trans t0), (hv.cell (p := ⟨bn, offn + t * 2 + 1, none⟩) hbn2).trans ((hbl.cell (p := ⟨bn, offn + t * 2 + 1, none⟩) hbn).trans t1)⟩)
      have HU : Hid (∀ v : World, Below wr.heap.size wr v → v.cell? ⟨bn, offn + u * 2, none⟩ = some (.int .i64 (ndI ns u).1) ∧ v.cell? ⟨bn, offn + u * 2 + 1, none⟩ = some (.int .i64 (ndI ns u).2)) := Lib.hid (fun v hv => ⟨(hv.cell (p := ⟨bn, offn + u * 2, none⟩) hbn2).trans ((hbl.cell (p := ⟨bn, offn + u * 2, none⟩) hbn).trans u0), (hv.cell (p := ⟨bn, offn + u * 2 + 1, none⟩) hbn2).trans ((hbl.cell (p := ⟨bn, offn + u * 2 + 1, none⟩) hbn).trans u1)⟩)
      have HS : Hid (∀ v : World, Below wr.heap.size wr v → v.cell? ⟨w.heap.size, 0, none⟩ = some (.slice (some ⟨bn, offn, none⟩) ns.length cn) ∧ v.cell? ⟨w.heap.size, 1, none⟩ = some vl) := HS0
      have HCR : Hid (crossD ns ls d = (ndI ns t).1 * (ndI ns u).2 - (ndI ns t).2 * (ndI ns u).1) := Lib.hid (by unfold crossD; rw [ht', hu'])
      obtain ⟨p0, p1, p2, p3⟩ := nodeB_bd (HND.out t htn)
      obtain ⟨q0, q1, q2, q3⟩ := nodeB_bd (HND.out u hun)
      have it1 : (0 : Int) ≤ (t : Int) := by omega
      have it2 : (t : Int) < (ns.length : Int) := by omega
      have iu1 : (0 : Int) ≤ (u : Int) := by omega
      have iu2 : (u : Int) < (ns.length : Int) := by omega
      generalize twin d = pe at *
      clear HS0 t0 t1 u0 u1 ht' hu' U0
      refine E_phase (n := 18) (Inv := fun L a v => ∃ v8 v9 v20 v21 v22 v28 v29 v30, a = {
          tmps := #[.agg #[.slice (some ⟨bn, offn, none⟩) ns.length cn, vl], .slice (some ⟨b4, off4, none⟩) f.length cu, .pointer (some ⟨w.heap.size, 0, none⟩), undef, .int .i64 0, .int .i64 (areaK ns ls f k), undef, .int .i64 d, v8, v9,
            .slice (some ⟨b4, off4, none⟩) f.length cu, .int .i64 f.length, .int .i64 k, .bool true, .pointer (some ⟨b4, off4 + k, none⟩), .int .i64 d, .pointer (some ⟨w.heap.size, 0, none⟩), .slice (some ⟨bn, offn, none⟩) ns.length cn, .agg #[.slice (some ⟨bn, offn, none⟩) ns.length cn, vl], .int .i64 d, v20, v21, v22,
            .pointer (some ⟨w.heap.size, 0, none⟩), .slice (some ⟨bn, offn, none⟩) ns.length cn, .agg #[.slice (some ⟨bn, offn, none⟩) ns.length cn, vl], .int .i64 d, .int .i64 pe, v28, v29, v30,
            u31, u32, u33, u34, u35, u36, u37, u38, u39, u40, u41, u42, u43, u44, undef], defers := [] } ∧
          Below wr.heap.size wr v ∧ (∀ j ∈ [0, 1, 2, 3, 7, 8, 9, 10, 11], tk L j = true) ∧
          Aft L 4 (v20 = .int .i64 t) ∧ Aft L 5 (v21 = .pointer (some ⟨bn, offn + t * 2, none⟩)) ∧ Aft L 6 (v22 = .agg #[.int .i64 (ndI ns t).1, .int .i64 (ndI ns t).2]) ∧
          Aft L 12 (v28 = .int .i64 u) ∧ Aft L 13 (v29 = .pointer (some ⟨bn, offn + u * 2, none⟩)) ∧ Aft L 14 (v30 = .agg #[.int .i64 (ndI ns u).1, .int .i64 (ndI ns u).2]) ∧
          One L 15 17 wr.heap.size 141 #[.int .i64 0, .int .i64 0] #[.int .i64 (ndI ns t).1, .int .i64 (ndI ns t).2] v8 v ∧
          One L 16 18 wr.heap.size 141 #[.int .i64 0, .int .i64 0] #[.int .i64 (ndI ns u).1, .int .i64 (ndI ns u).2] v9 v ∧
          Apart2 L 15 16 v8 v9) (by decide) (by kernel_rfl) (by kernel_rfl) ?_ ?_ 10 _ _ _ rfl ?_ (by kernel_rfl) ?_
      · intro L a v hI i hi hr
        obtain ⟨v8, v9, v20, v21, v22, v28, v29, v30, rfl, hb, hpre, f4, f5, f6, f12, f13, f14, o8, o9, p89⟩ := hI
        have hun := ready_un hr
        have hsv := HS.out v hb
        rcases (show i = 4 ∨ i = 5 ∨ i = 6 ∨ i = 12 ∨ i = 13 ∨ i = 14 ∨ i = 15 ∨ i = 16 ∨ i = 17 ∨ i ∈ [0, 1, 2, 3, 7, 8, 9, 10, 11] by simp only [List.mem_cons, List.mem_nil_iff, or_false]; omega) with rfl | rfl | rfl | rfl | rfl | rfl | rfl | rfl | rfl | hm
        · -- 4
          refine wp_step rfl (fun K hK => ?_)
          rw [if_pos (by rfl)]
          go_simp
          go_at_call 203
          refine (HC.out _ hb).mono ?_
          rintro en w1 ⟨rfl, hb1⟩
          go_wp2_with fail
          have hbw := hb.trans (hb1.mono hb.size)
          exact ⟨HS.out _ hbw, _, _, _, _, _, _, _, _, rfl, hbw, preS hpre, Aft.new rfl, f5.keep (by decide), f6.keep (by decide), f12.keep (by decide), f13.keep (by decide), f14.keep (by decide), o8.step (by decide) (by decide) hb1, o9.step (by decide) (by decide) hb1, p89.step (by decide) (by decide)⟩
        · -- 5
          obtain rfl := f4 (ready_tk hr rfl (by kernel_rfl))
          refine wp_step rfl (fun K hK => ?_)
          rw [if_pos (by rfl)]
          go_simp
          exact hK _ _ ⟨hsv, _, _, _, _, _, _, _, _, rfl, hb, preS hpre, f4.keep (by decide), Aft.new rfl, f6.keep (by decide), f12.keep (by decide), f13.keep (by decide), f14.keep (by decide), o8.step (by decide) (by decide) (Below.refl _ _), o9.step (by decide) (by decide) (Below.refl _ _), p89.step (by decide) (by decide)⟩
        · -- 6
          obtain rfl := f5 (ready_tk hr rfl (by kernel_rfl))
          obtain ⟨c0, c1⟩ := HT.out v hb
          refine wp_step rfl (fun K hK => ?_)
          rw [if_pos (by rfl)]
          go_simp
          exact hK _ _ ⟨hsv, _, _, _, _, _, _, _, _, rfl, hb, preS hpre, f4.keep (by decide), f5.keep (by decide), Aft.new rfl, f12.keep (by decide), f13.keep (by decide), f14.keep (by decide), o8.step (by decide) (by decide) (Below.refl _ _), o9.step (by decide) (by decide) (Below.refl _ _), p89.step (by decide) (by decide)⟩
        · -- 12
          refine wp_step rfl (fun K hK => ?_)
          rw [if_pos (by rfl)]
          go_simp
          go_at_call 203
          refine (HD.out _ hb).mono ?_
          rintro en w1 ⟨rfl, hb1⟩
          go_wp2_with fail
          have hbw := hb.trans (hb1.mono hb.size)
          exact ⟨HS.out _ hbw, _, _, _, _, _, _, _, _, rfl, hbw, preS hpre, f4.keep (by decide), f5.keep (by decide), f6.keep (by decide), Aft.new rfl, f13.keep (by decide), f14.keep (by decide), o8.step (by decide) (by decide) hb1, o9.step (by decide) (by decide) hb1, p89.step (by decide) (by decide)⟩
        · -- 13
          obtain rfl := f12 (ready_tk hr rfl (by kernel_rfl))
          refine wp_step rfl (fun K hK => ?_)
          rw [if_pos (by rfl)]
          go_simp
          exact hK _ _ ⟨hsv, _, _, _, _, _, _, _, _, rfl, hb, preS hpre, f4.keep (by decide), f5.keep (by decide), f6.keep (by decide), f12.keep (by decide), Aft.new rfl, f14.keep (by decide), o8.step (by decide) (by decide) (Below.refl _ _), o9.step (by decide) (by decide) (Below.refl _ _), p89.step (by decide) (by decide)⟩
        · -- 14
          obtain rfl := f13 (ready_tk hr rfl (by kernel_rfl))
          obtain ⟨c0, c1⟩ := HU.out v hb
          refine wp_step rfl (fun K hK => ?_)
          rw [if_pos (by rfl)]
          go_simp
          exact hK _ _ ⟨hsv, _, _, _, _, _, _, _, _, rfl, hb, preS hpre, f4.keep (by decide), f5.keep (by decide), f6.keep (by decide), f12.keep (by decide), f13.keep (by decide), Aft.new rfl, o8.step (by decide) (by decide) (Below.refl _ _), o9.step (by decide) (by decide) (Below.refl _ _), p89.step (by decide) (by decide)⟩
        · -- 15
          refine wp_step rfl (fun K hK => ?_)
          rw [if_pos (by rfl)]
          go_simp
          have hb1 : Below v.heap.size v (v.alloc (.cells #[.int .i64 0, .int .i64 0] 141)) := (Below.refl _ _).alloc (Nat.le_refl _) _
          have hbw := hb.trans (hb1.mono hb.size)
          exact hK _ _ ⟨HS.out _ hbw, _, _, _, _, _, _, _, _, rfl, hbw, preS hpre, f4.keep (by decide), f5.keep (by decide), f6.keep (by decide), f12.keep (by decide), f13.keep (by decide), f14.keep (by decide), o8.lay hun (by decide) hb.size, o9.step (by decide) (by decide) hb1, Apart2.newL o9 (by decide)⟩
        · -- 16
          refine wp_step rfl (fun K hK => ?_)
          rw [if_pos (by rfl)]
          go_simp
          have hb1 : Below v.heap.size v (v.alloc (.cells #[.int .i64 0, .int .i64 0] 141)) := (Below.refl _ _).alloc (Nat.le_refl _) _
          have hbw := hb.trans (hb1.mono hb.size)
          exact hK _ _ ⟨HS.out _ hbw, _, _, _, _, _, _, _, _, rfl, hbw, preS hpre, f4.keep (by decide), f5.keep (by decide), f6.keep (by decide), f12.keep (by decide), f13.keep (by decide), f14.keep (by decide), o8.step (by decide) (by decide) hb1, o9.lay hun (by decide) hb.size, Apart2.newR o8 (by decide)⟩
        · -- 17
          have h15 := ready_tk (j := 15) hr rfl (by kernel_rfl)
          obtain ⟨g, rfl, hg, hB⟩ := o8.zero h15 hun
          obtain rfl := f6 (ready_tk hr rfl (by kernel_rfl))
          (have b_0 := hB.cell 0); (have b_1 := hB.cell 1); simp only [List.getElem?_toArray, List.getElem?_cons_succ, List.getElem?_cons_zero] at b_0 b_1; (have b_f0 := hB.frozen 0); (have b_f1 := hB.frozen 1)
          refine wp_step rfl (fun K hK => ?_)
          rw [if_pos (by rfl)]
          go_simp
          have hbw := (hb.setCell (p := ⟨g, 0, none⟩) hg (.int .i64 (ndI ns t).1)).setCell (p := ⟨g, 1, none⟩) hg (.int .i64 (ndI ns t).2)
          exact hK _ _ ⟨HS.out _ hbw, _, _, _, _, _, _, _, _, rfl, hbw, preS hpre, f4.keep (by decide), f5.keep (by decide), f6.keep (by decide), f12.keep (by decide), f13.keep (by decide), f14.keep (by decide), o8.fill h15 hun rfl (by decide), o9.far (by decide) (by decide) (fun h => (p89 h15 h).symm) 0 1 _ _, p89.step (by decide) (by decide)⟩
        · rw [hpre i hm] at hun; cases hun
      · intro a v hI
        obtain ⟨v8, v9, v20, v21, v22, v28, v29, v30, rfl, hb, hpre, f4, f5, f6, f12, f13, f14, o8, o9, p89⟩ := hI
        obtain rfl := f14 (by kernel_rfl)
        obtain ⟨g9, rfl, hg9, hB⟩ := o9.zero (by kernel_rfl) (by kernel_rfl)
        obtain ⟨g8, rfl, hg8, hB8⟩ := o8.full (by kernel_rfl)
        have n8 : g8 ≠ g9 := fun h => p89 (by kernel_rfl) (by kernel_rfl) (by rw [h])
        (have b_0 := hB.cell 0); (have b_1 := hB.cell 1); simp only [List.getElem?_toArray, List.getElem?_cons_succ, List.getElem?_cons_zero] at b_0 b_1; (have b_f0 := hB.frozen 0); (have b_f1 := hB.frozen 1)
        refine E_step (fuel := 0) (n := 18) (i := 18) rfl (by kernel_rfl) (fun K hK => ?_)
        rw [if_pos (by rfl)]
        go_simp
        refine hK _ _ (fun h => absurd h (by decide)) (fun _ => ?_)
        clear hK K
        refine E_done (by kernel_rfl) ?_ _
        have hbw := (hb.setCell (p := ⟨g9, 0, none⟩) hg9 (.int .i64 (ndI ns u).1)).setCell (p := ⟨g9, 1, none⟩) hg9 (.int .i64 (ndI ns u).2)
        have hB9 : Blk ((v.setCell ⟨g9, 0, none⟩ (.int .i64 (ndI ns u).1)).setCell ⟨g9, 1, none⟩ (.int .i64 (ndI ns u).2)) g9 141 #[.int .i64 (ndI ns u).1, .int .i64 (ndI ns u).2] := by
          have := (hB.set_ 0 (.int .i64 (ndI ns u).1)).set_ 1 (.int .i64 (ndI ns u).2)
          simpa using this
        have hB8' := (hB8.far (p := ⟨g9, 0, none⟩) n8 (.int .i64 (ndI ns u).1)).far (p := ⟨g9, 1, none⟩) n8 (.int .i64 (ndI ns u).2)
        generalize ((v.setCell ⟨g9, 0, none⟩ (.int .i64 (ndI ns u).1)).setCell ⟨g9, 1, none⟩ (.int .i64 (ndI ns u).2)) = w3 at *
        have hWW := hW.below hbw hsz
        have hbb := hbl.trans (hbw.mono hbl.size)
        clear hB hB8 b_0 b_1 b_f0 b_f1 hb o8 o9 p89 f4 f5 f6 f12 f13 f14 hpre HC HD HT HU HS hW hbl hS a_0 a_1
        (have c_0 := hB8'.cell 0); (have c_1 := hB8'.cell 1); simp only [List.getElem?_toArray, List.getElem?_cons_succ, List.getElem?_cons_zero] at c_0 c_1; (have c_f0 := hB8'.frozen 0); (have c_f1 := hB8'.frozen 1)
        (have e_0 := hB9.cell 0); (have e_1 := hB9.cell 1); simp only [List.getElem?_toArray, List.getElem?_cons_succ, List.getElem?_cons_zero] at e_0 e_1; (have e_f0 := hB9.frozen 0); (have e_f1 := hB9.frozen 1)
        generalize (ndI ns t).1 = X at *
        generalize (ndI ns t).2 = Y at *
        generalize (ndI ns u).1 = U at *
        generalize (ndI ns u).2 = V at *
        have m1 := mul_bd (u := X) (v := V) (by omega) (by omega) (by omega) (by omega)
        have m2 := mul_bd (u := Y) (v := U) (by omega) (by omega) (by omega) (by omega)
        obtain ⟨m1a, m1b⟩ := m1
        obtain ⟨m2a, m2b⟩ := m2
        obtain ⟨ba, bb⟩ := hbd
        go_wp2
        go_roundw
        case rel =>
          have hrl : ∃ k' : Nat, k' ≤ f.length ∧ Value.int .i64 ((k : Int) + 1) = .int .i64 k' ∧ Value.int .i64 (areaK ns ls f k + (X * V - Y * U)) = .int .i64 (areaK ns ls f k') ∧ Blk w3 w.heap.size 38 #[.slice (some ⟨bn, offn, none⟩) ns.length cn, vl] ∧ Below w.heap.size w w3 := ⟨k + 1, by omega, by go_num, by rw [HSU.out, HCR.out], hWW, hbb⟩
          first | exact hrl | ((repeat apply Exists.intro); exact ⟨hrl, rfl⟩)
        case measure => simp [intOf]; omega
      · intro j h1 h2
        have : j = 18 := by
          have h3 : j < 19 := h2
          omega
        subst this
        rfl
      · refine ⟨_, _, _, _, _, _, _, _, rfl, (Below.refl _ _).drew, by decide, Aft.no rfl, Aft.no rfl, Aft.no rfl, Aft.no rfl, Aft.no rfl, Aft.no rfl, One.start rfl rfl, One.start rfl rfl, Apart2.start rfl⟩
    · have hkk : k = f.length := by omega
      subst hkk
      have HR : Hid (areaF ns ls f = areaK ns ls f f.length) := Lib.hid rfl
      go_wp2
      go_ret
      exact ⟨ret_int HR.out.symm, hbl⟩

end Go.Proofs.YtoknmjpnelbplaaGreat

namespace Go.Proofs.YtoknmjpnelbplaaGreat
open Go.RowKit

attribute [local go_sem ↓] run_mn2 run_mx2

theorem facesW_at {ns ls : List Pr} {k : Nat} (hk : k < (facesW ns ls).length) : WinOk ns ls ∧ (∀ e ∈ (facesW ns ls).getD k [], e < 2 * ls.length) ∧ 0 < ((facesW ns ls).getD k []).length ∧ ((facesW ns ls).getD k []).length ≤ 40 := by
  cases hw : wholeB ns ls
  · simp [facesW, hw] at hk
  · have hwin := (whole_win hw).1
    have hld : ∀ j : Nat, j < ls.length → leadB ns (ndI ls j) = true := fun j hj => (hwin.2.2.2.2.2 j hj).1
    have hm20 := hwin.2.2.1
    have hF : facesW ns ls = facesK ns ls (2 * ls.length) := by simp [facesW, hw]; rfl
    rw [hF] at hk ⊢
    have hm : (facesK ns ls (2 * ls.length)).getD k [] ∈ facesK ns ls (2 * ls.length) := by rw [List.getD, List.getElem?_eq_getElem hk]; exact List.getElem_mem hk
    obtain ⟨h1, h2, h3⟩ := facesK_bd hld (2 * ls.length) (Nat.le_refl _) _ hm
    exact ⟨hwin, h1, h2, by omega⟩

theorem facesW_len (ns ls : List Pr) : (facesW ns ls).length ≤ 40 := by
  cases hw : wholeB ns ls
  · simp [facesW, hw]
  · have hm20 := (whole_win hw).1.2.2.1
    have hF : facesW ns ls = facesK ns ls (2 * ls.length) := by simp [facesW, hw]; rfl
    rw [hF]
    have := facesK_len ns ls (2 * ls.length)
    omega

/-- The outer face, or -1. -/
noncomputable def outerW (ns ls : List Pr) : Int := outerF ns ls (facesW ns ls)
theorem outerK_yes {ns ls : List Pr} {F : List (List Nat)} {m k : Nat} (h : areaF ns ls (F.getD k []) ≤ 0) : outerK ns ls F (m + 1) k = k := by simp only [outerK]; rw [if_pos h]
theorem outerK_no {ns ls : List Pr} {F : List (List Nat)} {m k : Nat} (h : ¬ areaF ns ls (F.getD k []) ≤ 0) : outerK ns ls F (m + 1) k = outerK ns ls F m (k + 1) := by simp only [outerK]; rw [if_neg h]

end Go.Proofs.YtoknmjpnelbplaaGreat

namespace Go.Proofs.YtoknmjpnelbplaaGreat

/-- What a round of adding adds hangs together with the node. -/
theorem set_label {n : Nat} {ls : List Pr} (hl : EndsIn n ls) {c : Nat} : ∀ k, ∀ i, i < n → (roundsS (2 ^ c) ls k).testBit i = true → (partsK n ls ls.length).getD i 0 = (partsK n ls ls.length).getD c 0 := by
  have step : ∀ (m : Nat), m ≤ ls.length → ∀ s : Nat, (∀ i, i < n → s.testBit i = true → (partsK n ls ls.length).getD i 0 = (partsK n ls ls.length).getD c 0) → ∀ i, i < n → (roundS s (ls.take m)).testBit i = true → (partsK n ls ls.length).getD i 0 = (partsK n ls ls.length).getD c 0 := by
    intro m
    induction m with
    | zero => intro _ s h i hi hb; exact h i hi (by simpa [roundS] using hb)
    | succ m ih =>
      intro hm s h i hi hb
      have ih' := ih (by omega) s h
      rw [List.take_succ_eq_append_getElem (by omega), roundS_append] at hb
      generalize roundS s (ls.take m) = t at *
      obtain ⟨p, q, g1, g2, g3, g4⟩ := hl m (by omega)
      have hpq := parts_same hl ls.length (Nat.le_refl _) m (by omega) p q g1 g2
      rw [ndI_nat ls m (by omega)] at g1 g2
      have hb' : (addS t ls[m]).testBit i = true := hb
      unfold addS at hb'
      rw [g1, g2, Int.toNat_natCast, Int.toNat_natCast] at hb'
      split at hb'
      · rename_i hor
        rw [Nat.testBit_or, Nat.testBit_or, Bool.or_eq_true, Bool.or_eq_true] at hb'
        have hlab : (partsK n ls ls.length).getD p 0 = (partsK n ls ls.length).getD c 0 := by
          rw [Bool.or_eq_true] at hor
          rcases hor with h5 | h5
          · exact ih' p g3 h5
          · rw [hpq]; exact ih' q g4 h5
        rcases hb' with h5 | h5 | h5
        · exact ih' i hi h5
        · rw [Nat.testBit_two_pow] at h5
          have : p = i := by simpa using h5
          rw [← this]; exact hlab
        · rw [Nat.testBit_two_pow] at h5
          have : q = i := by simpa using h5
          rw [← this, ← hpq]; exact hlab
      · exact ih' i hi hb'
  intro k
  induction k with
  | zero =>
    intro i hi hb
    rw [show roundsS (2 ^ c) ls 0 = 2 ^ c from rfl, Nat.testBit_two_pow] at hb
    have : c = i := by simpa using hb
    rw [this]
  | succ k ih =>
    intro i hi hb
    have := step ls.length (Nat.le_refl _) (roundsS (2 ^ c) ls k) ih i hi
    rw [List.take_length] at this
    exact this hb

theorem memS_first {S p : Nat} (hp : S.testBit p = true) (hl : ∀ i, i < p → S.testBit i = false) : ∀ n, (n ≤ p → memS S n = []) ∧ (p < n → (memS S n)[0]? = some p)
  | 0 => ⟨fun _ => rfl, fun h => absurd h (by omega)⟩
  | n + 1 => by
    have ih := memS_first hp hl n
    have e : memS S (n + 1) = memS S n ++ (if S.testBit n = true then [n] else []) := by
      unfold memS
      rw [List.range_succ, List.filter_append]
      congr 1
      by_cases h : S.testBit n = true <;> simp [h]
    constructor
    · intro h
      rw [e, ih.1 (by omega), if_neg (by rw [hl n (by omega)]; simp)]
      rfl
    · intro h
      by_cases hn : p < n
      · rw [e, List.getElem?_append_left, ih.2 hn]
        have := ih.2 hn
        exact (List.getElem?_eq_some_iff.1 this).1
      · have hpn : n = p := by omega
        subst hpn
        rw [e, ih.1 (by omega), if_pos hp]
        rfl

/-- The set's first node. -/
theorem part_first {n : Nat} {ls : List Pr} (hl : EndsIn n ls) {c : Nat} (hc : c < n) :
    ∃ p : Nat, (partsK n ls ls.length).getD c 0 = (p : Int) ∧ p ≤ c ∧ (memS (roundsS (2 ^ c) ls n) n)[0]? = some p := by
  have hl' : ∀ l ∈ ls, l.1.toNat < n ∧ l.2.toNat < n := by
    intro l hm
    obtain ⟨j, hj, e⟩ := List.getElem_of_mem hm
    obtain ⟨p, q, h1, h2, h3, h4⟩ := hl j hj
    rw [ndI_nat ls j hj, e] at h1 h2
    rw [h1, h2, Int.toNat_natCast, Int.toNat_natCast]
    exact ⟨h3, h4⟩
  have h1 : (2 : Nat) ^ c < 2 ^ n := Nat.pow_lt_pow_right (by omega) hc
  have hm1 : 0 < (memS (2 ^ c) n).length := List.length_pos_of_mem (a := c) (by simp [memS, hc, Nat.testBit_two_pow_self])
  have hf := round_fix (rounds_fix h1 hm1 hl')
  have hsub : ∀ k, (roundsS (2 ^ c) ls k).testBit c = true := by
    intro k
    induction k with
    | zero => exact Nat.testBit_two_pow_self
    | succ k ih => exact roundS_sub ls _ ih
  have hlab := set_label hl (c := c) n
  have hself := hsub n
  generalize roundsS (2 ^ c) ls n = S at *
  have hbd := parts_bd hl ls.length (Nat.le_refl _) c hc
  have hcl := parts_closed hl (fun i => S.testBit i = true) (fun j hj p q hp hq => by
    have := hf ls[j] (List.getElem_mem hj)
    rw [ndI_nat ls j hj] at hp hq
    rw [hp, hq, Int.toNat_natCast, Int.toNat_natCast] at this
    exact this) ls.length (Nat.le_refl _) c hc
  obtain ⟨p, hp⟩ : ∃ p : Nat, (partsK n ls ls.length).getD c 0 = (p : Int) := ⟨((partsK n ls ls.length).getD c 0).toNat, (Int.toNat_of_nonneg hbd.1).symm⟩
  rw [hp, Int.toNat_natCast] at hcl
  rw [hp] at hbd hlab
  refine ⟨p, hp, by omega, (memS_first (hcl.1 hself) (fun i hi => ?_) n).2 (by omega)⟩
  cases hb : S.testBit i
  · rfl
  · have h2 := hlab i (by omega) hb
    have h3 := parts_bd hl ls.length (Nat.le_refl _) i (by omega)
    omega

end Go.Proofs.YtoknmjpnelbplaaGreat

namespace Go.Proofs.YtoknmjpnelbplaaGreat

/-- How many of the first k nodes are the first ones of their parts. -/
def partC (n : Nat) (ls : List Pr) : Nat → Nat
  | 0 => 0
  | k + 1 => if (partsK n ls ls.length).getD k 0 = (k : Int) then partC n ls k + 1 else partC n ls k

theorem partC_le (n : Nat) (ls : List Pr) : ∀ k, partC n ls k ≤ k
  | 0 => Nat.le_refl _
  | k + 1 => by have := partC_le n ls k; unfold partC; split <;> omega
theorem partC_yes {n : Nat} {ls : List Pr} {k : Nat} (h : (partsK n ls ls.length).getD k 0 = (k : Int)) : partC n ls (k + 1) = partC n ls k + 1 := by simp only [partC]; rw [if_pos h]
theorem partC_no {n : Nat} {ls : List Pr} {k : Nat} (h : ¬ (partsK n ls ls.length).getD k 0 = (k : Int)) : partC n ls (k + 1) = partC n ls k := by simp only [partC]; rw [if_neg h]

noncomputable def partsW (ns ls : List Pr) : Int := if winB ns ls then (partC ns.length ls ns.length : Int) else 0
noncomputable def cfacesW (ns ls : List Pr) : Int := if winB ns ls then (ls.length : Int) - ns.length + 1 + partsW ns ls else 0
noncomputable def panesW (ns ls : List Pr) : Int := if cfacesW ns ls - 1 < 0 then 0 else cfacesW ns ls - 1

theorem partsW_bd (ns ls : List Pr) : 0 ≤ partsW ns ls ∧ partsW ns ls ≤ 12 := by
  unfold partsW
  cases h : winB ns ls
  · simp
  · have := (winB_true.1 h).2.1
    have := partC_le ns.length ls ns.length
    rw [if_pos rfl]
    omega

theorem cfacesW_bd (ns ls : List Pr) : -20 ≤ cfacesW ns ls ∧ cfacesW ns ls ≤ 40 := by
  unfold cfacesW
  cases h : winB ns ls
  · simp
  · have h1 := (winB_true.1 h).2.1
    have h2 := (winB_true.1 h).2.2.1
    have := partsW_bd ns ls
    rw [if_pos rfl]
    omega

/-- The darts of a face take its number. -/
def fillRow (g : List Int) (f : List Nat) (k : Nat) : Nat → List Int
  | 0 => g
  | j + 1 => (fillRow g f k j).set (f.getD j 0) k
def fillAll (F : List (List Nat)) (z : List Int) : Nat → List Int
  | 0 => z
  | k + 1 => fillRow (fillAll F z k) (F.getD k []) k (F.getD k []).length
theorem fillRow_len (g : List Int) (f : List Nat) (k : Nat) : ∀ j, (fillRow g f k j).length = g.length
  | 0 => rfl
  | j + 1 => by simp only [fillRow, List.length_set]; exact fillRow_len g f k j
theorem fillAll_len (F : List (List Nat)) (z : List Int) : ∀ k, (fillAll F z k).length = z.length
  | 0 => rfl
  | k + 1 => by simp only [fillAll]; rw [fillRow_len]; exact fillAll_len F z k

/-- The faces of the darts. -/
noncomputable def sidesL (ns ls : List Pr) : List Int := fillAll (facesW ns ls) (List.replicate (2 * ls.length) 0) (facesW ns ls).length
theorem sidesL_len (ns ls : List Pr) : (sidesL ns ls).length = 2 * ls.length := by unfold sidesL; rw [fillAll_len]; simp

theorem fillRow_bd {g : List Int} {f : List Nat} {k m : Nat} (hk : k < m) (hg : ∀ x ∈ g, 0 ≤ x ∧ x < (m : Int)) : ∀ j, ∀ x ∈ fillRow g f k j, 0 ≤ x ∧ x < (m : Int)
  | 0 => hg
  | j + 1 => by
    intro x hx
    simp only [fillRow] at hx
    rcases List.mem_or_eq_of_mem_set hx with h | h
    · exact fillRow_bd hk hg j x h
    · omega
theorem fillAll_bd {F : List (List Nat)} {z : List Int} {m : Nat} (hz : ∀ x ∈ z, 0 ≤ x ∧ x < (m : Int)) : ∀ k, k ≤ m → ∀ x ∈ fillAll F z k, 0 ≤ x ∧ x < (m : Int)
  | 0, _ => hz
  | k + 1, h => fillRow_bd (by omega) (fillAll_bd hz k (by omega)) _
theorem sidesL_bd {ns ls : List Pr} (h : 0 < (facesW ns ls).length) {d : Nat} (hd : d < 2 * ls.length) : ∃ k : Nat, (sidesL ns ls).getD d 0 = (k : Int) ∧ k < (facesW ns ls).length := by
  have hb := fillAll_bd (F := facesW ns ls) (z := List.replicate (2 * ls.length) 0) (m := (facesW ns ls).length) (fun x hx => by
    have := List.eq_of_mem_replicate hx
    omega) (facesW ns ls).length (Nat.le_refl _)
  have hl : d < (sidesL ns ls).length := by rw [sidesL_len]; exact hd
  have := hb ((sidesL ns ls).getD d 0) (by rw [List.getD, List.getElem?_eq_getElem hl]; exact List.getElem_mem hl)
  exact ⟨((sidesL ns ls).getD d 0).toNat, by omega, by omega⟩

/-- All numbers of a list lie in a range. -/
def inAll (l : List Int) (a b : Int) : Bool := l.all (fun x => inB x a b)
def inAllK (l : List Int) (a b : Int) (k : Nat) : Prop := ∀ j, j < k → inB (l.getD j 0) a b = true
theorem inAll_true {l : List Int} {a b : Int} : inAll l a b = true ↔ inAllK l a b l.length := by
  unfold inAll inAllK
  rw [List.all_eq_true]
  constructor
  · intro h j hj
    rw [List.getD, List.getElem?_eq_getElem hj]
    exact h _ (List.getElem_mem hj)
  · intro h x hx
    obtain ⟨j, hj, rfl⟩ := List.getElem_of_mem hx
    have := h j hj
    rw [List.getD, List.getElem?_eq_getElem hj] at this
    exact this
theorem inAll_bad {l : List Int} {a b : Int} {k : Nat} (hk : k < l.length) (h : inB (l.getD k 0) a b = false) : inAll l a b = false := by
  cases hc : inAll l a b
  · rfl
  · have := inAll_true.1 hc k hk
    rw [h] at this; cases this

/-- The colors are a list for the faces. -/
noncomputable def colorsB (ns ls : List Pr) (cs : List Int) : Bool := wholeB ns ls && (decide (cs.length = (facesW ns ls).length) && inAll cs 0 5)

/-- The lead's two sides are two faces of one color. -/
noncomputable def clashP (ns ls : List Pr) (cs : List Int) (k : Nat) : Bool :=
  decide (¬ (sidesL ns ls).getD (2 * k) 0 = (sidesL ns ls).getD (2 * k + 1) 0) && decide (cs.getD ((sidesL ns ls).getD (2 * k) 0).toNat 0 = cs.getD ((sidesL ns ls).getD (2 * k + 1) 0).toNat 0)
/-- The first such lead of m leads from the k-th on. -/
noncomputable def clashF (ns ls : List Pr) (cs : List Int) : Nat → Nat → Int
  | 0, _ => -1
  | m + 1, k => if clashP ns ls cs k = true then k else clashF ns ls cs m (k + 1)
noncomputable def clashI (ns ls : List Pr) (cs : List Int) : Int := if colorsB ns ls cs = true then clashF ns ls cs ls.length 0 else -1
noncomputable def properB (ns ls : List Pr) (cs : List Int) : Bool := colorsB ns ls cs && decide (clashI ns ls cs < 0)

/-- A deposit by its place in the list. -/
def dpI (l : List Dp) (i : Nat) : Dp := l.getD i ⟨0, 0, 0⟩
theorem dpI_get {l : List Dp} {i : Nat} (h : i < l.length) : dpI l i = l[i] := by simp [dpI, List.getD, h]

/-- No deposit of the first j lies at the place. -/
def noPlace (l : List Dp) (x : Int) (j : Nat) : Bool := (List.range j).all (fun i => decide (¬ (dpI l i).k = x))
theorem noPlace_zero (l : List Dp) (x : Int) : noPlace l x 0 = true := rfl
theorem noPlace_succ (l : List Dp) (x : Int) (j : Nat) : noPlace l x (j + 1) = (noPlace l x j && decide (¬ (dpI l j).k = x)) := by
  unfold noPlace
  rw [List.range_succ, List.all_append]
  simp
theorem noPlace_bad {l : List Dp} {x : Int} {i j : Nat} (h : i < j) (hx : (dpI l i).k = x) : noPlace l x j = false := by
  cases hc : noPlace l x j
  · rfl
  · unfold noPlace at hc
    have := List.all_eq_true.1 hc i (List.mem_range.2 h)
    simp [hx] at this

/-- A deposit is in order behind those ahead of it. -/
def depB (l : List Dp) (i : Nat) : Bool :=
  inB (dpI l i).k 1 200 && (inB (dpI l i).a 1 50 && (inB (dpI l i).b 0 9999 && ((decide (i = 0) || decide ((dpI l (i - 1)).b ≤ (dpI l i).b)) && noPlace l (dpI l i).k i)))
def depsK (l : List Dp) (k : Nat) : Prop := ∀ j, j < k → depB l j = true
def depsB (l : List Dp) : Bool := decide (l.length ≤ 40) && (List.range l.length).all (depB l)
theorem depsB_true {l : List Dp} : depsB l = true ↔ l.length ≤ 40 ∧ depsK l l.length := by
  unfold depsB depsK
  rw [Bool.and_eq_true, decide_eq_true_eq, List.all_eq_true]
  constructor
  · rintro ⟨h1, h2⟩; exact ⟨h1, fun j hj => h2 j (List.mem_range.2 hj)⟩
  · rintro ⟨h1, h2⟩; exact ⟨h1, fun j hj => h2 j (List.mem_range.1 hj)⟩
theorem depsB_bad {l : List Dp} {k : Nat} (hk : k < l.length) (h : depB l k = false) : depsB l = false := by
  cases hc : depsB l
  · rfl
  · have := (depsB_true.1 hc).2 k hk
    rw [h] at this; cases this
theorem depsB_long {l : List Dp} (h : ¬ l.length ≤ 40) : depsB l = false := by unfold depsB; rw [decide_eq_false h]; rfl
theorem depsK_zero (l : List Dp) : depsK l 0 := fun j hj => absurd hj (by omega)
theorem depsK_succ {l : List Dp} {k : Nat} (h : depsK l k) (hk : depB l k = true) : depsK l (k + 1) := fun j hj => by
  by_cases e : j = k
  · subst e; exact hk
  · exact h j (by omega)

/-- A studio is in order. -/
noncomputable def okStB (S : St) : Bool :=
  okD S.D && (depsB S.ds && (inB S.fund 0 1000000 && ((decide (S.cs.length = 0) || properB S.D.nn S.D.nl S.cs) && ((decide (S.ds.length = 0) || wholeB S.D.nn S.D.nl) && S.ds.all (fun d => decide (d.k ≤ panesW S.D.nn S.D.nl))))))

end Go.Proofs.YtoknmjpnelbplaaGreat

namespace Go.Proofs.YtoknmjpnelbplaaGreat
open Go.RowKit

theorem madeI (n : Nat) : (madeCells #[.int .i64 0] n).toList = (List.replicate n (0 : Int)).map vI := by
  apply List.ext_getElem?
  intro j
  by_cases hj : j < n
  · simp only [madeCells, Array.toList_map, List.getElem?_map, Array.toList_range, List.getElem?_range hj, List.getElem?_replicate, if_pos hj, Option.map_some]
    congr 1
    show #[Value.int .i64 0][j % 1]! = _
    rw [Nat.mod_one]; rfl
  · simp [madeCells, hj]

/-- What facesAt returns. -/
noncomputable def sidesI (ns ls : List Pr) : List Int := if wholeB ns ls then sidesL ns ls else []

theorem face_pos {ns ls : List Pr} (hw : wholeB ns ls = true) : 0 < (facesW ns ls).length := by
  have hwin := whole_win hw
  have hld : ∀ j : Nat, j < ls.length → leadB ns (ndI ls j) = true := fun j hj => (hwin.1.2.2.2.2.2 j hj).1
  have hF : facesW ns ls = facesD ns ls := by simp [facesW, hw]
  rw [hF]
  have h1 := (facesK_all hld (2 * ls.length) (Nat.le_refl _)).1 0 (by omega)
  rcases Nat.eq_zero_or_pos (facesD ns ls).length with h0 | h0
  · have : facesK ns ls (2 * ls.length) = [] := List.eq_nil_of_length_eq_zero h0
    rw [this] at h1
    simp at h1
  · exact h0

/-- A slice that lies in a block, set at a place, is owned still. -/
theorem own_set {base : Nat} {w : World} {g n c : Nat} {l : List Int} (h : OwnI base w (.slice (some ⟨g, 0, none⟩) n c) l) (q : Nat) (x : Int) : OwnI base (w.setCell ⟨g, q, none⟩ (.int .i64 x)) (.slice (some ⟨g, 0, none⟩) n c) (l.set q x) :=
  OwnE.set_ (t := 3) (enc := vI) h q x

theorem cell_of_block {w w' : World} {b o : Nat} (h : w'.heap[b]? = w.heap[b]?) : w'.cell? ⟨b, o, none⟩ = w.cell? ⟨b, o, none⟩ := by
  simp only [World.cell?, h]

theorem rowI_at {base : Nat} {w : World} {v : Value} {l : List Int} (h : OwnI base w v l) (hn : 0 < l.length) :
    ∃ b c, v = .slice (some ⟨b, 0, none⟩) l.length c ∧ base ≤ b ∧ b < w.heap.size ∧ ∀ j, j < l.length → w.cell? ⟨b, j, none⟩ = some (.int .i64 (l.getD j 0)) := by
  rcases hc : h.2 with ⟨_, h0⟩ | ⟨g, cap, cur, rfl, hb, _⟩
  · omega
  · exact ⟨g, cap, rfl, hb, (OwnI.lt h g rfl).2, fun j hj => OwnE.cell (t := 3) (enc := vI) h 0 hj⟩

/-- The rows of faces in new memory: where they lie. -/
theorem rowsF_at {base : Nat} {w : World} {v : Value} {F : List (List Nat)} (h : OwnF base w v F) (hn : 0 < F.length) (hp : ∀ k, k < F.length → 0 < (F.getD k []).length) :
    ∃ b c, v = .slice (some ⟨b, 0, none⟩) F.length c ∧ base ≤ b ∧ b < w.heap.size ∧ ∀ k, k < F.length → ∃ b5 c5, w.cell? ⟨b, k, none⟩ = some (.slice (some ⟨b5, 0, none⟩) (F.getD k []).length c5) ∧ base ≤ b5 ∧ b5 < w.heap.size ∧
      ∀ j, j < (F.getD k []).length → w.cell? ⟨b5, j, none⟩ = some (.int .i64 ((F.getD k []).getD j 0 : Nat)) := by
  obtain ⟨vs, h1, h2, h3⟩ := h
  rcases hc : h2.2 with ⟨_, h0⟩ | ⟨g, cap, cur, rfl, hb, _⟩
  · omega
  · refine ⟨g, cap, rfl, hb, (World.ownsRow.lt h2 g rfl).2, fun k hk => ?_⟩
    obtain ⟨b5, c5, e, hb5, hl5, hc5⟩ := rowI_at (h3 k hk) (by rw [natI_length]; exact hp k hk)
    rw [natI_length] at e hc5
    have hcell := h2.cellAt k (by omega)
    have hvk : vs[k]? = some (vs.getD k undef) := by rw [List.getD, List.getElem?_eq_getElem (by omega)]; rfl
    rw [hvk, e] at hcell
    exact ⟨b5, c5, hcell, hb5, hl5, fun j hj => by rw [hc5 j hj, natI_get]⟩

set_option maxHeartbeats 2000000 in
set_option maxRecDepth 100000 in
theorem iFaces_no (vn vl : Value) (ns ls : List Pr) (w : World) (hn : RP w vn ns) (hl : RP w vl ls) (hw : wholeB ns ls = false) :
    Calls Tryz.prog 187 #[.agg #[vn, vl]] w fun e w' => e = .returned (.slice none 0 0) ∧ Below w.heap.size w w' := by
  have hb0 : Below w.heap.size w (w.alloc (.cells #[vn, vl] 38)) := by (repeat' (first | (with_reducible exact Below.refl _ _) | (with_reducible assumption) | (with_reducible refine Below.drew ?_) | (with_reducible refine below_drewN ?_ _) | (with_reducible refine Below.alloc ?_ ?_ _) | (with_reducible refine Below.setCell ?_ ?_ _) | (with_reducible refine Below.step (by assumption) ?_ ?_))); all_goals (first | omega | (simp; done) | (simp; omega))
  go_enter Tryz.func187, Tryz.ntmps187
  go_wp2_with fail
  refine (iWhole_at _ _ ns ls _ _ (hn.below hb0) (hl.below hb0) hw).mono ?_
  rintro e w1 ⟨rfl, hb1⟩
  have hbw1 := hb0.trans (hb1.mono hb0.size)
  go_wp2
  go_ret
  exact ⟨rfl, hbw1⟩

set_option maxHeartbeats 8000000 in
set_option maxRecDepth 100000 in
theorem iSides_any (vn vl : Value) (ns ls : List Pr) (w : World) (hn : RP w vn ns) (hl : RP w vl ls) :
    Calls Tryz.prog 189 #[.agg #[vn, vl]] w (RetI (sidesI ns ls) w) := by
  obtain ⟨An, cn, rfl, hcn, hmn, _⟩ := hn.formI
  obtain ⟨Al, cl, rfl, hcl, hml, _⟩ := hl.formI
  unfold maxLen at hmn hml
  have hb0 : Below w.heap.size w (w.alloc (.cells #[.slice An ns.length cn, .slice Al ls.length cl] 38)) := by (repeat' (first | (with_reducible exact Below.refl _ _) | (with_reducible assumption) | (with_reducible refine Below.drew ?_) | (with_reducible refine below_drewN ?_ _) | (with_reducible refine Below.alloc ?_ ?_ _) | (with_reducible refine Below.setCell ?_ ?_ _) | (with_reducible refine Below.step (by assumption) ?_ ?_))); all_goals (first | omega | (simp; done) | (simp; omega))
  have hW0 : Blk (w.alloc (.cells #[.slice An ns.length cn, .slice Al ls.length cl] 38)) w.heap.size 38 #[.slice An ns.length cn, .slice Al ls.length cl] := Blk.newAt rfl
  cases hw : wholeB ns ls
  · have HR : Hid (sidesI ns ls = []) := Lib.hid (by simp [sidesI, hw])
    have hnil := fun (u : World) (a : Option Addr) (l c : Nat) => Lib.run_eql_slice_nil (P := Tryz.prog) u 130 29 a l c 0 0 Tryz.underlying130
    go_enter Tryz.func189, Tryz.ntmps189
    go_wp2_with fail
    refine (iFaces_no _ _ ns ls _ (hn.below hb0) (hl.below hb0) hw).mono ?_
    rintro e w1 ⟨rfl, hb1⟩
    have hbw1 := hb0.trans (hb1.mono hb0.size)
    go_wp2
    go_ret
    exact ⟨_, rfl, by rw [HR.out]; exact OwnI.nil _ _, hbw1⟩
  · have HR : Hid (sidesI ns ls = sidesL ns ls) := Lib.hid (by simp [sidesI, hw])
    have hwin := (whole_win hw).1
    have hm20 := hwin.2.2.1
    have hfp := face_pos hw
    obtain ⟨i0, hi, iz0, iz1, iz2⟩ := info_parts infoInt
    have HAT := Lib.hid (fun k hk => facesW_at (ns := ns) (ls := ls) (k := k) hk)
    have hfl := facesW_len ns ls
    have HS : Hid (sidesL ns ls = fillAll (facesW ns ls) (List.replicate (2 * ls.length) 0) (facesW ns ls).length) := Lib.hid rfl
    have e2 : 2 * (ls.length : Int) = ((2 * ls.length : Nat) : Int) := by omega
    clear hwin hw
    have hnil := fun (u : World) (a : Option Addr) (l c : Nat) => Lib.run_eql_slice_nil (P := Tryz.prog) u 130 29 a l c 0 0 Tryz.underlying130
    go_enter Tryz.func189, Tryz.ntmps189
    go_wp2_with fail
    refine (iFaces_any _ _ ns ls _ (hn.below hb0) (hl.below hb0)).mono ?_
    rintro e w1 ⟨v1, rfl, ho1, hb1⟩
    have hbw1 := hb0.trans (hb1.mono hb0.size)
    have hW1 := hW0.below hb1 hW0.lt
    have hz1 := hW1.lt
    have hF1 := ho1.reads
    generalize facesW ns ls = F at *
    obtain ⟨A1, c1, rfl, hc1, hm1, hcell1⟩ := hF1.get
    unfold maxLen at hm1
    obtain ⟨b1, off1, rfl, hb1l, hcl1⟩ := hcell1 hfp
    have HC1 := Lib.hid hcl1
    clear hb1 hb0 hW0 ho1 hcell1 hcl1 hF1 hn hl
    (have a_0 := hW1.cell 0); (have a_1 := hW1.cell 1); simp only [List.getElem?_toArray, List.getElem?_cons_succ, List.getElem?_cons_zero] at a_0 a_1
    generalize hNN : 2 * ls.length = N at *
    have hN40 : N ≤ 40 := by omega
    have HZ := Lib.hid (fun k => fillAll_len F (List.replicate N (0 : Int)) k)
    have HFR := Lib.hid (fun (g : List Int) (f : List Nat) (k j : Nat) => fillRow_len g f k j)
    have HN := Lib.hid hNN
    clear hNN
    go_wp2_with (at_make; refine wpList_make_full _ rfl _ _ 29 rfl (w.heap.size + 1) 3 i0 (.int .i64 0) 1 Tryz.underlying29 hi iz0 iz1 .i64 .i64 _ _ N rfl rfl rfl rfl (by rw [iz2]; omega) (by unfold maxLen; omega) (by omega) ?_)
    intro w2 hown1 hgr1
    have hB2 : Below w1.heap.size w1 w2 := (Below.refl _ _).grown hgr1 (Nat.le_refl _) (by intro k hk; cases hk)
    have hsn : OwnI (w.heap.size + 1) w2 (.slice (some ⟨w1.heap.size, 0, none⟩) N N) (fillAll F (List.replicate N 0) 0) := by
      show OwnI _ _ _ (List.replicate N 0)
      unfold OwnI
      rw [List.length_replicate, ← madeI]; exact hown1
    have hgsz := (hsn.lt _ rfl).2
    have hgg := hz1
    obtain ⟨gs, hgs⟩ : ∃ g, w1.heap.size = g := ⟨_, rfl⟩
    rw [hgs] at hB2 hsn hgsz hgg hb1l ⊢
    have HGS := Lib.hid hgs
    clear hown1 hgr1 a_0 a_1 hz1 hgs i0 hi iz0 iz1 iz2
    go_wp2
    go_loopw [20] (fun x wr => ∃ k : Nat, k ≤ F.length ∧ x = .int .i64 k ∧ OwnI (w.heap.size + 1) wr (.slice (some ⟨gs, 0, none⟩) N N) (fillAll F (List.replicate N 0) k) ∧ Below gs w1 wr) (fun x _ => F.length - (intOf x).toNat)
    case atStart => exact ⟨0, Nat.zero_le _, rfl, hsn, hB2⟩
    case round =>
      clear hsn hB2 hgsz
      obtain ⟨k, hk, rfl, ho, hB⟩ := hrel
      by_cases hlt : k < F.length
      · have hlt1 : (k : Int) < (F.length : Int) := by omega
        have ik1 : (0 : Int) ≤ (k : Int) := by omega
        obtain ⟨rr, hcr, hrr⟩ := HC1.out k hlt
        have hcr' := (hB.cell (p := ⟨b1, off1 + k, none⟩) hb1l).trans hcr
        have hb1w : b1 < wr.heap.size := by have := hB.size; rw [HGS.out] at this; omega
        obtain ⟨hwin, hfe, hf0, hf40⟩ := HAT.out k hlt
        have HFE := Lib.hid hfe
        have HSK : Hid (fillAll F (List.replicate N 0) (k + 1) = fillRow (fillAll F (List.replicate N 0) k) (F.getD k []) k (F.getD k []).length) := Lib.hid rfl
        have hgl := HZ.out k
        rw [List.length_replicate] at hgl
        generalize fillAll F (List.replicate N 0) k = G at *
        generalize F.getD k [] = f at *
        obtain ⟨A5, c5, rfl, hc5, hm5, hcell5⟩ := hrr.form
        rw [natI_length] at hcell5 hcr' hc5 hm5
        obtain ⟨b5, off5, rfl, hb5, hcl5⟩ := hcell5 hf0
        rw [HGS.out] at hb5
        have HC5 := Lib.hid hcl5
        clear hcell5 hcl5 hcr hrr hfe hwin
        have h0 : OwnI (w.heap.size + 1) wr (.slice (some ⟨gs, 0, none⟩) N N) (fillRow G f k 0) := ho
        clear ho
        go_wp2
        go_loopw [27] (fun x wr => ∃ j : Nat, j ≤ f.length ∧ x = .int .i64 j ∧ OwnI (w.heap.size + 1) wr (.slice (some ⟨gs, 0, none⟩) N N) (fillRow G f k j) ∧ Below gs w1 wr) (fun x _ => f.length - (intOf x).toNat)
        case atStart => exact ⟨0, Nat.zero_le _, rfl, h0, hB⟩
        case round =>
          clear h0 hB hcr' hb1w
          obtain ⟨j, hj, rfl, ho, hB⟩ := hrel
          by_cases hjl : j < f.length
          · have hjl1 : (j : Int) < (f.length : Int) := by omega
            have ij1 : (0 : Int) ≤ (j : Int) := by omega
            have hcj := (hB.cell (p := ⟨b5, off5 + j, none⟩) hb5).trans (HC5.out j hjl)
            rw [natI_get] at hcj
            have hb5w : b5 < wr.heap.size := by have := hB.size; rw [HGS.out] at this; omega
            have hem : f.getD j 0 < N := HFE.out _ (by rw [List.getD, List.getElem?_eq_getElem hjl]; exact List.getElem_mem hjl)
            have HSJ : Hid (fillRow G f k (j + 1) = (fillRow G f k j).set (f.getD j 0) k) := Lib.hid rfl
            have hrl := HFR.out G f k j
            generalize f.getD j 0 = x at *
            have ix1 : (0 : Int) ≤ (x : Int) := by omega
            have ix2 : (x : Int) < (N : Int) := by omega
            have hxs := OwnE.cell (t := 3) (enc := vI) ho 0 (q := x) (by omega)
            obtain ⟨z, hz⟩ : ∃ z, wr.cell? ⟨gs, x, none⟩ = some z := ⟨_, hxs⟩
            have fx := OwnE.frz (t := 3) (enc := vI) ho x
            have HSN : Hid (OwnI (w.heap.size + 1) (wr.setCell ⟨gs, x, none⟩ (.int .i64 k)) (.slice (some ⟨gs, 0, none⟩) N N) (fillRow G f k (j + 1))) := Lib.hid (by rw [HSJ.out]; exact own_set ho x k)
            have HBF := Lib.hid (hB.setCell (p := ⟨gs, x, none⟩) (Nat.le_refl _) (.int .i64 k))
            have hgl1 := (OwnI.lt ho gs rfl).2
            clear ho hB hxs
            go_wp2
            go_roundw
            case rel => exact ⟨j + 1, by omega, by go_num, HSN.out, HBF.out⟩
            case measure => simp [intOf]; omega
          · have hjj : j = f.length := by omega
            subst hjj
            go_wp2
            go_roundw
            case rel => exact ⟨k + 1, by omega, by go_num, by rw [HSK.out]; exact ho, hB⟩
            case measure => simp [intOf]; omega
      · have hkk : k = F.length := by omega
        subst hkk
        have HB := Lib.hid (hbw1.trans (Below.mono (by rw [HGS.out]; exact hB) hbw1.size))
        go_wp2
        go_ret
        exact ⟨_, rfl, by rw [HR.out, HS.out]; exact OwnI.mono ho (by omega), HB.out⟩

set_option maxHeartbeats 8000000 in
set_option maxRecDepth 100000 in
theorem sSides_any (vn vl : Value) (ns ls : List Pr) (w : World) (hn : RP w vn ns) (hl : RP w vl ls) (hw : wholeB ns ls = true) :
    Calls Tryz.prog 172 #[.agg #[vn, vl]] w (RetI (sidesL ns ls) w) := by
  obtain ⟨An, cn, rfl, hcn, hmn, _⟩ := hn.formI
  obtain ⟨Al, cl, rfl, hcl, hml, _⟩ := hl.formI
  unfold maxLen at hmn hml
  have hb0 : Below w.heap.size w (w.alloc (.cells #[.slice An ns.length cn, .slice Al ls.length cl] 38)) := by (repeat' (first | (with_reducible exact Below.refl _ _) | (with_reducible assumption) | (with_reducible refine Below.drew ?_) | (with_reducible refine below_drewN ?_ _) | (with_reducible refine Below.alloc ?_ ?_ _) | (with_reducible refine Below.setCell ?_ ?_ _) | (with_reducible refine Below.step (by assumption) ?_ ?_))); all_goals (first | omega | (simp; done) | (simp; omega))
  have hW0 : Blk (w.alloc (.cells #[.slice An ns.length cn, .slice Al ls.length cl] 38)) w.heap.size 38 #[.slice An ns.length cn, .slice Al ls.length cl] := Blk.newAt rfl
  have hwin := (whole_win hw).1
  have hm20 := hwin.2.2.1
  have hfp := face_pos hw
  obtain ⟨i0, hi, iz0, iz1, iz2⟩ := info_parts infoInt
  have HAT := Lib.hid (fun k hk => facesW_at (ns := ns) (ls := ls) (k := k) hk)
  have hfl := facesW_len ns ls
  have HS : Hid (sidesL ns ls = fillAll (facesW ns ls) (List.replicate (2 * ls.length) 0) (facesW ns ls).length) := Lib.hid rfl
  have e2 : 2 * (ls.length : Int) = ((2 * ls.length : Nat) : Int) := by omega
  have HFA := Lib.hid (fun (v : World) (h1 : RP v (.slice An ns.length cn) ns) (h2 : RP v (.slice Al ls.length cl) ls) => sFaces_any (.slice An ns.length cn) (.slice Al ls.length cl) ns ls v h1 h2)
  clear hwin hw
  obtain ⟨w1, hw1⟩ : ∃ w1, w1 = w.alloc (.cells #[.slice An ns.length cn, .slice Al ls.length cl] 38) := ⟨_, rfl⟩
  have hs1 : w1.heap.size = w.heap.size + 1 := by rw [hw1]; simp
  have HW1 := Lib.hid hw1
  rw [← hw1] at hb0 hW0
  clear hw1
  go_enter Tryz.func172, Tryz.ntmps172
  go_upto_region 1 with (fail)
  rw [← HW1.out]
  clear HW1
  (have a_0 := hW0.cell 0); (have a_1 := hW0.cell 1); simp only [List.getElem?_toArray, List.getElem?_cons_succ, List.getElem?_cons_zero] at a_0 a_1
  have hz1 := hW0.lt
  generalize hNN : 2 * ls.length = N at *
  have hN40 : N ≤ 40 := by omega
  have HZ := Lib.hid (fun F k => fillAll_len F (List.replicate N (0 : Int)) k)
  have HFR := Lib.hid (fun (g : List Int) (f : List Nat) (k j : Nat) => fillRow_len g f k j)
  have HN := Lib.hid hNN
  clear hNN
  go_wp2_with (at_make; refine wpList_make_full _ rfl _ _ 29 rfl (w.heap.size + 1) 3 i0 (.int .i64 0) 1 Tryz.underlying29 hi iz0 iz1 .i64 .i64 _ _ N rfl rfl rfl rfl (by rw [iz2]; omega) (by unfold maxLen; omega) (by omega) ?_)
  intro w2 hown1 hgr1
  have hB2 : Below w1.heap.size w1 w2 := (Below.refl _ _).grown hgr1 (Nat.le_refl _) (by intro k hk; cases hk)
  have hsn : OwnI (w.heap.size + 1) w2 (.slice (some ⟨w.heap.size + 1, 0, none⟩) N N) (List.replicate N 0) := by
    unfold OwnI
    rw [List.length_replicate, ← madeI]; exact hown1
  have hbw2 := hb0.trans (hB2.mono hb0.size)
  have hW2 := hW0.below hB2 hz1
  have hz2 := hW2.lt
  obtain ⟨gs, hgs⟩ : ∃ g, w.heap.size + 1 = g := ⟨_, rfl⟩
  clear hown1 hgr1 a_0 a_1 hz1 hB2 hb0 hW0 i0 hi iz0 iz1 iz2
  rw [hgs] at hsn ⊢
  have HGS := Lib.hid hgs
  clear hgs hs1
  (have a_0 := hW2.cell 0); (have a_1 := hW2.cell 1); simp only [List.getElem?_toArray, List.getElem?_cons_succ, List.getElem?_cons_zero] at a_0 a_1
  go_wp2_with fail
  refine (HFA.out _ (hn.below hbw2) (hl.below hbw2)).mono ?_
  rintro e w3 ⟨v3, rfl, ho3, hb3⟩
  have hbw3 := hbw2.trans (hb3.mono hbw2.size)
  have hs3 := hsn.kept hb3
  have hF3 := ho3.reads
  have hgl2 : gs < w2.heap.size := (OwnI.lt hsn gs rfl).2
  generalize facesW ns ls = F at *
  have hFP := fun k hk => (HAT.out k hk).2.2.1
  obtain ⟨b1, c1, rfl, hbb, hb1l, hcl1⟩ := rowsF_at ho3 hfp hFP
  have hs3l := hb3.size
  have HC1 := Lib.hid hcl1
  have HFE := Lib.hid (fun k hk => (HAT.out k hk).2.1)
  have H40 := Lib.hid (fun k hk => (HAT.out k hk).2.2.2)
  have hF40 := hfl
  clear hF3 hcl1 hFP HAT hb3 ho3 hbw2 hW2 hsn a_0 a_1
  have hgr0 : w3.grownBy w3 (some gs) := World.grownBy.refl _ _
  go_wp2
  go_loopw [5] (fun x wr => ∃ k : Nat, k ≤ F.length ∧ x = .int .i64 k ∧ OwnI gs wr (.slice (some ⟨gs, 0, none⟩) N N) (fillAll F (List.replicate N 0) k) ∧ w3.grownBy wr (some gs)) (fun x _ => F.length - (intOf x).toNat)
  case atStart => exact ⟨0, Nat.zero_le _, rfl, hs3, hgr0⟩
  case round =>
    clear hs3 hgr0
    obtain ⟨k, hk, rfl, ho, hB⟩ := hrel
    by_cases hlt : k < F.length
    · have hlt1 : (k : Int) < (F.length : Int) := by omega
      have ik1 : (0 : Int) ≤ (k : Int) := by omega
      obtain ⟨b5, c5, hcr, hbb5, hb5, hc5⟩ := HC1.out k hlt
      have HFE1 := Lib.hid (HFE.out k hlt)
      have hf40 := H40.out k hlt
      have HSK : Hid (fillAll F (List.replicate N 0) (k + 1) = fillRow (fillAll F (List.replicate N 0) k) (F.getD k []) k (F.getD k []).length) := Lib.hid rfl
      have hgl := HZ.out F k
      rw [List.length_replicate] at hgl
      generalize fillAll F (List.replicate N 0) k = G at *
      generalize F.getD k [] = f at *
      have HCR := Lib.hid hcr
      have HC5 := Lib.hid hc5
      clear hcr hc5
      have h0 : OwnI gs wr (.slice (some ⟨gs, 0, none⟩) N N) (fillRow G f k 0) := ho
      clear ho
      go_wp2
      go_loopw [6] (fun x wr => ∃ j : Nat, j ≤ f.length ∧ x = .int .i64 j ∧ OwnI gs wr (.slice (some ⟨gs, 0, none⟩) N N) (fillRow G f k j) ∧ w3.grownBy wr (some gs)) (fun x _ => f.length - (intOf x).toNat)
      case atStart => exact ⟨0, Nat.zero_le _, rfl, h0, hB⟩
      case round =>
        clear h0 hB
        obtain ⟨j, hj, rfl, ho, hB⟩ := hrel
        have hcr := (cell_of_block (o := k) (hB.block b1 (by omega) (fun e => by cases e; omega))).trans HCR.out
        have hsz := hB.size
        have hb1w : b1 < wr.heap.size := by omega
        have hb5w : b5 < wr.heap.size := by omega
        by_cases hjl : j < f.length
        · have hjl1 : (j : Int) < (f.length : Int) := by omega
          have ij1 : (0 : Int) ≤ (j : Int) := by omega
          have hcj := (cell_of_block (o := j) (hB.block b5 (by omega) (fun e => by cases e; omega))).trans (HC5.out j hjl)
          have hem : f.getD j 0 < N := HFE1.out _ (by rw [List.getD, List.getElem?_eq_getElem hjl]; exact List.getElem_mem hjl)
          have HSJ : Hid (fillRow G f k (j + 1) = (fillRow G f k j).set (f.getD j 0) k) := Lib.hid rfl
          have hrl := HFR.out G f k j
          generalize f.getD j 0 = x at *
          have ix1 : (0 : Int) ≤ (x : Int) := by omega
          have ix2 : (x : Int) < (N : Int) := by omega
          have hxs := OwnE.cell (t := 3) (enc := vI) ho 0 (q := x) (by omega)
          obtain ⟨z, hz⟩ : ∃ z, wr.cell? ⟨gs, x, none⟩ = some z := ⟨_, hxs⟩
          have fx := OwnE.frz (t := 3) (enc := vI) ho x
          have HSN : Hid (OwnI gs (wr.setCell ⟨gs, x, none⟩ (.int .i64 k)) (.slice (some ⟨gs, 0, none⟩) N N) (fillRow G f k (j + 1))) := Lib.hid (by rw [HSJ.out]; exact own_set ho x k)
          have HBF := Lib.hid (grownBy_set hB x (.int .i64 k))
          have hgl1 := (OwnI.lt ho gs rfl).2
          clear ho hB hxs
          go_wp2
          go_roundw
          case rel => exact ⟨j + 1, by omega, by go_num, HSN.out, HBF.out⟩
          case measure => simp [intOf]; omega
        · have hjj : j = f.length := by omega
          subst hjj
          go_wp2
          go_roundw
          case rel => exact ⟨k + 1, by omega, by go_num, by rw [HSK.out]; exact ho, hB⟩
          case measure => simp [intOf]; omega
    · have hkk : k = F.length := by omega
      subst hkk
      have HB := Lib.hid (hbw3.grown hB hbw3.size (fun k hk => by cases hk; have := HGS.out; omega))
      go_wp2
      go_ret
      exact ⟨_, rfl, by rw [HS.out]; exact OwnI.mono ho (by have := HGS.out; omega), HB.out⟩

end Go.Proofs.YtoknmjpnelbplaaGreat

namespace Go.Proofs.YtoknmjpnelbplaaGreat
open Go.RowKit

/-- The first place among m deposits from the k-th on. -/
def plF (l : List Dp) (x : Int) : Nat → Nat → Int
  | 0, _ => -1
  | m + 1, k => if (dpI l k).k = x then (k : Int) else plF l x m (k + 1)
theorem plF_yes {l : List Dp} {x : Int} {m k : Nat} (h : (dpI l k).k = x) : plF l x (m + 1) k = k := by simp only [plF]; rw [if_pos h]
theorem plF_no {l : List Dp} {x : Int} {m k : Nat} (h : ¬ (dpI l k).k = x) : plF l x (m + 1) k = plF l x m (k + 1) := by simp only [plF]; rw [if_neg h]
theorem plF_spec (l : List Dp) (x : Int) : ∀ m k, (∃ i : Nat, plF l x m k = i ∧ k ≤ i ∧ i < k + m ∧ (dpI l i).k = x ∧ ∀ j, k ≤ j → j < i → ¬ (dpI l j).k = x) ∨ (plF l x m k = -1 ∧ ∀ j, k ≤ j → j < k + m → ¬ (dpI l j).k = x)
  | 0, k => .inr ⟨rfl, fun j h1 h2 => by omega⟩
  | m + 1, k => by
    by_cases h : (dpI l k).k = x
    · exact .inl ⟨k, plF_yes h, Nat.le_refl _, by omega, h, fun j h1 h2 => by omega⟩
    · rw [plF_no h]
      rcases plF_spec l x m (k + 1) with ⟨i, h1, h2, h3, h4, h5⟩ | ⟨h1, h2⟩
      · refine .inl ⟨i, h1, by omega, by omega, h4, fun j g1 g2 => ?_⟩
        by_cases e : j = k
        · subst e; exact h
        · exact h5 j (by omega) g2
      · refine .inr ⟨h1, fun j g1 g2 => ?_⟩
        by_cases e : j = k
        · subst e; exact h
        · exact h2 j (by omega) (by omega)
theorem plF_neg {l : List Dp} {x : Int} {n : Nat} (h : noPlace l x n = true) : plF l x n 0 = -1 := by
  rcases plF_spec l x n 0 with ⟨i, h1, h2, h3, h4, h5⟩ | ⟨h1, h2⟩
  · rw [noPlace_bad (show i < n by omega) h4] at h; cases h
  · exact h1
theorem plF_pos {l : List Dp} {x : Int} {n : Nat} (h : noPlace l x n = false) : ∃ i : Nat, plF l x n 0 = i ∧ i < n ∧ (dpI l i).k = x := by
  rcases plF_spec l x n 0 with ⟨i, h1, h2, h3, h4, h5⟩ | ⟨h1, h2⟩
  · exact ⟨i, h1, by omega, h4⟩
  · have : noPlace l x n = true := by
      unfold noPlace
      rw [List.all_eq_true]
      intro i hi
      have := h2 i (by omega) (by have := List.mem_range.1 hi; omega)
      simp [this]
    rw [this] at h; cases h

/-- The first n deposits of a list lie at an address. -/
def DpAt (w : World) (b off n : Nat) (l : List Dp) : Prop := b < w.heap.size ∧ ∀ k, k < n → w.cell? ⟨b, off + k * 3, none⟩ = some (.int .i64 (dpI l k).k) ∧ w.cell? ⟨b, off + k * 3 + 1, none⟩ = some (.int .i64 (dpI l k).a) ∧ w.cell? ⟨b, off + k * 3 + 2, none⟩ = some (.int .i64 (dpI l k).b)
theorem DpAt.below {w w' : World} {b off n : Nat} {l : List Dp} (h : DpAt w b off n l) (hb : Below w.heap.size w w') : DpAt w' b off n l :=
  ⟨Nat.lt_of_lt_of_le h.1 hb.size, fun k hk => ⟨(hb.cell (p := ⟨b, off + k * 3, none⟩) h.1).trans (h.2 k hk).1, (hb.cell (p := ⟨b, off + k * 3 + 1, none⟩) h.1).trans (h.2 k hk).2.1, (hb.cell (p := ⟨b, off + k * 3 + 2, none⟩) h.1).trans (h.2 k hk).2.2⟩⟩
theorem DpAt.take {w : World} {b off n m : Nat} {l : List Dp} (h : DpAt w b off n l) (hm : m ≤ n) : DpAt w b off m l := ⟨h.1, fun k hk => h.2 k (by omega)⟩
theorem RDp.at_ {w : World} {v : Value} {l : List Dp} (h : RDp w v l) : ∃ A c, v = .slice A l.length c ∧ l.length ≤ c ∧ l.length ≤ maxLen ∧ (0 < l.length → ∃ b off, A = some ⟨b, off, none⟩ ∧ DpAt w b off l.length l) := by
  obtain ⟨A, c, h1, h2, h3, h4⟩ := h.form
  refine ⟨A, c, h1, h2, h3, fun hp => ?_⟩
  obtain ⟨b, off, g1, g2, g3⟩ := h4 hp
  exact ⟨b, off, g1, g2, fun k hk => by rw [dpI_get hk]; exact g3 k hk⟩

theorem iDepEq_at (p c d x : Int) (g : Nat) (w : World) (hg : g < w.heap.size) (hx : w.cell? ⟨g, 0, none⟩ = some (.int .i64 x)) :
    Calls Tryz.prog 186 #[.agg #[.int .i64 p, .int .i64 c, .int .i64 d], .pointer (some ⟨g, 0, none⟩)] w fun e w' => e = .returned (.bool (p == x)) ∧ Below w.heap.size w w' := by
  go_enter Tryz.func186, Tryz.ntmps186
  go_wp2
  go_ret
  exact ⟨rfl, by (repeat' (first | (with_reducible exact Below.refl _ _) | (with_reducible assumption) | (with_reducible refine Below.drew ?_) | (with_reducible refine below_drewN ?_ _) | (with_reducible refine Below.alloc ?_ ?_ _) | (with_reducible refine Below.setCell ?_ ?_ _) | (with_reducible refine Below.step (by assumption) ?_ ?_))); all_goals (first | omega | (simp; done) | (simp; omega))⟩

set_option maxHeartbeats 4000000 in
set_option maxRecDepth 100000 in
theorem iIdxDep_at (b off n c : Nat) (l : List Dp) (x : Int) (g : Nat) (w : World) (hd : DpAt w b off n l) (hn : n ≤ maxLen) (hg : g < w.heap.size) (hx : w.cell? ⟨g, 0, none⟩ = some (.int .i64 x)) :
    Calls Tryz.prog 185 #[.slice (some ⟨b, off, none⟩) n c, .func (.func 186) #[] #[.pointer (some ⟨g, 0, none⟩)]] w
      fun e w' => e = .returned (.int .i64 (plF l x n 0)) ∧ Below w.heap.size w w' := by
  unfold maxLen at hn
  have HD := Lib.hid hd
  have HX := Lib.hid hx
  have HY := Lib.hid (fun m k h => plF_yes (l := l) (x := x) (m := m) (k := k) h)
  have HNo := Lib.hid (fun m k h => plF_no (l := l) (x := x) (m := m) (k := k) h)
  have HZ : Hid (∀ k, plF l x 0 k = -1) := Lib.hid (fun _ => rfl)
  clear hd hx
  go_enter Tryz.func185, Tryz.ntmps185
  go_wp2
  go_loopw [8] (fun y wr => ∃ k : Nat, k ≤ n ∧ y = .int .i64 k ∧ Hid (plF l x n 0 = plF l x (n - k) k) ∧ Below w.heap.size w wr) (fun y _ => n - (intOf y).toNat)
  case atStart => exact ⟨0, Nat.zero_le _, rfl, Lib.hid rfl, Below.refl _ _⟩
  case round =>
    obtain ⟨k, hk, rfl, HK, hbl⟩ := hrel
    by_cases hlt : k < n
    · have hlt1 : (k : Int) < (n : Int) := by omega
      have ik1 : (0 : Int) ≤ (k : Int) := by omega
      have hd := HD.out.below hbl
      obtain ⟨q0, q1, q2⟩ := hd.2 k hlt
      have hbl2 := hd.1
      have hgx := (hbl.cell (p := ⟨g, 0, none⟩) hg).trans HX.out
      have hgl : g < wr.heap.size := Nat.lt_of_lt_of_le hg hbl.size
      have HY1 := Lib.hid (fun h => HY.out (n - (k + 1)) k h)
      have HN1 := Lib.hid (fun h => HNo.out (n - (k + 1)) k h)
      rw [show n - (k + 1) + 1 = n - k by omega] at HY1 HN1
      clear hd
      generalize dpI l k = D at *
      go_wp2_with fail
      refine (iDepEq_at _ _ _ x g _ hgl hgx).mono ?_
      rintro e w2 ⟨rfl, hb2⟩
      have hbw2 := hbl.trans (hb2.mono hbl.size)
      clear hb2 hbl q0 q1 q2 hgx
      by_cases he : D.k = x
      · have e1 : (D.k == x) = true := beq_iff_eq.2 he
        have HE := Lib.hid (HY1.out he)
        clear he
        go_wp2
        go_ret
        exact ⟨ret_int (by rw [HK.out, HE.out]), hbw2⟩
      · have e1 : (D.k == x) = false := beq_eq_false_iff_ne.2 he
        have HE := Lib.hid (HN1.out he)
        clear he
        go_wp2
        go_roundw
        case rel => exact ⟨k + 1, by omega, by go_num, Lib.hid (by rw [HK.out, HE.out]), hbw2⟩
        case measure => simp [intOf]; omega
    · have hkk : k = n := by omega
      have HE := Lib.hid (HK.out)
      subst hkk
      rw [Nat.sub_self, HZ.out] at HE
      go_wp2
      go_ret
      exact ⟨ret_int HE.out.symm, hbl⟩

theorem iDepAt_at (b off n c : Nat) (l : List Dp) (x r : Int) (w : World) (hd : DpAt w b off n l) (hn : n ≤ maxLen) (hr : plF l x n 0 = r) :
    Calls Tryz.prog 128 #[.slice (some ⟨b, off, none⟩) n c, .int .i64 x] w fun e w' => e = .returned (.int .i64 r) ∧ Below w.heap.size w w' := by
  subst hr
  have hb0 : Below w.heap.size w (w.alloc (.cells #[.int .i64 x] 3)) := by (repeat' (first | (with_reducible exact Below.refl _ _) | (with_reducible assumption) | (with_reducible refine Below.drew ?_) | (with_reducible refine below_drewN ?_ _) | (with_reducible refine Below.alloc ?_ ?_ _) | (with_reducible refine Below.setCell ?_ ?_ _) | (with_reducible refine Below.step (by assumption) ?_ ?_))); all_goals (first | omega | (simp; done) | (simp; omega))
  have hx0 : (w.alloc (.cells #[.int .i64 x] 3)).cell? ⟨w.heap.size, 0, none⟩ = some (.int .i64 x) := (Blk.newAt (w := w) (t := 3) (cs := #[.int .i64 x]) rfl).cell 0
  have HC := Lib.hid (iIdxDep_at b off n c l x w.heap.size _ (hd.below hb0) hn (by simp) hx0)
  clear hd hx0
  go_enter Tryz.func128, Tryz.ntmps128
  go_wp2_with fail
  refine HC.out.mono ?_
  rintro e w2 ⟨rfl, hb2⟩
  have hbw2 := hb0.trans (hb2.mono hb0.size)
  go_wp2
  go_ret
  exact ⟨rfl, hbw2⟩

set_option maxHeartbeats 16000000 in
set_option maxRecDepth 100000 in
theorem iDeps_any (v : Value) (l : List Dp) (w : World) (h : RDp w v l) :
    Calls Tryz.prog 69 #[v] w fun e w' => e = .returned (.bool (depsB l)) ∧ Below w.heap.size w w' := by
  obtain ⟨A, c, rfl, hc, hm, hat⟩ := h.at_
  have hmx := hm
  unfold maxLen at hm
  clear h
  by_cases h40 : l.length ≤ 40
  case neg =>
    have HX := Lib.hid (depsB_long h40)
    have h41 : (40 : Int) < (l.length : Int) := by omega
    go_enter Tryz.func69, Tryz.ntmps69
    go_wp2
    go_ret
    exact ⟨ret_bool HX.out.symm, Below.refl _ _⟩
  have h41 : ¬ (40 : Int) < (l.length : Int) := by omega
  have HBAD := Lib.hid (fun k (hk : k < l.length) h => depsB_bad hk h)
  have HSUC := Lib.hid (fun k (h : depsK l k) h2 => depsK_succ h h2)
  have HEND := Lib.hid (fun (h : depsK l l.length) => depsB_true.2 ⟨h40, h⟩)
  go_enter Tryz.func69, Tryz.ntmps69
  go_wp2
  go_loopw [10] (fun x wr => ∃ k : Nat, k ≤ l.length ∧ x = .int .i64 k ∧ Hid (depsK l k) ∧ Below w.heap.size w wr) (fun x _ => l.length - (intOf x).toNat)
  case atStart => exact ⟨0, Nat.zero_le _, rfl, Lib.hid (depsK_zero l), Below.refl _ _⟩
  case round =>
    obtain ⟨k, hk, rfl, HT, hbl⟩ := hrel
    by_cases hlt : k < l.length
    · obtain ⟨b, off, rfl, hd⟩ := hat (by omega)
      have hd := hd.below hbl
      have HB1 := Lib.hid (HBAD.out k hlt)
      have HS1 := Lib.hid (HSUC.out k HT.out)
      have hlt1 : (k : Int) < (l.length : Int) := by omega
      have ik1 : (0 : Int) ≤ (k : Int) := by omega
      have ikc : (k : Int) ≤ (c : Int) := by omega
      obtain ⟨q0, q1, q2⟩ := hd.2 k hlt
      have hbl2 := hd.1
      have HDP : Hid (depB l k = (inB (dpI l k).k 1 200 && (inB (dpI l k).a 1 50 && (inB (dpI l k).b 0 9999 && ((decide (k = 0) || decide ((dpI l (k - 1)).b ≤ (dpI l k).b)) && noPlace l (dpI l k).k k))))) := Lib.hid rfl
      have HPL := Lib.hid (fun h => plF_neg (l := l) (x := (dpI l k).k) (n := k) h)
      have HPP := Lib.hid (fun h => plF_pos (l := l) (x := (dpI l k).k) (n := k) h)
      have HDA := Lib.hid (hd.take (show k ≤ l.length by omega))
      have HPV := Lib.hid (fun (r : Nat) (h : r < l.length) => hd.2 r h)
      clear hd hat
      generalize (dpI l k).k = dp at *
      generalize (dpI l k).a = dc at *
      generalize (dpI l k).b = dd at *
      go_upto_region 6 with (fail)
      obtain ⟨wq, hwq⟩ : ∃ v, v = wr.alloc (.cells #[.int .i64 dp, .int .i64 dc, .int .i64 dd] 91) := ⟨_, rfl⟩
      have hq : Blk wq wr.heap.size 91 #[.int .i64 dp, .int .i64 dc, .int .i64 dd] := hwq ▸ Blk.newAt rfl
      have hbq : Below wr.heap.size wr wq := hwq ▸ (Below.refl _ _).alloc (Nat.le_refl _) _
      rw [← hwq]
      clear hwq
      have hbw := hbl.trans (hbq.mono hbl.size)
      have HDQ := Lib.hid (HDA.out.below hbq)
      generalize wr.heap.size = B at *
      have hBl := hq.lt
      have hbQ : b < wq.heap.size := HDQ.out.1
      (have y_0 := hq.cell 0); (have y_1 := hq.cell 1); (have y_2 := hq.cell 2); simp only [List.getElem?_toArray, List.getElem?_cons_succ, List.getElem?_cons_zero] at y_0 y_1 y_2
      have HPC := Lib.hid (fun (r : Nat) (h : r < l.length) => (hbq.cell (p := ⟨b, off + r * 3 + 2, none⟩) (Nat.lt_of_lt_of_le hbl2 (Nat.le_refl _))).trans (HPV.out r h).2.2)
      clear q0 q1 q2 hbq hbl
      cases hk1 : inB dp 1 200
      · have HX := Lib.hid (HB1.out (by rw [HDP.out, hk1]; rfl))
        have HK := Lib.hid hk1
        clear hk1
        (refine wp_region_quietG (by kernel_rfl) (by kernel_rfl) (fun hG => ?_))
        repeat (go_big_quiet_step ((go_at_call_of 70 dp; exact quietS (within_at dp _ _ false _ HK.out))))
        refine wpQuiet_nil ?_
        clear hG
        rintro w3 ⟨⟨_, hs3⟩, rfl⟩
        have hbw3 := hbw.trans (hs3.mono hbw.size)
        clear hs3 hbw y_0 y_1 y_2
        go_wp2
        go_ret
        exact ⟨ret_bool HX.out.symm, hbw3⟩
      · have HK := Lib.hid hk1
        cases hk2 : inB dc 1 50
        · have HX := Lib.hid (HB1.out (by rw [HDP.out, hk1, hk2]; rfl))
          have HA := Lib.hid hk2
          clear hk1 hk2
          (refine wp_region_quietG (by kernel_rfl) (by kernel_rfl) (fun hG => ?_))
          repeat (go_big_quiet_step ((first | (go_at_call_of 70 dp; exact quietS (within_at dp _ _ true _ HK.out)) | (go_at_call_of 70 dc; exact quietS (within_at dc _ _ false _ HA.out)))))
          refine wpQuiet_nil ?_
          clear hG
          rintro w3 ⟨⟨_, hs3⟩, rfl⟩
          have hbw3 := hbw.trans (hs3.mono hbw.size)
          clear hs3 hbw y_0 y_1 y_2
          go_wp2
          go_ret
          exact ⟨ret_bool HX.out.symm, hbw3⟩
        · have HA := Lib.hid hk2
          cases hk3 : inB dd 0 9999
          · have HX := Lib.hid (HB1.out (by rw [HDP.out, hk1, hk2, hk3]; rfl))
            have HB := Lib.hid hk3
            clear hk1 hk2 hk3
            (refine wp_region_quietG (by kernel_rfl) (by kernel_rfl) (fun hG => ?_))
            repeat (go_big_quiet_step ((first | (go_at_call_of 70 dp; exact quietS (within_at dp _ _ true _ HK.out)) | (go_at_call_of 70 dc; exact quietS (within_at dc _ _ true _ HA.out)) | (go_at_call_of 70 dd; exact quietS (within_at dd _ _ false _ HB.out)))))
            refine wpQuiet_nil ?_
            clear hG
            rintro w3 ⟨⟨_, hs3⟩, rfl⟩
            have hbw3 := hbw.trans (hs3.mono hbw.size)
            clear hs3 hbw y_0 y_1 y_2
            go_wp2
            go_ret
            exact ⟨ret_bool HX.out.symm, hbw3⟩
          · have HB := Lib.hid hk3
            have HDP2 : Hid (depB l k = ((decide (k = 0) || decide ((dpI l (k - 1)).b ≤ dd)) && noPlace l dp k)) := Lib.hid (by rw [HDP.out, hk1, hk2, hk3]; rfl)
            clear hk1 hk2 hk3 HDP
            by_cases hk0 : 0 < k
            · obtain ⟨r, rfl⟩ : ∃ r, k = r + 1 := ⟨k - 1, by omega⟩
              have hpc := HPC.out r (by omega)
              rw [show r + 1 - 1 = r by omega, decide_eq_false (show ¬ r + 1 = 0 by omega), Bool.false_or] at HDP2
              have hs1 : ((r + 1 : Nat) : Int) - 1 = (r : Int) := by omega
              have hw1 : IntKind.i64.wrap (((r + 1 : Nat) : Int) - 1) = (r : Int) := by rw [hs1]; exact IntWalk.i64_in _ (by omega)
              have ir1 : (0 : Int) ≤ (r : Int) := by omega
              have ir2 : (r : Int) < (l.length : Int) := by omega
              have kp : decide ((0 : Int) < ((r + 1 : Nat) : Int)) = true := decide_eq_true (by omega)
              generalize (dpI l r).b = pv at *
              by_cases hday : dd < pv
              · have HX := Lib.hid (HB1.out (by rw [HDP2.out, decide_eq_false (by omega)]; rfl))
                have hd1 : decide (dd < pv) = true := decide_eq_true hday
                (refine wp_region_quietG (by kernel_rfl) (by kernel_rfl) (fun hG => ?_))
                repeat (go_big_quiet_step ((first | (go_at_call_of 70 dp; exact quietS (within_at dp _ _ true _ HK.out)) | (go_at_call_of 70 dc; exact quietS (within_at dc _ _ true _ HA.out)) | (go_at_call_of 70 dd; exact quietS (within_at dd _ _ true _ HB.out)))))
                refine wpQuiet_nil ?_
                clear hG
                rintro w3 ⟨⟨_, hs3⟩, rfl⟩
                have hbw3 := hbw.trans (hs3.mono hbw.size)
                clear hs3 hbw y_0 y_1 y_2
                clear hpc hw1 hs1 kp hd1
                go_wp2
                go_ret
                exact ⟨ret_bool HX.out.symm, hbw3⟩
              · rw [decide_eq_true (show pv ≤ dd by omega), Bool.true_and] at HDP2
                have hd1 : decide (dd < pv) = false := decide_eq_false hday
                cases hnp : noPlace l dp (r + 1)
                · have HX := Lib.hid (HB1.out (by rw [HDP2.out, hnp]))
                  obtain ⟨i, hi1, hi2, hi3⟩ := HPP.out hnp
                  have HR := Lib.hid hi1
                  have hge : decide ((0 : Int) ≤ (i : Int)) = true := decide_eq_true (by omega)
                  clear hi1 hi3 hnp
                  (refine wp_region_quietG (by kernel_rfl) (by kernel_rfl) (fun hG => ?_))
                  repeat (go_big_quiet_step ((first | (go_at_call_of 70 dp; exact quietS (within_at dp _ _ true _ HK.out)) | (go_at_call_of 70 dc; exact quietS (within_at dc _ _ true _ HA.out)) | (go_at_call_of 70 dd; exact quietS (within_at dd _ _ true _ HB.out)) | (go_at_call 128; exact quietG (iDepAt_at b off (r + 1) c l dp _ _ (HDQ.out.below (Grw.below _)) (by unfold maxLen; omega) HR.out)))))
                  refine wpQuiet_nil ?_
                  clear hG
                  rintro w3 ⟨⟨_, hs3⟩, rfl⟩
                  have hbw3 := hbw.trans (hs3.mono hbw.size)
                  clear hs3 hbw y_0 y_1 y_2
                  clear hpc hw1 hs1 kp hd1 hge
                  go_wp2
                  go_ret
                  exact ⟨ret_bool HX.out.symm, hbw3⟩
                · have HX := Lib.hid (HS1.out (by rw [HDP2.out, hnp]))
                  have HR := Lib.hid (HPL.out hnp)
                  have hge : decide ((0 : Int) ≤ (-1 : Int)) = false := rfl
                  clear hnp
                  (refine wp_region_quietG (by kernel_rfl) (by kernel_rfl) (fun hG => ?_))
                  repeat (go_big_quiet_step ((first | (go_at_call_of 70 dp; exact quietS (within_at dp _ _ true _ HK.out)) | (go_at_call_of 70 dc; exact quietS (within_at dc _ _ true _ HA.out)) | (go_at_call_of 70 dd; exact quietS (within_at dd _ _ true _ HB.out)) | (go_at_call 128; exact quietG (iDepAt_at b off (r + 1) c l dp _ _ (HDQ.out.below (Grw.below _)) (by unfold maxLen; omega) HR.out)))))
                  refine wpQuiet_nil ?_
                  clear hG
                  rintro w3 ⟨⟨_, hs3⟩, rfl⟩
                  have hbw3 := hbw.trans (hs3.mono hbw.size)
                  clear hs3 hbw y_0 y_1 y_2
                  clear hpc hw1 hs1 kp hd1 hge
                  go_wp2
                  go_roundw
                  case rel => exact ⟨r + 1 + 1, by omega, by go_num, HX, hbw3⟩
                  case measure => simp [intOf]; omega
            · have hk00 : k = 0 := by omega
              subst hk00
              rw [decide_eq_true (rfl : (0 : Nat) = 0), Bool.true_or, Bool.true_and] at HDP2
              clear HPC HPV ik1 ikc hk
              cases hnp : noPlace l dp (0)
              · have HX := Lib.hid (HB1.out (by rw [HDP2.out, hnp]))
                obtain ⟨i, hi1, hi2, hi3⟩ := HPP.out hnp
                exact absurd hi2 (by omega)
              · have HX := Lib.hid (HS1.out (by rw [HDP2.out, hnp]))
                have HR := Lib.hid (HPL.out hnp)
                have hge : decide ((0 : Int) ≤ (-1 : Int)) = false := rfl
                clear hnp
                (refine wp_region_quietG (by kernel_rfl) (by kernel_rfl) (fun hG => ?_))
                repeat (go_big_quiet_step ((first | (go_at_call_of 70 dp; exact quietS (within_at dp _ _ true _ HK.out)) | (go_at_call_of 70 dc; exact quietS (within_at dc _ _ true _ HA.out)) | (go_at_call_of 70 dd; exact quietS (within_at dd _ _ true _ HB.out)) | (go_at_call 128; exact quietG (iDepAt_at b off (0) c l dp _ _ (HDQ.out.below (Grw.below _)) (by unfold maxLen; omega) HR.out)))))
                refine wpQuiet_nil ?_
                clear hG
                rintro w3 ⟨⟨_, hs3⟩, rfl⟩
                have hbw3 := hbw.trans (hs3.mono hbw.size)
                clear hs3 hbw y_0 y_1 y_2
                clear hge
                go_wp2
                go_roundw
                case rel => exact ⟨0 + 1, by omega, by go_num, HX, hbw3⟩
                case measure => simp [intOf]; omega
    · have hkk : k = l.length := by omega
      subst hkk
      have HX := Lib.hid (HEND.out HT.out)
      clear hat
      go_wp2
      go_ret
      exact ⟨ret_bool HX.out.symm, hbl⟩

set_option maxHeartbeats 16000000 in
set_option maxRecDepth 100000 in
theorem sDeps_any (v : Value) (l : List Dp) (w : World) (h : RDp w v l) :
    Calls Tryz.prog 60 #[v] w fun e w' => e = .returned (.bool (depsB l)) ∧ Below w.heap.size w w' := by
  obtain ⟨A, c, rfl, hc, hm, hat⟩ := h.at_
  unfold maxLen at hm
  clear h
  obtain ⟨b4, hb4⟩ : ∃ x, decide ((l.length : Int) ≤ 40) = x := ⟨_, rfl⟩
  have HB4 := Lib.hid hb4
  have HBAD := Lib.hid (fun k (hk : k < l.length) h => depsB_bad hk h)
  have HSUC := Lib.hid (fun k (h : depsK l k) h2 => depsK_succ h h2)
  have HEND : Hid (depsK l l.length → depsB l = b4) := Lib.hid (fun h => by
    cases b4
    · have h2 := of_decide_eq_false hb4
      exact depsB_long (by omega)
    · have h2 := of_decide_eq_true hb4
      exact depsB_true.2 ⟨by omega, h⟩)
  clear hb4
  go_enter Tryz.func60, Tryz.ntmps60
  go_wp2
  go_loopw [3] (fun x wr => ∃ k : Nat, k ≤ l.length ∧ x = .int .i64 k ∧ Hid (depsK l k) ∧ Below w.heap.size w wr) (fun x _ => l.length - (intOf x).toNat)
  case atStart => exact ⟨0, Nat.zero_le _, rfl, Lib.hid (depsK_zero l), Below.refl _ _⟩
  case round =>
    obtain ⟨k, hk, rfl, HT, hbl⟩ := hrel
    by_cases hlt : k < l.length
    · obtain ⟨b, off, rfl, hd⟩ := hat (by omega)
      have hd := hd.below hbl
      have HB1 := Lib.hid (HBAD.out k hlt)
      have HS1 := Lib.hid (HSUC.out k HT.out)
      have hlt1 : (k : Int) < (l.length : Int) := by omega
      have ik1 : (0 : Int) ≤ (k : Int) := by omega
      obtain ⟨q0, q1, q2⟩ := hd.2 k hlt
      have hbl2 := hd.1
      have HDP : Hid (depB l k = (inB (dpI l k).k 1 200 && (inB (dpI l k).a 1 50 && (inB (dpI l k).b 0 9999 && ((decide (k = 0) || decide ((dpI l (k - 1)).b ≤ (dpI l k).b)) && noPlace l (dpI l k).k k))))) := Lib.hid rfl
      have HNB := Lib.hid (fun (j : Nat) (h1 : j < k) (h2 : (dpI l j).k = (dpI l k).k) => noPlace_bad (l := l) h1 h2)
      have HNS := Lib.hid (fun (j : Nat) => noPlace_succ l (dpI l k).k j)
      have HN0 := Lib.hid (noPlace_zero l (dpI l k).k)
      have HPV := Lib.hid (fun (r : Nat) (h : r < l.length) => hd.2 r h)
      clear hd
      generalize (dpI l k).k = dp at *
      generalize (dpI l k).a = dc at *
      generalize (dpI l k).b = dd at *
      go_upto_region 5 with (fail)
      obtain ⟨wq, hwq⟩ : ∃ v, v = wr.alloc (.cells #[.int .i64 dp, .int .i64 dc, .int .i64 dd] 91) := ⟨_, rfl⟩
      have hq : Blk wq wr.heap.size 91 #[.int .i64 dp, .int .i64 dc, .int .i64 dd] := hwq ▸ Blk.newAt rfl
      have hbq : Below wr.heap.size wr wq := hwq ▸ (Below.refl _ _).alloc (Nat.le_refl _) _
      rw [← hwq]
      clear hwq
      have hbw := hbl.trans (hbq.mono hbl.size)
      generalize wr.heap.size = B at *
      have hBl := hq.lt
      have hbQ : b < wq.heap.size := by omega
      (have y_0 := hq.cell 0); (have y_1 := hq.cell 1); (have y_2 := hq.cell 2); simp only [List.getElem?_toArray, List.getElem?_cons_succ, List.getElem?_cons_zero] at y_0 y_1 y_2
      have HPC := Lib.hid (fun (r : Nat) (h : r < l.length) => And.intro ((hbq.cell (p := ⟨b, off + r * 3, none⟩) hbl2).trans (HPV.out r h).1) ((hbq.cell (p := ⟨b, off + r * 3 + 2, none⟩) hbl2).trans (HPV.out r h).2.2))
      clear q0 q1 q2 hbq hbl
      cases hk1 : inB dp 1 200
      · have HX := Lib.hid (HB1.out (by rw [HDP.out, hk1]; rfl))
        have HK := Lib.hid hk1
        clear hk1
        (refine wp_region_quietG (by kernel_rfl) (by kernel_rfl) (fun hG => ?_))
        repeat (go_big_quiet_step ((go_at_call_of 61 dp; exact quietS (l01In_at dp _ _ false _ HK.out))))
        refine wpQuiet_nil ?_
        clear hG
        rintro w3 ⟨⟨_, hs3⟩, rfl⟩
        have hbw3 := hbw.trans (hs3.mono hbw.size)
        clear hs3 hbw y_0 y_1 y_2
        go_wp2
        go_ret
        exact ⟨ret_bool HX.out.symm, hbw3⟩
      · have HK := Lib.hid hk1
        cases hk2 : inB dc 1 50
        · have HX := Lib.hid (HB1.out (by rw [HDP.out, hk1, hk2]; rfl))
          have HA := Lib.hid hk2
          clear hk1 hk2
          (refine wp_region_quietG (by kernel_rfl) (by kernel_rfl) (fun hG => ?_))
          repeat (go_big_quiet_step ((first | (go_at_call_of 61 dp; exact quietS (l01In_at dp _ _ true _ HK.out)) | (go_at_call_of 61 dc; exact quietS (l01In_at dc _ _ false _ HA.out)))))
          refine wpQuiet_nil ?_
          clear hG
          rintro w3 ⟨⟨_, hs3⟩, rfl⟩
          have hbw3 := hbw.trans (hs3.mono hbw.size)
          clear hs3 hbw y_0 y_1 y_2
          go_wp2
          go_ret
          exact ⟨ret_bool HX.out.symm, hbw3⟩
        · have HA := Lib.hid hk2
          cases hk3 : inB dd 0 9999
          · have HX := Lib.hid (HB1.out (by rw [HDP.out, hk1, hk2, hk3]; rfl))
            have HB := Lib.hid hk3
            clear hk1 hk2 hk3
            (refine wp_region_quietG (by kernel_rfl) (by kernel_rfl) (fun hG => ?_))
            repeat (go_big_quiet_step ((first | (go_at_call_of 61 dp; exact quietS (l01In_at dp _ _ true _ HK.out)) | (go_at_call_of 61 dc; exact quietS (l01In_at dc _ _ true _ HA.out)) | (go_at_call_of 61 dd; exact quietS (l01In_at dd _ _ false _ HB.out)))))
            refine wpQuiet_nil ?_
            clear hG
            rintro w3 ⟨⟨_, hs3⟩, rfl⟩
            have hbw3 := hbw.trans (hs3.mono hbw.size)
            clear hs3 hbw y_0 y_1 y_2
            go_wp2
            go_ret
            exact ⟨ret_bool HX.out.symm, hbw3⟩
          · have HB := Lib.hid hk3
            have HDP2 : Hid (depB l k = ((decide (k = 0) || decide ((dpI l (k - 1)).b ≤ dd)) && noPlace l dp k)) := Lib.hid (by rw [HDP.out, hk1, hk2, hk3]; rfl)
            clear hk1 hk2 hk3 HDP
            by_cases hk0 : 0 < k
            · obtain ⟨r, rfl⟩ : ∃ r, k = r + 1 := ⟨k - 1, by omega⟩
              have hpc := (HPC.out r (by omega)).2
              rw [show r + 1 - 1 = r by omega, decide_eq_false (show ¬ r + 1 = 0 by omega), Bool.false_or] at HDP2
              have hs1 : ((r + 1 : Nat) : Int) - 1 = (r : Int) := by omega
              have hw1 : IntKind.i64.wrap (((r + 1 : Nat) : Int) - 1) = (r : Int) := by rw [hs1]; exact IntWalk.i64_in _ (by omega)
              have ir1 : (0 : Int) ≤ (r : Int) := by omega
              have ir2 : (r : Int) < (l.length : Int) := by omega
              have kp : decide ((0 : Int) < ((r + 1 : Nat) : Int)) = true := decide_eq_true (by omega)
              generalize (dpI l r).b = pv at *
              by_cases hday : dd < pv
              · have HX := Lib.hid (HB1.out (by rw [HDP2.out, decide_eq_false (by omega)]; rfl))
                have hd1 : decide (dd < pv) = true := decide_eq_true hday
                (refine wp_region_quietG (by kernel_rfl) (by kernel_rfl) (fun hG => ?_))
                repeat (go_big_quiet_step ((first | (go_at_call_of 61 dp; exact quietS (l01In_at dp _ _ true _ HK.out)) | (go_at_call_of 61 dc; exact quietS (l01In_at dc _ _ true _ HA.out)) | (go_at_call_of 61 dd; exact quietS (l01In_at dd _ _ true _ HB.out)))))
                refine wpQuiet_nil ?_
                clear hG
                rintro w3 ⟨⟨_, hs3⟩, rfl⟩
                have hbw3 := hbw.trans (hs3.mono hbw.size)
                clear hs3 hbw y_0 y_1 y_2 hpc hw1 hs1 kp hd1
                go_wp2
                go_ret
                exact ⟨ret_bool HX.out.symm, hbw3⟩
              · rw [decide_eq_true (show pv ≤ dd by omega), Bool.true_and] at HDP2
                have hd1 : decide (dd < pv) = false := decide_eq_false hday
                (refine wp_region_quietG (by kernel_rfl) (by kernel_rfl) (fun hG => ?_))
                repeat (go_big_quiet_step ((first | (go_at_call_of 61 dp; exact quietS (l01In_at dp _ _ true _ HK.out)) | (go_at_call_of 61 dc; exact quietS (l01In_at dc _ _ true _ HA.out)) | (go_at_call_of 61 dd; exact quietS (l01In_at dd _ _ true _ HB.out)))))
                refine wpQuiet_nil ?_
                clear hG
                rintro w3 ⟨⟨_, hs3⟩, rfl⟩
                have hbw3 := hbw.trans (hs3.mono hbw.size)
                have hq3 := hq.below (hs3.mono (Nat.le_refl _)) hBl
                have HPC3 := Lib.hid (fun (r : Nat) (h : r < l.length) => (hs3.cell (p := ⟨b, off + r * 3, none⟩) hbQ).trans (HPC.out r h).1)
                have hbQ3 := Nat.lt_of_lt_of_le hbQ hs3.size
                clear hs3 hbw y_0 y_1 y_2 hq HPC HPV
                clear hpc hw1 hs1 kp hd1
                have HK1 := Lib.hid (HT)
                (have y_0 := hq3.cell 0); (have y_1 := hq3.cell 1); (have y_2 := hq3.cell 2); simp only [List.getElem?_toArray, List.getElem?_cons_succ, List.getElem?_cons_zero] at y_0 y_1 y_2
                have hB3 := hq3.lt
                go_wp2
                go_loopw [5] (fun x wr => ∃ j : Nat, j ≤ (r + 1) ∧ x = .int .i64 j ∧ Hid (noPlace l dp j = true) ∧ Below w3.heap.size w3 wr) (fun x _ => (r + 1) - (intOf x).toNat)
                case atStart => exact ⟨0, Nat.zero_le _, rfl, HN0, Below.refl _ _⟩
                case round =>
                  obtain ⟨j, hj, rfl, HJ, hbj⟩ := hrel
                  by_cases hjk : j < (r + 1)
                  · have hjk1 : (j : Int) < (((r + 1) : Nat) : Int) := by omega
                    have ij1 : (0 : Int) ≤ (j : Int) := by omega
                    have ij2 : (j : Int) < (l.length : Int) := by omega
                    have hcj := (hbj.cell (p := ⟨b, off + j * 3, none⟩) hbQ3).trans (HPC3.out j (by omega))
                    have hq4 := hq3.below hbj hB3
                    have hb4 := Nat.lt_of_lt_of_le hbQ3 hbj.size
                    have hB4 := hq4.lt
                    clear y_0 y_1 y_2
                    (have y_0 := hq4.cell 0); (have y_1 := hq4.cell 1); (have y_2 := hq4.cell 2); simp only [List.getElem?_toArray, List.getElem?_cons_succ, List.getElem?_cons_zero] at y_0 y_1 y_2
                    have HNB1 := Lib.hid (fun h => HNB.out j hjk h)
                    have HNS1 := Lib.hid (HNS.out j)
                    generalize (dpI l j).k = pj at *
                    by_cases he : pj = dp
                    · have e1 : (pj == dp) = true := beq_iff_eq.2 he
                      have HX := Lib.hid (HB1.out (by rw [HDP2.out]; exact HNB1.out he))
                      clear he
                      go_wp2_with fail
                      (refine wp_region_quietG (by kernel_rfl) (by kernel_rfl) (fun hG => ?_))
                      repeat (go_big_quiet_step (fail))
                      refine wpQuiet_nil ?_
                      clear hG
                      rintro w5 ⟨⟨_, hs5⟩, rfl⟩
                      have hbj5 := hbj.trans (hs5.mono hbj.size)
                      clear hs5 hbj hcj y_0 y_1 y_2
                      go_wp2
                      go_ret
                      exact ⟨ret_bool HX.out.symm, hbw3.trans (hbj5.mono hbw3.size)⟩
                    · have e1 : (pj == dp) = false := beq_eq_false_iff_ne.2 he
                      have HX := Lib.hid (HNS1.out.trans (by rw [HJ.out, decide_eq_true he] <;> rfl))
                      clear he
                      go_wp2_with fail
                      (refine wp_region_quietG (by kernel_rfl) (by kernel_rfl) (fun hG => ?_))
                      repeat (go_big_quiet_step (fail))
                      refine wpQuiet_nil ?_
                      clear hG
                      rintro w5 ⟨⟨_, hs5⟩, rfl⟩
                      have hbj5 := hbj.trans (hs5.mono hbj.size)
                      clear hs5 hbj hcj y_0 y_1 y_2
                      go_wp2
                      go_roundw
                      case rel => exact ⟨j + 1, by omega, by go_num, HX, hbj5⟩
                      case measure => simp [intOf]; omega
                  · have hjj : j = (r + 1) := by omega
                    subst hjj
                    have HX := Lib.hid (HS1.out (by rw [HDP2.out]; exact HJ.out))
                    have hbw5 := hbw3.trans (hbj.mono hbw3.size)
                    clear y_0 y_1 y_2
                    go_wp2
                    go_roundw
                    case rel => exact ⟨(r + 1) + 1, by omega, by go_num, HX, hbw5⟩
                    case measure => simp [intOf]; omega
            · have hk00 : k = 0 := by omega
              subst hk00
              rw [decide_eq_true (rfl : (0 : Nat) = 0), Bool.true_or, Bool.true_and] at HDP2
              clear ik1 hk
              (refine wp_region_quietG (by kernel_rfl) (by kernel_rfl) (fun hG => ?_))
              repeat (go_big_quiet_step ((first | (go_at_call_of 61 dp; exact quietS (l01In_at dp _ _ true _ HK.out)) | (go_at_call_of 61 dc; exact quietS (l01In_at dc _ _ true _ HA.out)) | (go_at_call_of 61 dd; exact quietS (l01In_at dd _ _ true _ HB.out)))))
              refine wpQuiet_nil ?_
              clear hG
              rintro w3 ⟨⟨_, hs3⟩, rfl⟩
              have hbw3 := hbw.trans (hs3.mono hbw.size)
              have hq3 := hq.below (hs3.mono (Nat.le_refl _)) hBl
              have HPC3 := Lib.hid (fun (r : Nat) (h : r < l.length) => (hs3.cell (p := ⟨b, off + r * 3, none⟩) hbQ).trans (HPC.out r h).1)
              have hbQ3 := Nat.lt_of_lt_of_le hbQ hs3.size
              clear hs3 hbw y_0 y_1 y_2 hq HPC HPV
              skip
              have HK1 := Lib.hid (HT)
              (have y_0 := hq3.cell 0); (have y_1 := hq3.cell 1); (have y_2 := hq3.cell 2); simp only [List.getElem?_toArray, List.getElem?_cons_succ, List.getElem?_cons_zero] at y_0 y_1 y_2
              have hB3 := hq3.lt
              go_wp2
              go_loopw [5] (fun x wr => ∃ j : Nat, j ≤ 0 ∧ x = .int .i64 j ∧ Hid (noPlace l dp j = true) ∧ Below w3.heap.size w3 wr) (fun x _ => 0 - (intOf x).toNat)
              case atStart => exact ⟨0, Nat.zero_le _, rfl, HN0, Below.refl _ _⟩
              case round =>
                obtain ⟨j, hj, rfl, HJ, hbj⟩ := hrel
                by_cases hjk : j < 0
                · exact absurd hjk (by omega)
                · have hjj : j = 0 := by omega
                  subst hjj
                  have HX := Lib.hid (HS1.out (by rw [HDP2.out]; exact HJ.out))
                  have hbw5 := hbw3.trans (hbj.mono hbw3.size)
                  clear y_0 y_1 y_2
                  go_wp2
                  go_roundw
                  case rel => exact ⟨0 + 1, by omega, by go_num, HX, hbw5⟩
                  case measure => simp [intOf]; omega
    · have hkk : k = l.length := by omega
      subst hkk
      have HX := Lib.hid (HEND.out HT.out)
      have HB5 := HB4.out
      clear hat
      cases b4
      · go_wp2
        go_ret
        exact ⟨ret_bool HX.out.symm, hbl⟩
      · go_wp2
        go_ret
        exact ⟨ret_bool HX.out.symm, hbl⟩

end Go.Proofs.YtoknmjpnelbplaaGreat
