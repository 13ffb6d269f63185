/-
  FnExactCheaperTariff: the program's CheaperTariff returns what the reference's returns, for all arguments. No condition.
-/
import Derived.Test.YtognjdappchpkaaGreatBPk0
import Derived.Test.YtognjdappchpkaaGreatWin
import Derived.Test.YtognjdappchpkaaGreatDeg
import Derived.Deep.RegionHeld3
import Derived.Test.YtognjdappchpkaaGreatSmall
import Derived.Deep.RegionWith
import Derived.Test.YtognjdappchpkaaGreatOpenW
import Derived.Test.YtognjdappchpkaaGreatOpenB
import Derived.Test.YtognjdappchpkaaGreatLaw
set_option linter.unusedSimpArgs false
set_option linter.unusedVariables false
namespace Go.Proofs.YtognjdappchpkaaGreat
open Go.RowKit

theorem lenK_succ (ns ls : List Pr) (k : Nat) : lenK ns ls (k + 1) = lenK ns ls k + rootN (sqP (ndI ns (ndI ls k).1) (ndI ns (ndI ls k).2)).toNat := rfl

/-- What the square of lead k is. -/
theorem lead_sq {ns ls : List Pr} {k : Nat} (h : leadB ns (ndI ls k) = true) : ∃ (p q m : Nat), (ndI ls k).1 = p ∧ (ndI ls k).2 = q ∧ p < ns.length ∧ q < ns.length ∧ nodeB (ndI ns p).1 (ndI ns p).2 = true ∧ nodeB (ndI ns q).1 (ndI ns q).2 = true ∧ sqP (ndI ns p) (ndI ns q) = (m : Int) ∧ m ≤ 800 ∧
    lenK ns ls (k + 1) = lenK ns ls k + rootN m := by
  obtain ⟨h1, h2, h3, h4, h5, _⟩ := leadB_iff.1 h
  obtain ⟨p, hp⟩ : ∃ p : Nat, (ndI ls k).1 = p := ⟨(ndI ls k).1.toNat, by omega⟩
  obtain ⟨q, hq⟩ : ∃ q : Nat, (ndI ls k).2 = q := ⟨(ndI ls k).2.toNat, by omega⟩
  rw [hp] at h4 h1 h2
  rw [hq] at h5 h2 h3
  obtain ⟨m, h6, h7⟩ := sqP_bd _ _ h4 h5
  refine ⟨p, q, m, hp, hq, by omega, by omega, h4, h5, h6, h7, ?_⟩
  rw [lenK_succ, hp, hq, h6, Int.toNat_natCast]

set_option maxHeartbeats 8000000 in
set_option maxRecDepth 100000 in
theorem sLen_any (vn vl : Value) (ns ls : List Pr) (w : World) (hn : RP w vn ns) (hl : RP w vl ls) :
    Calls Tryz.prog 22 #[.agg #[vn, vl]] w fun e w' => e = .returned (.int .i64 (lenW ns ls)) ∧ Below w.heap.size w w' := by
  obtain ⟨An, cn, rfl, hcn, hmn, hcelln⟩ := hn.formI
  obtain ⟨Al, cl, rfl, hcl, hml, hcelll⟩ := hl.formI
  unfold maxLen at hmn hml
  have hb0 : Below w.heap.size w (w.alloc (.cells #[.slice An ns.length cn, .slice Al ls.length cl] 34)) := by (repeat' (first | (with_reducible exact Below.refl _ _) | (with_reducible assumption) | (with_reducible refine Below.drew ?_) | (with_reducible refine below_drewN ?_ _) | (with_reducible refine Below.alloc ?_ ?_ _) | (with_reducible refine Below.setCell ?_ ?_ _) | (with_reducible refine Below.step (by assumption) ?_ ?_))); all_goals (first | omega | (simp; done) | (simp; omega))
  have hW0 : Blk (w.alloc (.cells #[.slice An ns.length cn, .slice Al ls.length cl] 34)) w.heap.size 34 #[.slice An ns.length cn, .slice Al ls.length cl] := Blk.newAt rfl
  cases hw : winB ns ls
  · have HR : Hid (lenW ns ls = -1) := Lib.hid (by simp [lenW, hw])
    go_enter Tryz.func22, Tryz.ntmps22
    go_wp2_with fail
    refine (sWinOk_at _ _ ns ls _ _ (hn.below hb0) (hl.below hb0) hw).mono ?_
    rintro e w1 ⟨rfl, hb1⟩; (first | (with_reducible have hcf1 := bcell_drew hb1) | have hcf1 := bcell hb1); obtain ⟨hc1, hf1⟩ := hcf1; have hz1 := hb1.size; (try simp at hz1); (try have hp1_0 : w.heap.size < w1.heap.size := by omega); (try have hp1_1 : w.heap.size + 1 < w1.heap.size := by omega); (try have hp1_2 : w.heap.size + 1 + 1 < w1.heap.size := by omega); (try have hp1_3 : w.heap.size + 1 + 1 + 1 < w1.heap.size := by omega)
    go_wp2
    go_ret
    exact ⟨ret_int HR.out.symm, by (repeat' (first | (with_reducible exact Below.refl _ _) | (with_reducible assumption) | (with_reducible refine Below.drew ?_) | (with_reducible refine below_drewN ?_ _) | (with_reducible refine Below.alloc ?_ ?_ _) | (with_reducible refine Below.setCell ?_ ?_ _) | (with_reducible refine Below.step (by assumption) ?_ ?_))); all_goals (first | omega | (simp; done) | (simp; omega))⟩
  · have hwin := winB_true.1 hw
    have hm20 := hwin.2.2.1
    have hld : ∀ j : Nat, j < ls.length → leadB ns (ndI ls j) = true := fun j hj => (hwin.2.2.2.2.2 j hj).1
    have HR : Hid (lenW ns ls = (lenK ns ls ls.length : Int)) := Lib.hid (by simp [lenW, hw])
    have HBD := Lib.hid (fun k hk => lenK_bd (ns := ns) hld k hk)
    have HLD := Lib.hid hld
    have HC := Lib.hid (fun (v : World) (h1 : Below w.heap.size w v) => sWinOk_at _ _ ns ls _ v (hn.below h1) (hl.below h1) hw)
    obtain ⟨bn, offn, rfl, hbn, hcc⟩ := hcelln (by have := hwin.1; omega)
    have HCC := Lib.hid hcc
    have HCL := Lib.hid hcelll
    clear hwin hld hw hcc hcelln hcelll
    go_enter Tryz.func22, Tryz.ntmps22
    go_wp2_with fail
    refine (HC.out _ hb0).mono ?_
    rintro e w1 ⟨rfl, hb1⟩
    have hbw1 := hb0.trans (hb1.mono hb0.size)
    have hW1 := hW0.below hb1 hW0.lt
    clear hb1 hb0 hW0
    go_wp2
    go_loopw [3, 4] (fun n x wr => ∃ k : Nat, k ≤ ls.length ∧ x = .int .i64 k ∧ n = .int .i64 (lenK ns ls k) ∧ Blk wr w.heap.size 34 #[.slice (some ⟨bn, offn, none⟩) ns.length cn, .slice Al ls.length cl] ∧ Below w.heap.size w wr) (fun _ x _ => ls.length - (intOf x).toNat)
    case atStart => exact ⟨0, Nat.zero_le _, rfl, rfl, hW1, hbw1⟩
    case round =>
      clear hW1 hbw1
      obtain ⟨k, hk, rfl, rfl, hW, hbl⟩ := hrel
      have hsz := hW.lt
      (have a_0 := hW.cell 0); (have a_1 := hW.cell 1); simp only [List.getElem?_toArray, List.getElem?_cons_succ, List.getElem?_cons_zero] at a_0 a_1
      by_cases hlt : k < ls.length
      · have hlt1 : (k : Int) < (ls.length : Int) := by omega
        have ik1 : (0 : Int) ≤ (k : Int) := by omega
        obtain ⟨b4, off4, rfl, hb4, hcl4⟩ := HCL.out (by omega)
        obtain ⟨k0, k1⟩ := hcl4 k hlt
        obtain ⟨p, q, m, hp, hq, hpn, hqn, hvp, hvq, hsq, hm8, hS⟩ := lead_sq (HLD.out k hlt)
        rw [hp] at k0
        rw [hq] at k1
        have q0 := (hbl.cell (p := ⟨b4, off4 + k * 2, none⟩) hb4).trans k0
        have q1 := (hbl.cell (p := ⟨b4, off4 + k * 2 + 1, none⟩) hb4).trans k1
        obtain ⟨p0, p1⟩ := HCC.out p hpn
        obtain ⟨r0, r1⟩ := HCC.out q hqn
        have c0 := (hbl.cell (p := ⟨bn, offn + p * 2, none⟩) hbn).trans p0
        have c1 := (hbl.cell (p := ⟨bn, offn + p * 2 + 1, none⟩) hbn).trans p1
        have c2 := (hbl.cell (p := ⟨bn, offn + q * 2, none⟩) hbn).trans r0
        have c3 := (hbl.cell (p := ⟨bn, offn + q * 2 + 1, none⟩) hbn).trans r1
        have ip1 : (0 : Int) ≤ (p : Int) := by omega
        have ip2 : (p : Int) < (ns.length : Int) := by omega
        have iq1 : (0 : Int) ≤ (q : Int) := by omega
        have iq2 : (q : Int) < (ns.length : Int) := by omega
        have hbn2 : bn < wr.heap.size := Nat.lt_of_lt_of_le hbn hbl.size
        have hb42 : b4 < wr.heap.size := Nat.lt_of_lt_of_le hb4 hbl.size
        have hr := rootN_le m
        have hbd := HBD.out k hk
        have HS := Lib.hid hS
        have HSQ := Lib.hid (fun (v : World) => by
          have := sSquare_any (ndI ns p).1 (ndI ns p).2 (ndI ns q).1 (ndI ns q).2 v hvp hvq
          rw [show sqP ((ndI ns p).1, (ndI ns p).2) ((ndI ns q).1, (ndI ns q).2) = sqP (ndI ns p) (ndI ns q) from rfl, hsq] at this
          exact this)
        have HRT := Lib.hid (fun (v : World) => sRoot_any m v hm8)
        generalize rootN m = R at *
        generalize hLK : lenK ns ls k = LK at *
        have HLK := Lib.hid hLK
        clear hcl4 k0 k1 p0 p1 r0 r1 hp hq hS hsq hvp hvq hLK
        go_wp2_with fail
        (refine wp_region_quietG (by kernel_rfl) (by kernel_rfl) (fun hG => ?_))
        repeat (go_big_quiet_step (first | (go_at_call 58; exact quietG (HSQ.out _)) | (go_at_call 57; exact quietS (HRT.out _))))
        refine wpQuiet_nil ?_
        clear hG
        rintro w3 ⟨⟨_, hb3⟩, rfl⟩
        have hW3 := Lib.hid (hW.below hb3 hsz)
        have hbl3 := Lib.hid (hbl.trans (hb3.mono hbl.size))
        clear hW hbl hb3 a_0 a_1 q0 q1 c0 c1 c2 c3
        go_wp2
        go_roundw
        case rel => exact ⟨k + 1, by omega, by go_num, by rw [HS.out]; go_num, hW3.out, hbl3.out⟩
        case measure => simp [intOf]; omega
      · have hkk : k = ls.length := by omega
        subst hkk
        go_wp2
        go_ret
        exact ⟨ret_int HR.out.symm, hbl⟩

set_option maxHeartbeats 8000000 in
set_option maxRecDepth 100000 in
theorem iLen_any (vn vl : Value) (ns ls : List Pr) (w : World) (hn : RP w vn ns) (hl : RP w vl ls) :
    Calls Tryz.prog 46 #[.agg #[vn, vl]] w fun e w' => e = .returned (.int .i64 (lenW ns ls)) ∧ Below w.heap.size w w' := by
  obtain ⟨An, cn, rfl, hcn, hmn, hcelln⟩ := hn.formI
  obtain ⟨Al, cl, rfl, hcl, hml, hcelll⟩ := hl.formI
  unfold maxLen at hmn hml
  have hb0 : Below w.heap.size w (w.alloc (.cells #[.slice An ns.length cn, .slice Al ls.length cl] 34)) := by (repeat' (first | (with_reducible exact Below.refl _ _) | (with_reducible assumption) | (with_reducible refine Below.drew ?_) | (with_reducible refine below_drewN ?_ _) | (with_reducible refine Below.alloc ?_ ?_ _) | (with_reducible refine Below.setCell ?_ ?_ _) | (with_reducible refine Below.step (by assumption) ?_ ?_))); all_goals (first | omega | (simp; done) | (simp; omega))
  have hW0 : Blk (w.alloc (.cells #[.slice An ns.length cn, .slice Al ls.length cl] 34)) w.heap.size 34 #[.slice An ns.length cn, .slice Al ls.length cl] := Blk.newAt rfl
  cases hw : winB ns ls
  · have HR : Hid (lenW ns ls = -1) := Lib.hid (by simp [lenW, hw])
    go_enter Tryz.func46, Tryz.ntmps46
    go_wp2_with fail
    refine (iWinOk_at _ _ ns ls _ _ (hn.below hb0) (hl.below hb0) hw).mono ?_
    rintro e w1 ⟨rfl, hb1⟩; (first | (with_reducible have hcf1 := bcell_drew hb1) | have hcf1 := bcell hb1); obtain ⟨hc1, hf1⟩ := hcf1; have hz1 := hb1.size; (try simp at hz1); (try have hp1_0 : w.heap.size < w1.heap.size := by omega); (try have hp1_1 : w.heap.size + 1 < w1.heap.size := by omega); (try have hp1_2 : w.heap.size + 1 + 1 < w1.heap.size := by omega); (try have hp1_3 : w.heap.size + 1 + 1 + 1 < w1.heap.size := by omega)
    go_wp2
    go_ret
    exact ⟨ret_int HR.out.symm, by (repeat' (first | (with_reducible exact Below.refl _ _) | (with_reducible assumption) | (with_reducible refine Below.drew ?_) | (with_reducible refine below_drewN ?_ _) | (with_reducible refine Below.alloc ?_ ?_ _) | (with_reducible refine Below.setCell ?_ ?_ _) | (with_reducible refine Below.step (by assumption) ?_ ?_))); all_goals (first | omega | (simp; done) | (simp; omega))⟩
  · have hwin := winB_true.1 hw
    have hm20 := hwin.2.2.1
    have hld : ∀ j : Nat, j < ls.length → leadB ns (ndI ls j) = true := fun j hj => (hwin.2.2.2.2.2 j hj).1
    have HR : Hid (lenW ns ls = (lenK ns ls ls.length : Int)) := Lib.hid (by simp [lenW, hw])
    have HBD := Lib.hid (fun k hk => lenK_bd (ns := ns) hld k hk)
    have HLD := Lib.hid hld
    have HC := Lib.hid (fun (v : World) (h1 : Below w.heap.size w v) => iWinOk_at _ _ ns ls _ v (hn.below h1) (hl.below h1) hw)
    obtain ⟨bn, offn, rfl, hbn, hcc⟩ := hcelln (by have := hwin.1; omega)
    have HCC := Lib.hid hcc
    have HCL := Lib.hid hcelll
    clear hwin hld hw hcc hcelln hcelll
    go_enter Tryz.func46, Tryz.ntmps46
    go_wp2_with fail
    refine (HC.out _ hb0).mono ?_
    rintro e w1 ⟨rfl, hb1⟩
    have hbw1 := hb0.trans (hb1.mono hb0.size)
    have hW1 := hW0.below hb1 hW0.lt
    clear hb1 hb0 hW0
    (have a_0 := hW1.cell 0); (have a_1 := hW1.cell 1); simp only [List.getElem?_toArray, List.getElem?_cons_succ, List.getElem?_cons_zero] at a_0 a_1
    go_wp2
    go_loopw [3, 14] (fun n x wr => ∃ k : Nat, k ≤ ls.length ∧ x = .int .i64 k ∧ n = .int .i64 (lenK ns ls k) ∧ Blk wr w.heap.size 34 #[.slice (some ⟨bn, offn, none⟩) ns.length cn, .slice Al ls.length cl] ∧ Below w.heap.size w wr) (fun _ x _ => ls.length - (intOf x).toNat)
    case atStart => exact ⟨0, Nat.zero_le _, rfl, rfl, hW1, hbw1⟩
    case round =>
      clear hW1 hbw1 a_0 a_1
      obtain ⟨k, hk, rfl, rfl, hW, hbl⟩ := hrel
      have hsz := hW.lt
      (have a_0 := hW.cell 0); (have a_1 := hW.cell 1); simp only [List.getElem?_toArray, List.getElem?_cons_succ, List.getElem?_cons_zero] at a_0 a_1
      by_cases hlt : k < ls.length
      · have hlt1 : (k : Int) < (ls.length : Int) := by omega
        have ik1 : (0 : Int) ≤ (k : Int) := by omega
        obtain ⟨b4, off4, rfl, hb4, hcl4⟩ := HCL.out (by omega)
        obtain ⟨k0, k1⟩ := hcl4 k hlt
        obtain ⟨p, q, m, hp, hq, hpn, hqn, hvp, hvq, hsq, hm8, hS⟩ := lead_sq (HLD.out k hlt)
        rw [hp] at k0
        rw [hq] at k1
        have q0 := (hbl.cell (p := ⟨b4, off4 + k * 2, none⟩) hb4).trans k0
        have q1 := (hbl.cell (p := ⟨b4, off4 + k * 2 + 1, none⟩) hb4).trans k1
        obtain ⟨p0, p1⟩ := HCC.out p hpn
        obtain ⟨r0, r1⟩ := HCC.out q hqn
        have ip1 : (0 : Int) ≤ (p : Int) := by omega
        have ip2 : (p : Int) < (ns.length : Int) := by omega
        have iq1 : (0 : Int) ≤ (q : Int) := by omega
        have iq2 : (q : Int) < (ns.length : Int) := by omega
        have hbn2 : bn < wr.heap.size + 1 := by have := hbl.size; omega
        have hs2 : w.heap.size < wr.heap.size + 1 := by omega
        have hr := rootN_le m
        have hrs := rootN_spec m
        have hbd := HBD.out k hk
        have HS := Lib.hid hS
        have HSQ := Lib.hid (fun (v : World) => by
          have := iSquare_any (ndI ns p).1 (ndI ns p).2 (ndI ns q).1 (ndI ns q).2 v hvp hvq
          rw [show sqP ((ndI ns p).1, (ndI ns p).2) ((ndI ns q).1, (ndI ns q).2) = sqP (ndI ns p) (ndI ns q) from rfl, hsq] at this
          exact this)
        have HE := Lib.hid (fun j h1 h2 => rootN_eq (n := m) (k := j) h1 h2)
        generalize rootN m = R at *
        generalize hLK : lenK ns ls k = LK at *
        have HLK := Lib.hid hLK
        have hWA : Blk (wr.alloc (.cells #[.int .i64 p, .int .i64 q] 80)) w.heap.size 34 #[.slice (some ⟨bn, offn, none⟩) ns.length cn, .slice (some ⟨b4, off4, none⟩) ls.length cl] := hW.alloc _
        have hLA : Blk (wr.alloc (.cells #[.int .i64 p, .int .i64 q] 80)) wr.heap.size 80 #[.int .i64 p, .int .i64 q] := Blk.newAt rfl
        have hbA : Below w.heap.size w (wr.alloc (.cells #[.int .i64 p, .int .i64 q] 80)) := hbl.alloc hbl.size _
        have c0 := (hbA.cell (p := ⟨bn, offn + p * 2, none⟩) hbn).trans p0
        have c1 := (hbA.cell (p := ⟨bn, offn + p * 2 + 1, none⟩) hbn).trans p1
        have c2 := (hbA.cell (p := ⟨bn, offn + q * 2, none⟩) hbn).trans r0
        have c3 := (hbA.cell (p := ⟨bn, offn + q * 2 + 1, none⟩) hbn).trans r1
        clear hcl4 k0 k1 p0 p1 r0 r1 hp hq hS hsq hvp hvq hLK
        go_wp2_with fail
        clear a_0 a_1 hW hbl
        (have a_0 := hWA.cell 0); (have a_1 := hWA.cell 1); simp only [List.getElem?_toArray, List.getElem?_cons_succ, List.getElem?_cons_zero] at a_0 a_1
        (have d_0 := hLA.cell 0); (have d_1 := hLA.cell 1); simp only [List.getElem?_toArray, List.getElem?_cons_succ, List.getElem?_cons_zero] at d_0 d_1
        have z1 := hWA.lt
        have z2 := hLA.lt
        have z3 : bn < (wr.alloc (.cells #[.int .i64 p, .int .i64 q] 80)).heap.size := Nat.lt_of_lt_of_le hbn hbA.size
        generalize hwA : wr.alloc (.cells #[.int .i64 p, .int .i64 q] 80) = wA at *
        clear hwA
        (refine wp_region_quietG (by kernel_rfl) (by kernel_rfl) (fun hG => ?_))
        repeat (go_big_quiet_step ((go_at_call 73; exact quietG (HSQ.out _))))
        refine wpQuiet_nil ?_
        clear hG
        rintro w3 ⟨⟨_, hb3⟩, rfl⟩
        have hW3 := hWA.below hb3 z1
        have hbl3 := hbA.trans (hb3.mono hbA.size)
        clear hWA hbA hb3 hLA a_0 a_1 d_0 d_1 q0 q1 c0 c1 c2 c3 z1 z2 z3
        go_wp2
        go_loopw [7] (fun x wr2 => ∃ j : Nat, j ≤ 28 ∧ x = .int .i64 j ∧ Hid (j * j ≤ m) ∧ Blk wr2 w.heap.size 34 #[.slice (some ⟨bn, offn, none⟩) ns.length cn, .slice (some ⟨b4, off4, none⟩) ls.length cl] ∧ Below w.heap.size w wr2) (fun x _ => 29 - (intOf x).toNat)
        case atStart => exact ⟨0, by omega, rfl, Lib.hid (by omega), hW3, hbl3⟩
        case round =>
          clear hW3 hbl3
          obtain ⟨j, hj, rfl, HJ, hW, hbl⟩ := hrel
          have e1 : ((j : Int) + 1) * ((j : Int) + 1) = (((j + 1) * (j + 1) : Nat) : Int) := by simp
          have hb : (j + 1) * (j + 1) ≤ 29 * 29 := Nat.mul_le_mul (by omega) (by omega)
          by_cases hc : (j + 1) * (j + 1) ≤ m
          · have hc1 : ((j : Int) + 1) * ((j : Int) + 1) ≤ (m : Int) := by rw [e1]; omega
            have hc0 : -9000000000000000000 ≤ ((j : Int) + 1) * ((j : Int) + 1) := by rw [e1]; omega
            have hc2 : ((j : Int) + 1) * ((j : Int) + 1) ≤ 841 := by rw [e1]; omega
            have hk28 : j + 1 ≤ 28 := by
              apply Classical.byContradiction
              intro h2
              have : 29 * 29 ≤ (j + 1) * (j + 1) := Nat.mul_le_mul (by omega) (by omega)
              omega
            have HX := Lib.hid hc
            clear e1 hb hc
            go_wp2
            go_roundw
            case rel => exact ⟨j + 1, by omega, by go_num, HX, hW, hbl⟩
            case measure => simp [intOf]; omega
          · have hc1 : ¬ ((j : Int) + 1) * ((j : Int) + 1) ≤ (m : Int) := by rw [e1]; omega
            have hc0 : -9000000000000000000 ≤ ((j : Int) + 1) * ((j : Int) + 1) := by rw [e1]; omega
            have hc2 : ((j : Int) + 1) * ((j : Int) + 1) ≤ 841 := by rw [e1]; omega
            have hX := HE.out j HJ.out (by omega)
            subst hX
            clear e1 hb hc
            go_wp2
            go_roundw
            case rel => exact ⟨k + 1, by omega, by go_num, by rw [HS.out]; go_num, hW, hbl⟩
            case measure => simp [intOf]; omega
      · have hkk : k = ls.length := by omega
        subst hkk
        go_wp2
        go_ret
        exact ⟨ret_int HR.out.symm, hbl⟩

end Go.Proofs.YtognjdappchpkaaGreat

namespace Go.Proofs.YtognjdappchpkaaGreat
open Go.RowKit

attribute [local go_sem ↓] run_eqNode run_eqLead run_neNode run_neLead



theorem szW_le {a b : Nat} (h : ¬ szW 1048576 a b < 0) : a ≤ 1048576 ∧ b ≤ 1048576 ∧ 0 ≤ szW 1048576 a b ∧ szW 1048576 a b ≤ 1048576 := by
  unfold szW at *
  split at h
  · omega
  · split at h
    · omega
    · rename_i h1 h2; rw [if_neg h1, if_neg h2]; omega

theorem szW_le2 {n : Int} {a b : Nat} (hn : n ≤ 1048576) (h : ¬ szW n a b < 0) : a ≤ 1048576 ∧ b ≤ 1048576 ∧ 0 ≤ szW n a b ∧ szW n a b ≤ n := by
  unfold szW at *
  split at h
  · omega
  · split at h
    · omega
    · rename_i h1 h2; rw [if_neg h1, if_neg h2]; omega

theorem szWindow_at (vn vl : Value) (ns ls : List (Int × Int)) (n x : Int) (w : World) (hn : RP w vn ns) (hl : RP w vl ls) (h0 : 0 ≤ n) (h1 : n ≤ 1000000000) (hx : Hid (szW n ns.length ls.length = x)) :
    Calls Tryz.prog 6 #[.agg #[vn, vl], .int .i64 n] w fun e w' => e = .returned (.int .i64 x) ∧ Below w.heap.size w w' :=
  (szWindow_any vn vl ns ls n w hn hl h0 h1).mono fun e w' ⟨he, hw⟩ => ⟨he.trans (ret_int hx.out), hw⟩





end Go.Proofs.YtognjdappchpkaaGreat

namespace Go.Proofs.YtognjdappchpkaaGreat
open Go.RowKit

/-- The nodes of degree two and more among the first ones. -/
def jointsN (ls : List Pr) : Nat → Nat
  | 0 => 0
  | k + 1 => if 2 ≤ (atN ls k ls.length).length then jointsN ls k + 1 else jointsN ls k

theorem jointsN_le (ls : List Pr) : ∀ k, jointsN ls k ≤ k
  | 0 => Nat.le_refl _
  | k + 1 => by
    have := jointsN_le ls k
    unfold jointsN
    split <;> omega

noncomputable def jointsI (ns ls : List Pr) : Int := if winB ns ls then (jointsN ls ns.length : Int) else -1

set_option maxHeartbeats 4000000 in
set_option maxRecDepth 100000 in
theorem iJoints_any (vn vl : Value) (ns ls : List Pr) (w : World) (hn : RP w vn ns) (hl : RP w vl ls) :
    Calls Tryz.prog 23 #[.agg #[vn, vl]] w fun e w' => e = .returned (.int .i64 (jointsI ns ls)) ∧ Below w.heap.size w w' := by
  cases hw : winB ns ls
  · have HR : Hid (jointsI ns ls = -1) := Lib.hid (by simp [jointsI, hw])
    go_enter Tryz.func23, Tryz.ntmps23
    go_wp2_with fail
    refine (iWinOk_at _ _ ns ls _ _ (hn.below (by (repeat' (first | (with_reducible exact Below.refl _ _) | (with_reducible assumption) | (with_reducible refine Below.drew ?_) | (with_reducible refine below_drewN ?_ _) | (with_reducible refine Below.alloc ?_ ?_ _) | (with_reducible refine Below.setCell ?_ ?_ _) | (with_reducible refine Below.step (by assumption) ?_ ?_))); all_goals (first | omega | (simp; done) | (simp; omega)))) (hl.below (by (repeat' (first | (with_reducible exact Below.refl _ _) | (with_reducible assumption) | (with_reducible refine Below.drew ?_) | (with_reducible refine below_drewN ?_ _) | (with_reducible refine Below.alloc ?_ ?_ _) | (with_reducible refine Below.setCell ?_ ?_ _) | (with_reducible refine Below.step (by assumption) ?_ ?_))); all_goals (first | omega | (simp; done) | (simp; omega)))) hw).mono ?_
    rintro e w1 ⟨rfl, hb1⟩; (first | (with_reducible have hcf1 := bcell_drew hb1) | have hcf1 := bcell hb1); obtain ⟨hc1, hf1⟩ := hcf1; have hz1 := hb1.size; (try simp at hz1); (try have hp1_0 : w.heap.size < w1.heap.size := by omega); (try have hp1_1 : w.heap.size + 1 < w1.heap.size := by omega); (try have hp1_2 : w.heap.size + 1 + 1 < w1.heap.size := by omega); (try have hp1_3 : w.heap.size + 1 + 1 + 1 < w1.heap.size := by omega)
    go_wp2
    go_ret
    exact ⟨ret_int HR.out.symm, by (repeat' (first | (with_reducible exact Below.refl _ _) | (with_reducible assumption) | (with_reducible refine Below.drew ?_) | (with_reducible refine below_drewN ?_ _) | (with_reducible refine Below.alloc ?_ ?_ _) | (with_reducible refine Below.setCell ?_ ?_ _) | (with_reducible refine Below.step (by assumption) ?_ ?_))); all_goals (first | omega | (simp; done) | (simp; omega))⟩
  · have HR : Hid (jointsI ns ls = (jointsN ls ns.length : Int)) := Lib.hid (by simp [jointsI, hw])
    have hn12 := (winB_true.1 hw).2.1
    obtain ⟨An, cn, rfl, hcn, hmn, _⟩ := hn.formI
    unfold maxLen at hmn
    go_enter Tryz.func23, Tryz.ntmps23
    go_wp2_with fail
    refine (iWinOk_at _ _ ns ls _ _ (hn.below (by (repeat' (first | (with_reducible exact Below.refl _ _) | (with_reducible assumption) | (with_reducible refine Below.drew ?_) | (with_reducible refine below_drewN ?_ _) | (with_reducible refine Below.alloc ?_ ?_ _) | (with_reducible refine Below.setCell ?_ ?_ _) | (with_reducible refine Below.step (by assumption) ?_ ?_))); all_goals (first | omega | (simp; done) | (simp; omega)))) (hl.below (by (repeat' (first | (with_reducible exact Below.refl _ _) | (with_reducible assumption) | (with_reducible refine Below.drew ?_) | (with_reducible refine below_drewN ?_ _) | (with_reducible refine Below.alloc ?_ ?_ _) | (with_reducible refine Below.setCell ?_ ?_ _) | (with_reducible refine Below.step (by assumption) ?_ ?_))); all_goals (first | omega | (simp; done) | (simp; omega)))) hw).mono ?_
    rintro e w1 ⟨rfl, hb1⟩; (first | (with_reducible have hcf1 := bcell_drew hb1) | have hcf1 := bcell hb1); obtain ⟨hc1, hf1⟩ := hcf1; have hz1 := hb1.size; (try simp at hz1); (try have hp1_0 : w.heap.size < w1.heap.size := by omega); (try have hp1_1 : w.heap.size + 1 < w1.heap.size := by omega); (try have hp1_2 : w.heap.size + 1 + 1 < w1.heap.size := by omega); (try have hp1_3 : w.heap.size + 1 + 1 + 1 < w1.heap.size := by omega)
    have hW1 : Blk w1 w.heap.size 34 #[.slice An ns.length cn, vl] := Blk.below (Blk.newAt rfl) hb1 (by first | omega | (simp; done) | (simp; omega))
    have hbw1 : Below w.heap.size w w1 := by (repeat' (first | (with_reducible exact Below.refl _ _) | (with_reducible assumption) | (with_reducible refine Below.drew ?_) | (with_reducible refine below_drewN ?_ _) | (with_reducible refine Below.alloc ?_ ?_ _) | (with_reducible refine Below.setCell ?_ ?_ _) | (with_reducible refine Below.step (by assumption) ?_ ?_))); all_goals (first | omega | (simp; done) | (simp; omega))
    clear hb1 hc1 hf1
    (have a_0 := hW1.cell 0); (have a_1 := hW1.cell 1); simp only [List.getElem?_toArray, List.getElem?_cons_succ, List.getElem?_cons_zero] at a_0 a_1
    go_wp2
    go_loopw [3, 11] (fun x i wr => ∃ k : Nat, k ≤ ns.length ∧ i = .int .i64 k ∧ x = .int .i64 (jointsN ls k) ∧ Blk wr w.heap.size 34 #[.slice An ns.length cn, vl] ∧ Below w.heap.size w wr) (fun _ i _ => ns.length - (intOf i).toNat)
    case atStart => exact ⟨0, Nat.zero_le _, rfl, rfl, hW1, hbw1⟩
    case round =>
      obtain ⟨k, hk, rfl, rfl, hW, hbl⟩ := hrel
      clear hW1 hbw1 a_0 a_1
      have hsz := hW.lt
      have hjl := jointsN_le ls k
      (have a_0 := hW.cell 0); (have a_1 := hW.cell 1); simp only [List.getElem?_toArray, List.getElem?_cons_succ, List.getElem?_cons_zero] at a_0 a_1
      by_cases hlt : k < ns.length
      · have hdeg : degI ns ls k = ((atN ls k ls.length).length : Int) := by
          unfold degI hasN
          rw [hw, inB_true.2 (show 0 ≤ (k : Int) ∧ (k : Int) ≤ (ns.length : Int) - 1 by omega)]
          rfl
        by_cases h2 : 2 ≤ (atN ls k ls.length).length
        · have HS : Hid (jointsN ls (k + 1) = jointsN ls k + 1) := Lib.hid (by simp [jointsN, h2])
          have HD : Hid (degI ns ls k = ((atN ls k ls.length).length : Int)) := Lib.hid hdeg
          have h3 : (2 : Int) ≤ ((atN ls k ls.length).length : Int) := by omega
          generalize (atN ls k ls.length).length = D at *
          generalize jointsN ls k = J at *
          clear hdeg
          go_wp2_with fail
          refine (iDegree_any _ _ ns ls _ _ (hn.below hbl) (hl.below hbl)).mono ?_
          rw [HD.out]
          rintro e w2 ⟨rfl, hb2⟩; (first | (with_reducible have hcf2 := bcell_drew hb2) | have hcf2 := bcell hb2); obtain ⟨hc2, hf2⟩ := hcf2; have hz2 := hb2.size; (try simp at hz2); (try have hp2_0 : w.heap.size < w2.heap.size := by omega); (try have hp2_1 : w.heap.size + 1 < w2.heap.size := by omega); (try have hp2_2 : w.heap.size + 1 + 1 < w2.heap.size := by omega); (try have hp2_3 : w.heap.size + 1 + 1 + 1 < w2.heap.size := by omega)
          have hW2 := hW.below hb2 hsz
          have hbw2 : Below w.heap.size w w2 := by (repeat' (first | (with_reducible exact Below.refl _ _) | (with_reducible assumption) | (with_reducible refine Below.drew ?_) | (with_reducible refine below_drewN ?_ _) | (with_reducible refine Below.alloc ?_ ?_ _) | (with_reducible refine Below.setCell ?_ ?_ _) | (with_reducible refine Below.step (by assumption) ?_ ?_))); all_goals (first | omega | (simp; done) | (simp; omega))
          clear hb2 hc2 hf2 hz2 hW hbl a_0 a_1
          go_wp2
          go_roundw
          case rel => exact ⟨k + 1, by omega, by go_num, by rw [HS.out]; go_num, hW2, hbw2⟩
          case measure => simp [intOf]; omega
        · have HS : Hid (jointsN ls (k + 1) = jointsN ls k) := Lib.hid (by simp [jointsN, h2])
          have HD : Hid (degI ns ls k = ((atN ls k ls.length).length : Int)) := Lib.hid hdeg
          have h3 : ¬ (2 : Int) ≤ ((atN ls k ls.length).length : Int) := by omega
          generalize (atN ls k ls.length).length = D at *
          generalize jointsN ls k = J at *
          clear hdeg
          go_wp2_with fail
          refine (iDegree_any _ _ ns ls _ _ (hn.below hbl) (hl.below hbl)).mono ?_
          rw [HD.out]
          rintro e w2 ⟨rfl, hb2⟩; (first | (with_reducible have hcf2 := bcell_drew hb2) | have hcf2 := bcell hb2); obtain ⟨hc2, hf2⟩ := hcf2; have hz2 := hb2.size; (try simp at hz2); (try have hp2_0 : w.heap.size < w2.heap.size := by omega); (try have hp2_1 : w.heap.size + 1 < w2.heap.size := by omega); (try have hp2_2 : w.heap.size + 1 + 1 < w2.heap.size := by omega); (try have hp2_3 : w.heap.size + 1 + 1 + 1 < w2.heap.size := by omega)
          have hW2 := hW.below hb2 hsz
          have hbw2 : Below w.heap.size w w2 := by (repeat' (first | (with_reducible exact Below.refl _ _) | (with_reducible assumption) | (with_reducible refine Below.drew ?_) | (with_reducible refine below_drewN ?_ _) | (with_reducible refine Below.alloc ?_ ?_ _) | (with_reducible refine Below.setCell ?_ ?_ _) | (with_reducible refine Below.step (by assumption) ?_ ?_))); all_goals (first | omega | (simp; done) | (simp; omega))
          clear hb2 hc2 hf2 hz2 hW hbl a_0 a_1
          go_wp2
          go_roundw
          case rel => exact ⟨k + 1, by omega, by go_num, by rw [HS.out], hW2, hbw2⟩
          case measure => simp [intOf]; omega
      · have hkk : k = ns.length := by omega
        subst hkk
        go_wp2
        go_ret
        exact ⟨ret_int HR.out.symm, hbl⟩

set_option maxHeartbeats 4000000 in
set_option maxRecDepth 100000 in
theorem sJoints_any (vn vl : Value) (ns ls : List Pr) (w : World) (hn : RP w vn ns) (hl : RP w vl ls) :
    Calls Tryz.prog 36 #[.agg #[vn, vl]] w fun e w' => e = .returned (.int .i64 (jointsI ns ls)) ∧ Below w.heap.size w w' := by
  cases hw : winB ns ls
  · have HR : Hid (jointsI ns ls = -1) := Lib.hid (by simp [jointsI, hw])
    go_enter Tryz.func36, Tryz.ntmps36
    go_wp2_with fail
    refine (sWinOk_at _ _ ns ls _ _ (hn.below (by (repeat' (first | (with_reducible exact Below.refl _ _) | (with_reducible assumption) | (with_reducible refine Below.drew ?_) | (with_reducible refine below_drewN ?_ _) | (with_reducible refine Below.alloc ?_ ?_ _) | (with_reducible refine Below.setCell ?_ ?_ _) | (with_reducible refine Below.step (by assumption) ?_ ?_))); all_goals (first | omega | (simp; done) | (simp; omega)))) (hl.below (by (repeat' (first | (with_reducible exact Below.refl _ _) | (with_reducible assumption) | (with_reducible refine Below.drew ?_) | (with_reducible refine below_drewN ?_ _) | (with_reducible refine Below.alloc ?_ ?_ _) | (with_reducible refine Below.setCell ?_ ?_ _) | (with_reducible refine Below.step (by assumption) ?_ ?_))); all_goals (first | omega | (simp; done) | (simp; omega)))) hw).mono ?_
    rintro e w1 ⟨rfl, hb1⟩; (first | (with_reducible have hcf1 := bcell_drew hb1) | have hcf1 := bcell hb1); obtain ⟨hc1, hf1⟩ := hcf1; have hz1 := hb1.size; (try simp at hz1); (try have hp1_0 : w.heap.size < w1.heap.size := by omega); (try have hp1_1 : w.heap.size + 1 < w1.heap.size := by omega); (try have hp1_2 : w.heap.size + 1 + 1 < w1.heap.size := by omega); (try have hp1_3 : w.heap.size + 1 + 1 + 1 < w1.heap.size := by omega)
    go_wp2
    go_ret
    exact ⟨ret_int HR.out.symm, by (repeat' (first | (with_reducible exact Below.refl _ _) | (with_reducible assumption) | (with_reducible refine Below.drew ?_) | (with_reducible refine below_drewN ?_ _) | (with_reducible refine Below.alloc ?_ ?_ _) | (with_reducible refine Below.setCell ?_ ?_ _) | (with_reducible refine Below.step (by assumption) ?_ ?_))); all_goals (first | omega | (simp; done) | (simp; omega))⟩
  · have HR : Hid (jointsI ns ls = (jointsN ls ns.length : Int)) := Lib.hid (by simp [jointsI, hw])
    have hwin := winB_true.1 hw
    have hn12 := hwin.2.1
    have hm20 := hwin.2.2.1
    have HLD : Hid (∀ j : Nat, j < ls.length → leadB ns (ndI ls j) = true) := Lib.hid (fun j hj => (hwin.2.2.2.2.2 j hj).1)
    clear hwin
    obtain ⟨An, cn, rfl, hcn, hmn, _⟩ := hn.formI
    unfold maxLen at hmn
    go_enter Tryz.func36, Tryz.ntmps36
    go_wp2_with fail
    refine (sWinOk_at _ _ ns ls _ _ (hn.below (by (repeat' (first | (with_reducible exact Below.refl _ _) | (with_reducible assumption) | (with_reducible refine Below.drew ?_) | (with_reducible refine below_drewN ?_ _) | (with_reducible refine Below.alloc ?_ ?_ _) | (with_reducible refine Below.setCell ?_ ?_ _) | (with_reducible refine Below.step (by assumption) ?_ ?_))); all_goals (first | omega | (simp; done) | (simp; omega)))) (hl.below (by (repeat' (first | (with_reducible exact Below.refl _ _) | (with_reducible assumption) | (with_reducible refine Below.drew ?_) | (with_reducible refine below_drewN ?_ _) | (with_reducible refine Below.alloc ?_ ?_ _) | (with_reducible refine Below.setCell ?_ ?_ _) | (with_reducible refine Below.step (by assumption) ?_ ?_))); all_goals (first | omega | (simp; done) | (simp; omega)))) hw).mono ?_
    rintro e w1 ⟨rfl, hb1⟩; (first | (with_reducible have hcf1 := bcell_drew hb1) | have hcf1 := bcell hb1); obtain ⟨hc1, hf1⟩ := hcf1; have hz1 := hb1.size; (try simp at hz1); (try have hp1_0 : w.heap.size < w1.heap.size := by omega); (try have hp1_1 : w.heap.size + 1 < w1.heap.size := by omega); (try have hp1_2 : w.heap.size + 1 + 1 < w1.heap.size := by omega); (try have hp1_3 : w.heap.size + 1 + 1 + 1 < w1.heap.size := by omega)
    have hW1 : Blk w1 w.heap.size 34 #[.slice An ns.length cn, vl] := Blk.below (Blk.newAt rfl) hb1 (by first | omega | (simp; done) | (simp; omega))
    have hbw1 : Below w.heap.size w w1 := by (repeat' (first | (with_reducible exact Below.refl _ _) | (with_reducible assumption) | (with_reducible refine Below.drew ?_) | (with_reducible refine below_drewN ?_ _) | (with_reducible refine Below.alloc ?_ ?_ _) | (with_reducible refine Below.setCell ?_ ?_ _) | (with_reducible refine Below.step (by assumption) ?_ ?_))); all_goals (first | omega | (simp; done) | (simp; omega))
    clear hb1 hc1 hf1
    (have a_0 := hW1.cell 0); (have a_1 := hW1.cell 1); simp only [List.getElem?_toArray, List.getElem?_cons_succ, List.getElem?_cons_zero] at a_0 a_1
    go_wp2
    go_loopw [3, 4] (fun x i wr => ∃ k : Nat, k ≤ ns.length ∧ i = .int .i64 k ∧ x = .int .i64 (jointsN ls k) ∧ Blk wr w.heap.size 34 #[.slice An ns.length cn, vl] ∧ Below w.heap.size w wr) (fun _ i _ => ns.length - (intOf i).toNat)
    case atStart => exact ⟨0, Nat.zero_le _, rfl, rfl, hW1, hbw1⟩
    case round =>
      obtain ⟨k, hk, rfl, rfl, hW, hbl⟩ := hrel
      clear hW1 hbw1 a_0 a_1
      have hsz := hW.lt
      have hjl := jointsN_le ls k
      (have a_0 := hW.cell 0); (have a_1 := hW.cell 1); simp only [List.getElem?_toArray, List.getElem?_cons_succ, List.getElem?_cons_zero] at a_0 a_1
      by_cases hlt : k < ns.length
      · have hdl : (natI (ardS ns ls k (2 * ls.length))).length = (atN ls k ls.length).length := by rw [natI_length, ard_at HLD.out k ls.length (Nat.le_refl _)]
        by_cases h2 : 2 ≤ (atN ls k ls.length).length
        · have HS : Hid (jointsN ls (k + 1) = jointsN ls k + 1) := Lib.hid (by simp [jointsN, h2])
          have h3 : (2 : Int) ≤ ((natI (ardS ns ls k (2 * ls.length))).length : Int) := by omega
          generalize jointsN ls k = J at *
          clear hdl h2
          go_wp2_with fail
          refine (sAround_any _ _ ns ls k _ (hn.below hbl) (hl.below hbl) hlt hm20 hn12 HLD.out).mono ?_
          rintro e w2 ⟨v2, rfl, ho2, hb2⟩
          obtain ⟨A2, c2, rfl⟩ := ho2.form
          have hW2 := hW.below hb2 hsz
          have hbw2 : Below w.heap.size w w2 := by (repeat' (first | (with_reducible exact Below.refl _ _) | (with_reducible assumption) | (with_reducible refine Below.drew ?_) | (with_reducible refine below_drewN ?_ _) | (with_reducible refine Below.alloc ?_ ?_ _) | (with_reducible refine Below.setCell ?_ ?_ _) | (with_reducible refine Below.step (by assumption) ?_ ?_))); all_goals (first | omega | (simp; done) | (simp; omega))
          clear hb2 hW hbl a_0 a_1
          go_wp2
          go_roundw
          case rel => exact ⟨k + 1, by omega, by go_num, by rw [HS.out]; go_num, hW2, hbw2⟩
          case measure => simp [intOf]; omega
        · have HS : Hid (jointsN ls (k + 1) = jointsN ls k) := Lib.hid (by simp [jointsN, h2])
          have h3 : ¬ (2 : Int) ≤ ((natI (ardS ns ls k (2 * ls.length))).length : Int) := by omega
          generalize jointsN ls k = J at *
          clear hdl h2
          go_wp2_with fail
          refine (sAround_any _ _ ns ls k _ (hn.below hbl) (hl.below hbl) hlt hm20 hn12 HLD.out).mono ?_
          rintro e w2 ⟨v2, rfl, ho2, hb2⟩
          obtain ⟨A2, c2, rfl⟩ := ho2.form
          have hW2 := hW.below hb2 hsz
          have hbw2 : Below w.heap.size w w2 := by (repeat' (first | (with_reducible exact Below.refl _ _) | (with_reducible assumption) | (with_reducible refine Below.drew ?_) | (with_reducible refine below_drewN ?_ _) | (with_reducible refine Below.alloc ?_ ?_ _) | (with_reducible refine Below.setCell ?_ ?_ _) | (with_reducible refine Below.step (by assumption) ?_ ?_))); all_goals (first | omega | (simp; done) | (simp; omega))
          clear hb2 hW hbl a_0 a_1
          go_wp2
          go_roundw
          case rel => exact ⟨k + 1, by omega, by go_num, by rw [HS.out], hW2, hbw2⟩
          case measure => simp [intOf]; omega
      · have hkk : k = ns.length := by omega
        subst hkk
        go_wp2
        go_ret
        exact ⟨ret_int HR.out.symm, hbl⟩

theorem iJoints_at (vn vl : Value) (ns ls : List Pr) (x : Int) (w : World) (hn : RP w vn ns) (hl : RP w vl ls) (hx : Hid (jointsI ns ls = x)) :
    Calls Tryz.prog 23 #[.agg #[vn, vl]] w fun e w' => e = .returned (.int .i64 x) ∧ Below w.heap.size w w' := by
  rw [← hx.out]; exact iJoints_any vn vl ns ls w hn hl
theorem sJoints_at (vn vl : Value) (ns ls : List Pr) (x : Int) (w : World) (hn : RP w vn ns) (hl : RP w vl ls) (hx : Hid (jointsI ns ls = x)) :
    Calls Tryz.prog 36 #[.agg #[vn, vl]] w fun e w' => e = .returned (.int .i64 x) ∧ Below w.heap.size w w' := by
  rw [← hx.out]; exact sJoints_any vn vl ns ls w hn hl



end Go.Proofs.YtognjdappchpkaaGreat

namespace Go.Proofs.YtognjdappchpkaaGreat
open Go.RowKit

set_option maxHeartbeats 400000 in
theorem toTariff_any (a b c d : Int) (w : World) :
    Calls Tryz.prog 9 #[.agg #[.int .i64 a, .int .i64 b, .int .i64 c, .int .i64 d]] w fun e w' => e = .returned (.agg #[.int .i64 a, .int .i64 b, .int .i64 c, .int .i64 d]) ∧ Below w.heap.size w w' := by
  go_enter Tryz.func9, Tryz.ntmps9
  go_wp2
  exact bodyPost_ret (v := .agg #[.int .i64 a, .int .i64 b, .int .i64 c, .int .i64 d]) (by simp [results, Tryz.results9, go_sem]) rfl ⟨rfl, by (repeat (first | exact Below.refl _ _ | assumption | refine Below.drew ?_ | refine below_drewN ?_ _ | refine Below.alloc ?_ (by first | omega | (simp; done) | (simp; omega)) _ | refine Below.setCell ?_ (by first | omega | (simp; done) | (simp; omega)) _ | refine Below.step (by assumption) ?_ (by first | omega | (simp; done) | (simp; omega)) | refine Below.mark (by assumption) (by assumption) ?_ (by first | omega | (simp; done) | (simp; omega)) (by first | omega | (simp; done) | (simp; omega))))⟩

def tariffB (a b c d : Int) : Bool := inB a 0 1000 && inB b 0 1000 && inB c 0 1000 && inB d 0 1000

set_option maxHeartbeats 400000 in
theorem sTariffOk_any (a b c d : Int) (w : World) :
    Calls Tryz.prog 32 #[.agg #[.int .i64 a, .int .i64 b, .int .i64 c, .int .i64 d]] w fun e w' => e = .returned (.bool (tariffB a b c d)) ∧ Below w.heap.size w w' := by
  go_enter Tryz.func32, Tryz.ntmps32
  go_wp2_with (go_at_call 54; refine (l01In_any _ _ _ _).mono ?_; rintro e w' ⟨rfl, rfl⟩)
  all_goals go_ret
  all_goals refine ⟨ret_bool ?_, by (repeat (first | exact Below.refl _ _ | assumption | refine Below.drew ?_ | refine below_drewN ?_ _ | refine Below.alloc ?_ (by first | omega | (simp; done) | (simp; omega)) _ | refine Below.setCell ?_ (by first | omega | (simp; done) | (simp; omega)) _ | refine Below.step (by assumption) ?_ (by first | omega | (simp; done) | (simp; omega)) | refine Below.mark (by assumption) (by assumption) ?_ (by first | omega | (simp; done) | (simp; omega)) (by first | omega | (simp; done) | (simp; omega))))⟩
  all_goals simp [tariffB, *]

set_option maxHeartbeats 400000 in
theorem iTariffOk_any (a b c d : Int) (w : World) :
    Calls Tryz.prog 24 #[.agg #[.int .i64 a, .int .i64 b, .int .i64 c, .int .i64 d]] w fun e w' => e = .returned (.bool (tariffB a b c d)) ∧ Below w.heap.size w w' := by
  go_enter Tryz.func24, Tryz.ntmps24
  go_wp2_with fail
  refine (allWithin_any _ [a, b, c, d] _ _ _ (RI_lit (by simp) (by simp [vI]) rfl rfl (by simp [maxLen]))).mono ?_
  rintro e w' ⟨rfl, rfl⟩
  go_wp2
  go_ret
  exact ⟨ret_bool (by simp [tariffB, Bool.and_assoc]), by (repeat (first | exact Below.refl _ _ | assumption | refine Below.drew ?_ | refine below_drewN ?_ _ | refine Below.alloc ?_ (by first | omega | (simp; done) | (simp; omega)) _ | refine Below.setCell ?_ (by first | omega | (simp; done) | (simp; omega)) _ | refine Below.step (by assumption) ?_ (by first | omega | (simp; done) | (simp; omega)) | refine Below.mark (by assumption) (by assumption) ?_ (by first | omega | (simp; done) | (simp; omega)) (by first | omega | (simp; done) | (simp; omega))))⟩



end Go.Proofs.YtognjdappchpkaaGreat

namespace Go.Proofs.YtognjdappchpkaaGreat
open Go.RowKit

/-- The areas of the first k faces of a list. -/
noncomputable def sumA (ns ls : List Pr) (zs : List Int) : Nat → Int
  | 0 => 0
  | k + 1 => sumA ns ls zs k + areaW ns ls (zs.getD k 0)

noncomputable def billB (ns ls : List Pr) (a b c d : Int) (zs : List Int) : Bool := wholeB ns ls && (tariffB a b c d && (riseB zs (((facesW ns ls).length : Int) - 1) && !(decide (outerW ns ls ∈ zs))))
noncomputable def billI (ns ls : List Pr) (a b c d : Int) (zs : List Int) : Int := if billB ns ls a b c d zs then a * totalW ns ls + b * lenW ns ls + c * jointsI ns ls + d * sumA ns ls zs zs.length else -1

theorem areaW_bd (ns ls : List Pr) (f : Int) : -1 ≤ areaW ns ls f ∧ areaW ns ls f ≤ 16000 := by
  unfold areaW
  split
  · rename_i h
    have hk : f.toNat < (facesW ns ls).length := by have := inB_true.1 h; omega
    obtain ⟨h1, h2, h3, h4⟩ := facesW_at hk
    have := areaF_bd h1 h2 h4
    omega
  · omega

theorem sumA_bd (ns ls : List Pr) (zs : List Int) : ∀ k : Nat, -(16000 * k : Int) ≤ sumA ns ls zs k ∧ sumA ns ls zs k ≤ 16000 * k
  | 0 => by simp [sumA]
  | k + 1 => by
    have ih := sumA_bd ns ls zs k
    have := areaW_bd ns ls (zs.getD k 0)
    unfold sumA
    omega

theorem lenW_bd (ns ls : List Pr) : -1 ≤ lenW ns ls ∧ lenW ns ls ≤ 16000 := by
  unfold lenW
  cases hw : winB ns ls
  · simp
  · have hwin := winB_true.1 hw
    have hld : ∀ j : Nat, j < ls.length → leadB ns (ndI ls j) = true := fun j hj => (hwin.2.2.2.2.2 j hj).1
    have := lenK_bd hld ls.length (Nat.le_refl _)
    have h20 := hwin.2.2.1
    simp only [if_true]
    omega

theorem jointsI_bd (ns ls : List Pr) : -1 ≤ jointsI ns ls ∧ jointsI ns ls ≤ 12 := by
  unfold jointsI
  cases hw : winB ns ls
  · simp
  · have hwin := winB_true.1 hw
    have := jointsN_le ls ns.length
    have h12 := hwin.2.1
    simp only [if_true]
    omega

theorem mulT {a x : Int} {U : Nat} (h0 : 0 ≤ a) (h1 : a ≤ 1000) (h2 : -(U : Int) ≤ x) (h3 : x ≤ U) : -(1000 * U : Int) ≤ a * x ∧ a * x ≤ 1000 * U := by
  have h : (a * x).natAbs ≤ 1000 * U := by
    rw [Int.natAbs_mul]
    exact Nat.mul_le_mul (by omega) (by omega)
  omega

theorem tariffB_bd {a b c d : Int} (h : tariffB a b c d = true) : (0 ≤ a ∧ a ≤ 1000) ∧ (0 ≤ b ∧ b ≤ 1000) ∧ (0 ≤ c ∧ c ≤ 1000) ∧ (0 ≤ d ∧ d ≤ 1000) := by
  simp [tariffB, inB] at h
  omega

theorem facesW_pos {ns ls : List Pr} (h : wholeB ns ls = true) : 0 < (facesW ns ls).length := by
  have hwin := (whole_win h).1
  have hpos := (whole_win h).2
  have hld : ∀ j : Nat, j < ls.length → leadB ns (ndI ls j) = true := fun j hj => (hwin.2.2.2.2.2 j hj).1
  obtain ⟨k, hk, _⟩ := outer_is hld hpos
  have hF : facesW ns ls = facesD ns ls := by simp [facesW, h]
  rw [hF]; omega

theorem facesW_zero {ns ls : List Pr} (h : wholeB ns ls = false) : facesW ns ls = [] := by simp [facesW, h]

theorem bill_no1 {ns ls : List Pr} {a b c d : Int} {zs : List Int} (h : wholeB ns ls = false) : billI ns ls a b c d zs = -1 := by simp [billI, billB, h]
theorem bill_no2 {ns ls : List Pr} {a b c d : Int} {zs : List Int} (h : tariffB a b c d = false) : billI ns ls a b c d zs = -1 := by simp [billI, billB, h]
theorem bill_no3 {ns ls : List Pr} {a b c d : Int} {zs : List Int} (h : riseB zs (((facesW ns ls).length : Int) - 1) = false) : billI ns ls a b c d zs = -1 := by simp [billI, billB, h]
theorem bill_no4 {ns ls : List Pr} {a b c d : Int} {zs : List Int} (h : decide (outerW ns ls ∈ zs) = true) : billI ns ls a b c d zs = -1 := by
  have : outerW ns ls ∈ zs := by simpa using h
  simp [billI, billB, this]
theorem bill_yes {ns ls : List Pr} {a b c d : Int} {zs : List Int} (h1 : wholeB ns ls = true) (h2 : tariffB a b c d = true) (h3 : riseB zs (((facesW ns ls).length : Int) - 1) = true) (h4 : decide (outerW ns ls ∈ zs) = false) :
    billI ns ls a b c d zs = a * totalW ns ls + b * lenW ns ls + c * jointsI ns ls + d * sumA ns ls zs zs.length := by
  have : ¬ outerW ns ls ∈ zs := by simpa using h4
  simp [billI, billB, h1, h2, h3, this]

theorem iTariff_at (a b c d : Int) (x : Bool) (w : World) (h : tariffB a b c d = x) :
    Calls Tryz.prog 24 #[.agg #[.int .i64 a, .int .i64 b, .int .i64 c, .int .i64 d]] w fun e w' => e = .returned (.bool x) ∧ Below w.heap.size w w' := by
  subst h; exact iTariffOk_any a b c d w
theorem sTariff_at (a b c d : Int) (x : Bool) (w : World) (h : tariffB a b c d = x) :
    Calls Tryz.prog 32 #[.agg #[.int .i64 a, .int .i64 b, .int .i64 c, .int .i64 d]] w fun e w' => e = .returned (.bool x) ∧ Below w.heap.size w w' := by
  subst h; exact sTariffOk_any a b c d w
theorem iRise_at (v : Value) (zs : List Int) (n : Int) (x : Bool) (w : World) (h : RI w v zs) (hn0 : 0 ≤ n) (hn1 : n ≤ 1000) (hx : riseB zs (n - 1) = x) :
    Calls Tryz.prog 40 #[v, .int .i64 0, .int .i64 (n - 1)] w fun e w' => e = .returned (.bool x) ∧ Below w.heap.size w w' := by
  subst hx; exact iRise_any v zs n w h hn0 hn1
theorem sRise_at (v : Value) (zs : List Int) (n : Int) (x : Bool) (w : World) (h : RI w v zs) (hn0 : 0 ≤ n) (hn1 : n ≤ 1000) (hx : riseB zs (n - 1) = x) :
    Calls Tryz.prog 33 #[.int .i64 n, v] w fun e w' => e = .returned (.bool x) ∧ Below w.heap.size w w' := by
  subst hx; exact sRise_any v zs n w h hn0 hn1
theorem iHas_at (v : Value) (zs : List Int) (z : Int) (x : Bool) (w : World) (h : RI w v zs) (hx : decide (z ∈ zs) = x) :
    Calls Tryz.prog 42 #[v, .int .i64 z] w fun e w' => e = .returned (.bool x) ∧ w = w' := by
  subst hx; exact iHas_any v zs z w h
theorem sHas_at (v : Value) (zs : List Int) (z : Int) (x : Bool) (w : World) (h : RI w v zs) (hx : decide (z ∈ zs) = x) :
    Calls Tryz.prog 34 #[v, .int .i64 z] w fun e w' => e = .returned (.bool x) ∧ w = w' := by
  subst hx; exact sHas_any v zs z w h
theorem iLen_at (vn vl : Value) (ns ls : List Pr) (z : Int) (w : World) (hn : RP w vn ns) (hl : RP w vl ls) (hz : lenW ns ls = z) :
    Calls Tryz.prog 46 #[.agg #[vn, vl]] w fun e w' => e = .returned (.int .i64 z) ∧ Below w.heap.size w w' := by
  subst hz; exact iLen_any vn vl ns ls w hn hl
theorem sLen_at (vn vl : Value) (ns ls : List Pr) (z : Int) (w : World) (hn : RP w vn ns) (hl : RP w vl ls) (hz : lenW ns ls = z) :
    Calls Tryz.prog 22 #[.agg #[vn, vl]] w fun e w' => e = .returned (.int .i64 z) ∧ Below w.heap.size w w' := by
  subst hz; exact sLen_any vn vl ns ls w hn hl
theorem iTotal_at (vn vl : Value) (ns ls : List Pr) (z : Int) (w : World) (hn : RP w vn ns) (hl : RP w vl ls) (hz : totalW ns ls = z) :
    Calls Tryz.prog 45 #[.agg #[vn, vl]] w fun e w' => e = .returned (.int .i64 z) ∧ Below w.heap.size w w' := by
  subst hz; exact iTotal_any vn vl ns ls w hn hl
theorem sTotal_at (vn vl : Value) (ns ls : List Pr) (z : Int) (w : World) (hn : RP w vn ns) (hl : RP w vl ls) (hz : totalW ns ls = z) :
    Calls Tryz.prog 21 #[.agg #[vn, vl]] w fun e w' => e = .returned (.int .i64 z) ∧ Below w.heap.size w w' := by
  subst hz; exact sTotal_any vn vl ns ls w hn hl
theorem iArea_at (vn vl : Value) (ns ls : List Pr) (f z : Int) (w : World) (hn : RP w vn ns) (hl : RP w vl ls) (hz : areaW ns ls f = z) :
    Calls Tryz.prog 44 #[.agg #[vn, vl], .int .i64 f] w fun e w' => e = .returned (.int .i64 z) ∧ Below w.heap.size w w' := by
  subst hz; exact iArea_any vn vl ns ls f w hn hl
theorem sArea_at (vn vl : Value) (ns ls : List Pr) (f z : Int) (w : World) (hn : RP w vn ns) (hl : RP w vl ls) (hz : areaW ns ls f = z) :
    Calls Tryz.prog 20 #[.agg #[vn, vl], .int .i64 f] w fun e w' => e = .returned (.int .i64 z) ∧ Below w.heap.size w w' := by
  subst hz; exact sArea_any vn vl ns ls f w hn hl

set_option maxHeartbeats 8000000 in
set_option maxRecDepth 100000 in
theorem iBill_nowhole (vn vl vp : Value) (ns ls : List Pr) (a b c d : Int) (zs : List Int) (w : World) (hn : RP w vn ns) (hl : RP w vl ls) (hp : RI w vp zs) (h1 : wholeB ns ls = false) :
    Calls Tryz.prog 11 #[.agg #[vn, vl], .agg #[.int .i64 a, .int .i64 b, .int .i64 c, .int .i64 d], vp] w fun e w' => e = .returned (.int .i64 (-1)) ∧ Below w.heap.size w w' := by
  have hba : Below w.heap.size w ((w.alloc (.cells #[vn, vl] 34)).alloc (.cells #[.int .i64 a, .int .i64 b, .int .i64 c, .int .i64 d] 36)) := by (repeat' (first | (with_reducible exact Below.refl _ _) | (with_reducible assumption) | (with_reducible refine Below.drew ?_) | (with_reducible refine below_drewN ?_ _) | (with_reducible refine Below.alloc ?_ ?_ _) | (with_reducible refine Below.setCell ?_ ?_ _) | (with_reducible refine Below.step (by assumption) ?_ ?_))); all_goals (first | omega | (simp; done) | (simp; omega))
  have hWA : Blk ((w.alloc (.cells #[vn, vl] 34)).alloc (.cells #[.int .i64 a, .int .i64 b, .int .i64 c, .int .i64 d] 36)) w.heap.size 34 #[vn, vl] := (Blk.newAt rfl).alloc _
  have hTA : Blk ((w.alloc (.cells #[vn, vl] 34)).alloc (.cells #[.int .i64 a, .int .i64 b, .int .i64 c, .int .i64 d] 36)) (w.heap.size + 1) 36 #[.int .i64 a, .int .i64 b, .int .i64 c, .int .i64 d] := Blk.newAt (by simp)
  have hfl := facesW_len ns ls
  go_enter Tryz.func11, Tryz.ntmps11
  go_wp2_with fail
  refine (iWhole_at vn vl ns ls _ _ (hn.below hba) (hl.below hba) h1).mono ?_
  rintro e w1 ⟨rfl, hs1⟩
  have hb1 := hba.trans (hs1.mono hba.size)
  have hW1 := hWA.below hs1 hWA.lt
  have hT1 := hTA.below hs1 hTA.lt
  (have x_0 := hW1.cell 0); (have x_1 := hW1.cell 1); simp only [List.getElem?_toArray, List.getElem?_cons_succ, List.getElem?_cons_zero] at x_0 x_1
  (have y_0 := hT1.cell 0); (have y_1 := hT1.cell 1); (have y_2 := hT1.cell 2); (have y_3 := hT1.cell 3); simp only [List.getElem?_toArray, List.getElem?_cons_succ, List.getElem?_cons_zero] at y_0 y_1 y_2 y_3
  have lw1 := hW1.lt
  have lt1 := hT1.lt
  go_wp2
  go_ret
  exact ⟨rfl, hb1⟩

set_option maxHeartbeats 8000000 in
set_option maxRecDepth 100000 in
theorem iBill_notariff (vn vl vp : Value) (ns ls : List Pr) (a b c d : Int) (zs : List Int) (w : World) (hn : RP w vn ns) (hl : RP w vl ls) (hp : RI w vp zs) (h1 : wholeB ns ls = true) (h2 : tariffB a b c d = false) :
    Calls Tryz.prog 11 #[.agg #[vn, vl], .agg #[.int .i64 a, .int .i64 b, .int .i64 c, .int .i64 d], vp] w fun e w' => e = .returned (.int .i64 (-1)) ∧ Below w.heap.size w w' := by
  have hba : Below w.heap.size w ((w.alloc (.cells #[vn, vl] 34)).alloc (.cells #[.int .i64 a, .int .i64 b, .int .i64 c, .int .i64 d] 36)) := by (repeat' (first | (with_reducible exact Below.refl _ _) | (with_reducible assumption) | (with_reducible refine Below.drew ?_) | (with_reducible refine below_drewN ?_ _) | (with_reducible refine Below.alloc ?_ ?_ _) | (with_reducible refine Below.setCell ?_ ?_ _) | (with_reducible refine Below.step (by assumption) ?_ ?_))); all_goals (first | omega | (simp; done) | (simp; omega))
  have hWA : Blk ((w.alloc (.cells #[vn, vl] 34)).alloc (.cells #[.int .i64 a, .int .i64 b, .int .i64 c, .int .i64 d] 36)) w.heap.size 34 #[vn, vl] := (Blk.newAt rfl).alloc _
  have hTA : Blk ((w.alloc (.cells #[vn, vl] 34)).alloc (.cells #[.int .i64 a, .int .i64 b, .int .i64 c, .int .i64 d] 36)) (w.heap.size + 1) 36 #[.int .i64 a, .int .i64 b, .int .i64 c, .int .i64 d] := Blk.newAt (by simp)
  have hfl := facesW_len ns ls
  go_enter Tryz.func11, Tryz.ntmps11
  go_wp2_with fail
  refine (iWhole_at vn vl ns ls _ _ (hn.below hba) (hl.below hba) h1).mono ?_
  rintro e w1 ⟨rfl, hs1⟩
  have hb1 := hba.trans (hs1.mono hba.size)
  have hW1 := hWA.below hs1 hWA.lt
  have hT1 := hTA.below hs1 hTA.lt
  (have x_0 := hW1.cell 0); (have x_1 := hW1.cell 1); simp only [List.getElem?_toArray, List.getElem?_cons_succ, List.getElem?_cons_zero] at x_0 x_1
  (have y_0 := hT1.cell 0); (have y_1 := hT1.cell 1); (have y_2 := hT1.cell 2); (have y_3 := hT1.cell 3); simp only [List.getElem?_toArray, List.getElem?_cons_succ, List.getElem?_cons_zero] at y_0 y_1 y_2 y_3
  have lw1 := hW1.lt
  have lt1 := hT1.lt
  go_wp2_with fail
  refine (iTariff_at a b c d _ _ h2).mono ?_
  rintro e w2 ⟨rfl, hs2⟩
  have hb2 := hb1.trans (hs2.mono hb1.size)
  have hW2 := hW1.below hs2 hW1.lt
  have hT2 := hT1.below hs2 hT1.lt
  clear x_0 x_1 y_0 y_1 y_2 y_3
  (have x_0 := hW2.cell 0); (have x_1 := hW2.cell 1); simp only [List.getElem?_toArray, List.getElem?_cons_succ, List.getElem?_cons_zero] at x_0 x_1
  (have y_0 := hT2.cell 0); (have y_1 := hT2.cell 1); (have y_2 := hT2.cell 2); (have y_3 := hT2.cell 3); simp only [List.getElem?_toArray, List.getElem?_cons_succ, List.getElem?_cons_zero] at y_0 y_1 y_2 y_3
  have lw2 := hW2.lt
  have lt2 := hT2.lt
  go_wp2
  go_ret
  exact ⟨rfl, hb2⟩

set_option maxHeartbeats 8000000 in
set_option maxRecDepth 100000 in
theorem iBill_norise (vn vl vp : Value) (ns ls : List Pr) (a b c d : Int) (zs : List Int) (w : World) (hn : RP w vn ns) (hl : RP w vl ls) (hp : RI w vp zs) (h1 : wholeB ns ls = true) (h2 : tariffB a b c d = true) (h3 : riseB zs (((facesW ns ls).length : Int) - 1) = false) :
    Calls Tryz.prog 11 #[.agg #[vn, vl], .agg #[.int .i64 a, .int .i64 b, .int .i64 c, .int .i64 d], vp] w fun e w' => e = .returned (.int .i64 (-1)) ∧ Below w.heap.size w w' := by
  have hba : Below w.heap.size w ((w.alloc (.cells #[vn, vl] 34)).alloc (.cells #[.int .i64 a, .int .i64 b, .int .i64 c, .int .i64 d] 36)) := by (repeat' (first | (with_reducible exact Below.refl _ _) | (with_reducible assumption) | (with_reducible refine Below.drew ?_) | (with_reducible refine below_drewN ?_ _) | (with_reducible refine Below.alloc ?_ ?_ _) | (with_reducible refine Below.setCell ?_ ?_ _) | (with_reducible refine Below.step (by assumption) ?_ ?_))); all_goals (first | omega | (simp; done) | (simp; omega))
  have hWA : Blk ((w.alloc (.cells #[vn, vl] 34)).alloc (.cells #[.int .i64 a, .int .i64 b, .int .i64 c, .int .i64 d] 36)) w.heap.size 34 #[vn, vl] := (Blk.newAt rfl).alloc _
  have hTA : Blk ((w.alloc (.cells #[vn, vl] 34)).alloc (.cells #[.int .i64 a, .int .i64 b, .int .i64 c, .int .i64 d] 36)) (w.heap.size + 1) 36 #[.int .i64 a, .int .i64 b, .int .i64 c, .int .i64 d] := Blk.newAt (by simp)
  have hfl := facesW_len ns ls
  go_enter Tryz.func11, Tryz.ntmps11
  go_wp2_with fail
  refine (iWhole_at vn vl ns ls _ _ (hn.below hba) (hl.below hba) h1).mono ?_
  rintro e w1 ⟨rfl, hs1⟩
  have hb1 := hba.trans (hs1.mono hba.size)
  have hW1 := hWA.below hs1 hWA.lt
  have hT1 := hTA.below hs1 hTA.lt
  (have x_0 := hW1.cell 0); (have x_1 := hW1.cell 1); simp only [List.getElem?_toArray, List.getElem?_cons_succ, List.getElem?_cons_zero] at x_0 x_1
  (have y_0 := hT1.cell 0); (have y_1 := hT1.cell 1); (have y_2 := hT1.cell 2); (have y_3 := hT1.cell 3); simp only [List.getElem?_toArray, List.getElem?_cons_succ, List.getElem?_cons_zero] at y_0 y_1 y_2 y_3
  have lw1 := hW1.lt
  have lt1 := hT1.lt
  go_wp2_with fail
  refine (iTariff_at a b c d _ _ h2).mono ?_
  rintro e w2 ⟨rfl, hs2⟩
  have hb2 := hb1.trans (hs2.mono hb1.size)
  have hW2 := hW1.below hs2 hW1.lt
  have hT2 := hT1.below hs2 hT1.lt
  clear x_0 x_1 y_0 y_1 y_2 y_3
  (have x_0 := hW2.cell 0); (have x_1 := hW2.cell 1); simp only [List.getElem?_toArray, List.getElem?_cons_succ, List.getElem?_cons_zero] at x_0 x_1
  (have y_0 := hT2.cell 0); (have y_1 := hT2.cell 1); (have y_2 := hT2.cell 2); (have y_3 := hT2.cell 3); simp only [List.getElem?_toArray, List.getElem?_cons_succ, List.getElem?_cons_zero] at y_0 y_1 y_2 y_3
  have lw2 := hW2.lt
  have lt2 := hT2.lt
  go_wp2_with fail
  refine (iFaces_any vn vl ns ls _ (hn.below hb2) (hl.below hb2)).mono ?_
  rintro e w3 ⟨v3, rfl, ho3, hs3⟩
  obtain ⟨A3, c3, rfl⟩ := ho3.form
  have hb3 := hb2.trans (hs3.mono hb2.size)
  have hW3 := hW2.below hs3 hW2.lt
  have hT3 := hT2.below hs3 hT2.lt
  clear x_0 x_1 y_0 y_1 y_2 y_3
  (have x_0 := hW3.cell 0); (have x_1 := hW3.cell 1); simp only [List.getElem?_toArray, List.getElem?_cons_succ, List.getElem?_cons_zero] at x_0 x_1
  (have y_0 := hT3.cell 0); (have y_1 := hT3.cell 1); (have y_2 := hT3.cell 2); (have y_3 := hT3.cell 3); simp only [List.getElem?_toArray, List.getElem?_cons_succ, List.getElem?_cons_zero] at y_0 y_1 y_2 y_3
  have lw3 := hW3.lt
  have lt3 := hT3.lt
  go_wp2_with fail
  refine (iRise_at vp zs _ _ _ (hp.below hb3) (by omega) (by omega) h3).mono ?_
  rintro e w4 ⟨rfl, hs4⟩
  have hb4 := hb3.trans (hs4.mono hb3.size)
  have hW4 := hW3.below hs4 hW3.lt
  have hT4 := hT3.below hs4 hT3.lt
  clear x_0 x_1 y_0 y_1 y_2 y_3
  (have x_0 := hW4.cell 0); (have x_1 := hW4.cell 1); simp only [List.getElem?_toArray, List.getElem?_cons_succ, List.getElem?_cons_zero] at x_0 x_1
  (have y_0 := hT4.cell 0); (have y_1 := hT4.cell 1); (have y_2 := hT4.cell 2); (have y_3 := hT4.cell 3); simp only [List.getElem?_toArray, List.getElem?_cons_succ, List.getElem?_cons_zero] at y_0 y_1 y_2 y_3
  have lw4 := hW4.lt
  have lt4 := hT4.lt
  go_wp2
  go_ret
  exact ⟨rfl, hb4⟩

set_option maxHeartbeats 8000000 in
set_option maxRecDepth 100000 in
theorem iBill_nohas (vn vl vp : Value) (ns ls : List Pr) (a b c d : Int) (zs : List Int) (w : World) (hn : RP w vn ns) (hl : RP w vl ls) (hp : RI w vp zs) (h1 : wholeB ns ls = true) (h2 : tariffB a b c d = true) (h3 : riseB zs (((facesW ns ls).length : Int) - 1) = true) (h4 : decide (outerW ns ls ∈ zs) = true) :
    Calls Tryz.prog 11 #[.agg #[vn, vl], .agg #[.int .i64 a, .int .i64 b, .int .i64 c, .int .i64 d], vp] w fun e w' => e = .returned (.int .i64 (-1)) ∧ Below w.heap.size w w' := by
  have hba : Below w.heap.size w ((w.alloc (.cells #[vn, vl] 34)).alloc (.cells #[.int .i64 a, .int .i64 b, .int .i64 c, .int .i64 d] 36)) := by (repeat' (first | (with_reducible exact Below.refl _ _) | (with_reducible assumption) | (with_reducible refine Below.drew ?_) | (with_reducible refine below_drewN ?_ _) | (with_reducible refine Below.alloc ?_ ?_ _) | (with_reducible refine Below.setCell ?_ ?_ _) | (with_reducible refine Below.step (by assumption) ?_ ?_))); all_goals (first | omega | (simp; done) | (simp; omega))
  have hWA : Blk ((w.alloc (.cells #[vn, vl] 34)).alloc (.cells #[.int .i64 a, .int .i64 b, .int .i64 c, .int .i64 d] 36)) w.heap.size 34 #[vn, vl] := (Blk.newAt rfl).alloc _
  have hTA : Blk ((w.alloc (.cells #[vn, vl] 34)).alloc (.cells #[.int .i64 a, .int .i64 b, .int .i64 c, .int .i64 d] 36)) (w.heap.size + 1) 36 #[.int .i64 a, .int .i64 b, .int .i64 c, .int .i64 d] := Blk.newAt (by simp)
  have hfl := facesW_len ns ls
  go_enter Tryz.func11, Tryz.ntmps11
  go_wp2_with fail
  refine (iWhole_at vn vl ns ls _ _ (hn.below hba) (hl.below hba) h1).mono ?_
  rintro e w1 ⟨rfl, hs1⟩
  have hb1 := hba.trans (hs1.mono hba.size)
  have hW1 := hWA.below hs1 hWA.lt
  have hT1 := hTA.below hs1 hTA.lt
  (have x_0 := hW1.cell 0); (have x_1 := hW1.cell 1); simp only [List.getElem?_toArray, List.getElem?_cons_succ, List.getElem?_cons_zero] at x_0 x_1
  (have y_0 := hT1.cell 0); (have y_1 := hT1.cell 1); (have y_2 := hT1.cell 2); (have y_3 := hT1.cell 3); simp only [List.getElem?_toArray, List.getElem?_cons_succ, List.getElem?_cons_zero] at y_0 y_1 y_2 y_3
  have lw1 := hW1.lt
  have lt1 := hT1.lt
  go_wp2_with fail
  refine (iTariff_at a b c d _ _ h2).mono ?_
  rintro e w2 ⟨rfl, hs2⟩
  have hb2 := hb1.trans (hs2.mono hb1.size)
  have hW2 := hW1.below hs2 hW1.lt
  have hT2 := hT1.below hs2 hT1.lt
  clear x_0 x_1 y_0 y_1 y_2 y_3
  (have x_0 := hW2.cell 0); (have x_1 := hW2.cell 1); simp only [List.getElem?_toArray, List.getElem?_cons_succ, List.getElem?_cons_zero] at x_0 x_1
  (have y_0 := hT2.cell 0); (have y_1 := hT2.cell 1); (have y_2 := hT2.cell 2); (have y_3 := hT2.cell 3); simp only [List.getElem?_toArray, List.getElem?_cons_succ, List.getElem?_cons_zero] at y_0 y_1 y_2 y_3
  have lw2 := hW2.lt
  have lt2 := hT2.lt
  go_wp2_with fail
  refine (iFaces_any vn vl ns ls _ (hn.below hb2) (hl.below hb2)).mono ?_
  rintro e w3 ⟨v3, rfl, ho3, hs3⟩
  obtain ⟨A3, c3, rfl⟩ := ho3.form
  have hb3 := hb2.trans (hs3.mono hb2.size)
  have hW3 := hW2.below hs3 hW2.lt
  have hT3 := hT2.below hs3 hT2.lt
  clear x_0 x_1 y_0 y_1 y_2 y_3
  (have x_0 := hW3.cell 0); (have x_1 := hW3.cell 1); simp only [List.getElem?_toArray, List.getElem?_cons_succ, List.getElem?_cons_zero] at x_0 x_1
  (have y_0 := hT3.cell 0); (have y_1 := hT3.cell 1); (have y_2 := hT3.cell 2); (have y_3 := hT3.cell 3); simp only [List.getElem?_toArray, List.getElem?_cons_succ, List.getElem?_cons_zero] at y_0 y_1 y_2 y_3
  have lw3 := hW3.lt
  have lt3 := hT3.lt
  go_wp2_with fail
  refine (iRise_at vp zs _ _ _ (hp.below hb3) (by omega) (by omega) h3).mono ?_
  rintro e w4 ⟨rfl, hs4⟩
  have hb4 := hb3.trans (hs4.mono hb3.size)
  have hW4 := hW3.below hs4 hW3.lt
  have hT4 := hT3.below hs4 hT3.lt
  clear x_0 x_1 y_0 y_1 y_2 y_3
  (have x_0 := hW4.cell 0); (have x_1 := hW4.cell 1); simp only [List.getElem?_toArray, List.getElem?_cons_succ, List.getElem?_cons_zero] at x_0 x_1
  (have y_0 := hT4.cell 0); (have y_1 := hT4.cell 1); (have y_2 := hT4.cell 2); (have y_3 := hT4.cell 3); simp only [List.getElem?_toArray, List.getElem?_cons_succ, List.getElem?_cons_zero] at y_0 y_1 y_2 y_3
  have lw4 := hW4.lt
  have lt4 := hT4.lt
  go_wp2_with fail
  refine (iOuter_any vn vl ns ls _ (hn.below hb4) (hl.below hb4)).mono ?_
  rintro e w5 ⟨rfl, hs5⟩
  have hb5 := hb4.trans (hs5.mono hb4.size)
  have hW5 := hW4.below hs5 hW4.lt
  have hT5 := hT4.below hs5 hT4.lt
  clear x_0 x_1 y_0 y_1 y_2 y_3
  (have x_0 := hW5.cell 0); (have x_1 := hW5.cell 1); simp only [List.getElem?_toArray, List.getElem?_cons_succ, List.getElem?_cons_zero] at x_0 x_1
  (have y_0 := hT5.cell 0); (have y_1 := hT5.cell 1); (have y_2 := hT5.cell 2); (have y_3 := hT5.cell 3); simp only [List.getElem?_toArray, List.getElem?_cons_succ, List.getElem?_cons_zero] at y_0 y_1 y_2 y_3
  have lw5 := hW5.lt
  have lt5 := hT5.lt
  go_wp2_with fail
  refine (iHas_at vp zs _ _ _ (hp.below hb5) h4).mono ?_
  rintro e w6 ⟨rfl, rfl⟩
  have hb6 := hb5
  have hW6 := hW5
  have hT6 := hT5
  go_wp2
  go_ret
  exact ⟨rfl, hb6⟩

set_option maxHeartbeats 8000000 in
set_option maxRecDepth 100000 in
theorem iBill_yes (vn vl vp : Value) (ns ls : List Pr) (a b c d : Int) (zs : List Int) (w : World) (hn : RP w vn ns) (hl : RP w vl ls) (hp : RI w vp zs) (h1 : wholeB ns ls = true) (h2 : tariffB a b c d = true) (h3 : riseB zs (((facesW ns ls).length : Int) - 1) = true) (h4 : decide (outerW ns ls ∈ zs) = false) :
    Calls Tryz.prog 11 #[.agg #[vn, vl], .agg #[.int .i64 a, .int .i64 b, .int .i64 c, .int .i64 d], vp] w fun e w' => e = .returned (.int .i64 (a * totalW ns ls + b * lenW ns ls + c * jointsI ns ls + d * sumA ns ls zs zs.length)) ∧ Below w.heap.size w w' := by
  have hba : Below w.heap.size w ((w.alloc (.cells #[vn, vl] 34)).alloc (.cells #[.int .i64 a, .int .i64 b, .int .i64 c, .int .i64 d] 36)) := by (repeat' (first | (with_reducible exact Below.refl _ _) | (with_reducible assumption) | (with_reducible refine Below.drew ?_) | (with_reducible refine below_drewN ?_ _) | (with_reducible refine Below.alloc ?_ ?_ _) | (with_reducible refine Below.setCell ?_ ?_ _) | (with_reducible refine Below.step (by assumption) ?_ ?_))); all_goals (first | omega | (simp; done) | (simp; omega))
  have hWA : Blk ((w.alloc (.cells #[vn, vl] 34)).alloc (.cells #[.int .i64 a, .int .i64 b, .int .i64 c, .int .i64 d] 36)) w.heap.size 34 #[vn, vl] := (Blk.newAt rfl).alloc _
  have hTA : Blk ((w.alloc (.cells #[vn, vl] 34)).alloc (.cells #[.int .i64 a, .int .i64 b, .int .i64 c, .int .i64 d] 36)) (w.heap.size + 1) 36 #[.int .i64 a, .int .i64 b, .int .i64 c, .int .i64 d] := Blk.newAt (by simp)
  have hfl := facesW_len ns ls
  have hF1 := facesW_pos h1
  obtain ⟨⟨a0, a1⟩, ⟨b0, b1⟩, ⟨c0, c1⟩, ⟨d0, d1⟩⟩ := tariffB_bd h2
  have hr3 := riseB_true.1 h3
  have hzl : zs.length ≤ 40 := by
    rcases Nat.eq_zero_or_pos zs.length with h | h
    · omega
    · have g1 := rise_len zs.length (Nat.le_refl _) hr3 h
      have g2 := (hr3 (zs.length - 1) (by omega)).1
      omega
  have HSB := Lib.hid (sumA_bd ns ls zs)
  have HAB := Lib.hid (fun f => areaW_bd ns ls f)
  have HS0 : Hid (sumA ns ls zs 0 = 0) := Lib.hid rfl
  have HSS : Hid (∀ k, sumA ns ls zs (k + 1) = sumA ns ls zs k + areaW ns ls (zs.getD k 0)) := Lib.hid (fun _ => rfl)
  have tb := areaW_bd ns ls (outerW ns ls)
  rw [show areaW ns ls (outerW ns ls) = totalW ns ls from rfl] at tb
  have lb := lenW_bd ns ls
  have jb := jointsI_bd ns ls
  obtain ⟨T, hT⟩ : ∃ T, totalW ns ls = T := ⟨_, rfl⟩
  obtain ⟨L, hL⟩ : ∃ L, lenW ns ls = L := ⟨_, rfl⟩
  obtain ⟨J, hJ⟩ : ∃ J, jointsI ns ls = J := ⟨_, rfl⟩
  rw [hT] at tb
  rw [hL] at lb
  rw [hJ] at jb
  obtain ⟨m1, m2⟩ := mulT (a := a) (x := T) (U := 16000) a0 a1 (by omega) (by omega)
  obtain ⟨m3, m4⟩ := mulT (a := b) (x := L) (U := 16000) b0 b1 (by omega) (by omega)
  obtain ⟨m5, m6⟩ := mulT (a := c) (x := J) (U := 16000) c0 c1 (by omega) (by omega)
  have HT := Lib.hid hT
  have HL := Lib.hid hL
  have HJ := Lib.hid hJ
  have HJJ : Hid (Hid (jointsI ns ls = J)) := Lib.hid HJ
  rw [HT.out, HL.out, HJ.out]
  clear hT hL hJ tb lb jb hr3
  have HP := Lib.hid hp
  go_enter Tryz.func11, Tryz.ntmps11
  go_wp2_with fail
  refine (iWhole_at vn vl ns ls _ _ (hn.below hba) (hl.below hba) h1).mono ?_
  rintro e w1 ⟨rfl, hs1⟩
  have hb1 := hba.trans (hs1.mono hba.size)
  have hW1 := hWA.below hs1 hWA.lt
  have hT1 := hTA.below hs1 hTA.lt
  (have x_0 := hW1.cell 0); (have x_1 := hW1.cell 1); simp only [List.getElem?_toArray, List.getElem?_cons_succ, List.getElem?_cons_zero] at x_0 x_1
  (have y_0 := hT1.cell 0); (have y_1 := hT1.cell 1); (have y_2 := hT1.cell 2); (have y_3 := hT1.cell 3); simp only [List.getElem?_toArray, List.getElem?_cons_succ, List.getElem?_cons_zero] at y_0 y_1 y_2 y_3
  have lw1 := hW1.lt
  have lt1 := hT1.lt
  go_wp2_with fail
  refine (iTariff_at a b c d _ _ h2).mono ?_
  rintro e w2 ⟨rfl, hs2⟩
  have hb2 := hb1.trans (hs2.mono hb1.size)
  have hW2 := hW1.below hs2 hW1.lt
  have hT2 := hT1.below hs2 hT1.lt
  clear x_0 x_1 y_0 y_1 y_2 y_3
  (have x_0 := hW2.cell 0); (have x_1 := hW2.cell 1); simp only [List.getElem?_toArray, List.getElem?_cons_succ, List.getElem?_cons_zero] at x_0 x_1
  (have y_0 := hT2.cell 0); (have y_1 := hT2.cell 1); (have y_2 := hT2.cell 2); (have y_3 := hT2.cell 3); simp only [List.getElem?_toArray, List.getElem?_cons_succ, List.getElem?_cons_zero] at y_0 y_1 y_2 y_3
  have lw2 := hW2.lt
  have lt2 := hT2.lt
  go_wp2_with fail
  refine (iFaces_any vn vl ns ls _ (hn.below hb2) (hl.below hb2)).mono ?_
  rintro e w3 ⟨v3, rfl, ho3, hs3⟩
  obtain ⟨A3, c3, rfl⟩ := ho3.form
  have hb3 := hb2.trans (hs3.mono hb2.size)
  have hW3 := hW2.below hs3 hW2.lt
  have hT3 := hT2.below hs3 hT2.lt
  clear x_0 x_1 y_0 y_1 y_2 y_3
  (have x_0 := hW3.cell 0); (have x_1 := hW3.cell 1); simp only [List.getElem?_toArray, List.getElem?_cons_succ, List.getElem?_cons_zero] at x_0 x_1
  (have y_0 := hT3.cell 0); (have y_1 := hT3.cell 1); (have y_2 := hT3.cell 2); (have y_3 := hT3.cell 3); simp only [List.getElem?_toArray, List.getElem?_cons_succ, List.getElem?_cons_zero] at y_0 y_1 y_2 y_3
  have lw3 := hW3.lt
  have lt3 := hT3.lt
  go_wp2_with fail
  refine (iRise_at vp zs _ _ _ (hp.below hb3) (by omega) (by omega) h3).mono ?_
  rintro e w4 ⟨rfl, hs4⟩
  have hb4 := hb3.trans (hs4.mono hb3.size)
  have hW4 := hW3.below hs4 hW3.lt
  have hT4 := hT3.below hs4 hT3.lt
  clear x_0 x_1 y_0 y_1 y_2 y_3
  (have x_0 := hW4.cell 0); (have x_1 := hW4.cell 1); simp only [List.getElem?_toArray, List.getElem?_cons_succ, List.getElem?_cons_zero] at x_0 x_1
  (have y_0 := hT4.cell 0); (have y_1 := hT4.cell 1); (have y_2 := hT4.cell 2); (have y_3 := hT4.cell 3); simp only [List.getElem?_toArray, List.getElem?_cons_succ, List.getElem?_cons_zero] at y_0 y_1 y_2 y_3
  have lw4 := hW4.lt
  have lt4 := hT4.lt
  go_wp2_with fail
  refine (iOuter_any vn vl ns ls _ (hn.below hb4) (hl.below hb4)).mono ?_
  rintro e w5 ⟨rfl, hs5⟩
  have hb5 := hb4.trans (hs5.mono hb4.size)
  have hW5 := hW4.below hs5 hW4.lt
  have hT5 := hT4.below hs5 hT4.lt
  clear x_0 x_1 y_0 y_1 y_2 y_3
  (have x_0 := hW5.cell 0); (have x_1 := hW5.cell 1); simp only [List.getElem?_toArray, List.getElem?_cons_succ, List.getElem?_cons_zero] at x_0 x_1
  (have y_0 := hT5.cell 0); (have y_1 := hT5.cell 1); (have y_2 := hT5.cell 2); (have y_3 := hT5.cell 3); simp only [List.getElem?_toArray, List.getElem?_cons_succ, List.getElem?_cons_zero] at y_0 y_1 y_2 y_3
  have lw5 := hW5.lt
  have lt5 := hT5.lt
  go_wp2_with fail
  refine (iHas_at vp zs _ _ _ (hp.below hb5) h4).mono ?_
  rintro e w6 ⟨rfl, rfl⟩
  have hb6 := hb5
  have hW6 := hW5
  have hT6 := hT5
  clear h1 h2 h3 h4
  obtain ⟨Ap, cp, rfl, hcp, hmp, hcellp⟩ := hp.form
  unfold maxLen at hmp
  have HCP := Lib.hid hcellp
  clear hcellp
  go_wp2
  go_loopw [7, 35] (fun n x wr => ∃ k : Nat, k ≤ zs.length ∧ x = .int .i64 k ∧ n = .int .i64 (sumA ns ls zs k) ∧ Blk wr w.heap.size 34 #[vn, vl] ∧ Blk wr (w.heap.size + 1) 36 #[.int .i64 a, .int .i64 b, .int .i64 c, .int .i64 d] ∧ Below w.heap.size w wr) (fun _ x _ => zs.length - (intOf x).toNat)
  case atStart => exact ⟨0, Nat.zero_le _, rfl, by rw [HS0.out], hW6, hT6, hb6⟩
  case round =>
    clear x_0 x_1 y_0 y_1 y_2 y_3
    obtain ⟨k, hk, rfl, rfl, hW, hTT, hbl⟩ := hrel
    have hsz := hW.lt
    have hst := hTT.lt
    (have x_0 := hW.cell 0); (have x_1 := hW.cell 1); simp only [List.getElem?_toArray, List.getElem?_cons_succ, List.getElem?_cons_zero] at x_0 x_1
    (have y_0 := hTT.cell 0); (have y_1 := hTT.cell 1); (have y_2 := hTT.cell 2); (have y_3 := hTT.cell 3); simp only [List.getElem?_toArray, List.getElem?_cons_succ, List.getElem?_cons_zero] at y_0 y_1 y_2 y_3
    by_cases hlt : k < zs.length
    · have hlt1 : (k : Int) < (zs.length : Int) := by omega
      have ik1 : (0 : Int) ≤ (k : Int) := by omega
      obtain ⟨b4, off4, rfl, hb4, hcl4⟩ := HCP.out (by omega)
      have hx := (hbl.cell (p := ⟨b4, off4 + k, none⟩) hb4).trans (hcl4 k hlt)
      have HS := Lib.hid (HSS.out k)
      have sb := HSB.out k
      have ab := HAB.out (zs.getD k 0)
      generalize zs.getD k 0 = z at *
      obtain ⟨q, hq⟩ : ∃ q, areaW ns ls z = q := ⟨_, rfl⟩
      rw [hq] at ab HS
      have HQ := Lib.hid hq
      clear hq hcl4
      generalize hSK : sumA ns ls zs k = SK at *
      have HSK := Lib.hid hSK
      clear hSK
      go_wp2_with fail
      refine (iArea_at vn vl ns ls z q _ (hn.below hbl) (hl.below hbl) HQ.out).mono ?_
      rintro e w9 ⟨rfl, hs9⟩
      have hb9 := hbl.trans (hs9.mono hbl.size)
      have hW9 := hW.below hs9 hsz
      have hT9 := hTT.below hs9 hst
      clear hW hTT hbl hs9 x_0 x_1 y_0 y_1 y_2 y_3
      go_wp2
      go_roundw
      case rel => exact ⟨k + 1, by omega, by go_num, by rw [HS.out], hW9, hT9, hb9⟩
      case measure => simp [intOf]; omega
    · have hkk : k = zs.length := by omega
      subst hkk
      have sb := HSB.out zs.length
      generalize hSK : sumA ns ls zs zs.length = SK at *
      have HSK := Lib.hid hSK
      clear hSK
      obtain ⟨m7, m8⟩ := mulT (a := d) (x := SK) (U := 640000) d0 d1 (by omega) (by omega)
      go_wp2_with fail
      (refine wp_region_quietG (by kernel_rfl) (by kernel_rfl) (fun hG => ?_))
      repeat (go_big_quiet_step (first | (go_at_call 45; exact quietG (iTotal_at vn vl ns ls T _ (hn.below (hbl.trans (Below.mono (Grw.below _) hbl.size))) (hl.below (hbl.trans (Below.mono (Grw.below _) hbl.size))) HT.out)) | (go_at_call 46; exact quietG (iLen_at vn vl ns ls L _ (hn.below (hbl.trans (Below.mono (Grw.below _) hbl.size))) (hl.below (hbl.trans (Below.mono (Grw.below _) hbl.size))) HL.out)) | (go_at_call 23; exact quietG (iJoints_at vn vl ns ls J _ (hn.below (hbl.trans (Below.mono (Grw.below _) hbl.size))) (hl.below (hbl.trans (Below.mono (Grw.below _) hbl.size))) HJJ.out))))
      refine wpQuiet_nil ?_
      clear hG
      rintro w9 ⟨⟨_, hs9⟩, rfl⟩
      go_wp2
      go_ret
      exact ⟨ret_int (by rw [HSK.out]), hbl.trans (hs9.mono hbl.size)⟩

theorem iBill_any (vn vl vp : Value) (ns ls : List Pr) (a b c d : Int) (zs : List Int) (w : World) (hn : RP w vn ns) (hl : RP w vl ls) (hp : RI w vp zs) :
    Calls Tryz.prog 11 #[.agg #[vn, vl], .agg #[.int .i64 a, .int .i64 b, .int .i64 c, .int .i64 d], vp] w fun e w' => e = .returned (.int .i64 (billI ns ls a b c d zs)) ∧ Below w.heap.size w w' := by
  cases h1 : wholeB ns ls
  · rw [bill_no1 h1]; exact iBill_nowhole vn vl vp ns ls a b c d zs w hn hl hp h1
  cases h2 : tariffB a b c d
  · rw [bill_no2 h2]; exact iBill_notariff vn vl vp ns ls a b c d zs w hn hl hp h1 h2
  cases h3 : riseB zs (((facesW ns ls).length : Int) - 1)
  · rw [bill_no3 h3]; exact iBill_norise vn vl vp ns ls a b c d zs w hn hl hp h1 h2 h3
  cases h4 : decide (outerW ns ls ∈ zs)
  · rw [bill_yes h1 h2 h3 h4]; exact iBill_yes vn vl vp ns ls a b c d zs w hn hl hp h1 h2 h3 h4
  · rw [bill_no4 h4]; exact iBill_nohas vn vl vp ns ls a b c d zs w hn hl hp h1 h2 h3 h4

set_option maxHeartbeats 8000000 in
set_option maxRecDepth 100000 in
theorem sBill_nowhole (vn vl vp : Value) (ns ls : List Pr) (a b c d : Int) (zs : List Int) (w : World) (hn : RP w vn ns) (hl : RP w vl ls) (hp : RI w vp zs) (h1 : wholeB ns ls = false) :
    Calls Tryz.prog 7 #[.agg #[vn, vl], .agg #[.int .i64 a, .int .i64 b, .int .i64 c, .int .i64 d], vp] w fun e w' => e = .returned (.int .i64 (-1)) ∧ Below w.heap.size w w' := by
  have hba : Below w.heap.size w ((w.alloc (.cells #[vn, vl] 34)).alloc (.cells #[.int .i64 a, .int .i64 b, .int .i64 c, .int .i64 d] 36)) := by (repeat' (first | (with_reducible exact Below.refl _ _) | (with_reducible assumption) | (with_reducible refine Below.drew ?_) | (with_reducible refine below_drewN ?_ _) | (with_reducible refine Below.alloc ?_ ?_ _) | (with_reducible refine Below.setCell ?_ ?_ _) | (with_reducible refine Below.step (by assumption) ?_ ?_))); all_goals (first | omega | (simp; done) | (simp; omega))
  have hWA : Blk ((w.alloc (.cells #[vn, vl] 34)).alloc (.cells #[.int .i64 a, .int .i64 b, .int .i64 c, .int .i64 d] 36)) w.heap.size 34 #[vn, vl] := (Blk.newAt rfl).alloc _
  have hTA : Blk ((w.alloc (.cells #[vn, vl] 34)).alloc (.cells #[.int .i64 a, .int .i64 b, .int .i64 c, .int .i64 d] 36)) (w.heap.size + 1) 36 #[.int .i64 a, .int .i64 b, .int .i64 c, .int .i64 d] := Blk.newAt (by simp)
  have hfl := facesW_len ns ls
  have hF0 : ((facesW ns ls).length : Int) = 0 := by rw [facesW_zero h1]; rfl
  have e0 : (((facesW ns ls).length : Int) == 0) = true := by rw [hF0]; rfl
  go_enter Tryz.func7, Tryz.ntmps7
  go_wp2_with fail
  refine (sFaces_any vn vl ns ls _ (hn.below hba) (hl.below hba)).mono ?_
  rintro e w1 ⟨v1, rfl, ho1, hs1⟩
  rw [facesW_zero h1] at ho1
  obtain ⟨A1, c1, rfl⟩ := ho1.form
  go_wp2
  go_ret
  exact ⟨rfl, hba.trans (hs1.mono hba.size)⟩

set_option maxHeartbeats 8000000 in
set_option maxRecDepth 100000 in
theorem sBill_notariff (vn vl vp : Value) (ns ls : List Pr) (a b c d : Int) (zs : List Int) (w : World) (hn : RP w vn ns) (hl : RP w vl ls) (hp : RI w vp zs) (h1 : wholeB ns ls = true) (h2 : tariffB a b c d = false) :
    Calls Tryz.prog 7 #[.agg #[vn, vl], .agg #[.int .i64 a, .int .i64 b, .int .i64 c, .int .i64 d], vp] w fun e w' => e = .returned (.int .i64 (-1)) ∧ Below w.heap.size w w' := by
  have hba : Below w.heap.size w ((w.alloc (.cells #[vn, vl] 34)).alloc (.cells #[.int .i64 a, .int .i64 b, .int .i64 c, .int .i64 d] 36)) := by (repeat' (first | (with_reducible exact Below.refl _ _) | (with_reducible assumption) | (with_reducible refine Below.drew ?_) | (with_reducible refine below_drewN ?_ _) | (with_reducible refine Below.alloc ?_ ?_ _) | (with_reducible refine Below.setCell ?_ ?_ _) | (with_reducible refine Below.step (by assumption) ?_ ?_))); all_goals (first | omega | (simp; done) | (simp; omega))
  have hWA : Blk ((w.alloc (.cells #[vn, vl] 34)).alloc (.cells #[.int .i64 a, .int .i64 b, .int .i64 c, .int .i64 d] 36)) w.heap.size 34 #[vn, vl] := (Blk.newAt rfl).alloc _
  have hTA : Blk ((w.alloc (.cells #[vn, vl] 34)).alloc (.cells #[.int .i64 a, .int .i64 b, .int .i64 c, .int .i64 d] 36)) (w.heap.size + 1) 36 #[.int .i64 a, .int .i64 b, .int .i64 c, .int .i64 d] := Blk.newAt (by simp)
  have hfl := facesW_len ns ls
  have hF1 := facesW_pos h1
  have e0 : (((facesW ns ls).length : Int) == 0) = false := beq_eq_false_iff_ne.2 (by omega)
  go_enter Tryz.func7, Tryz.ntmps7
  go_wp2_with fail
  refine (sFaces_any vn vl ns ls _ (hn.below hba) (hl.below hba)).mono ?_
  rintro e w1 ⟨v1, rfl, ho1, hs1⟩
  obtain ⟨A1, c1, rfl⟩ := ho1.form
  have hb1 := hba.trans (hs1.mono hba.size)
  have hW1 := hWA.below hs1 hWA.lt
  have hT1 := hTA.below hs1 hTA.lt
  (have x_0 := hW1.cell 0); (have x_1 := hW1.cell 1); simp only [List.getElem?_toArray, List.getElem?_cons_succ, List.getElem?_cons_zero] at x_0 x_1
  (have y_0 := hT1.cell 0); (have y_1 := hT1.cell 1); (have y_2 := hT1.cell 2); (have y_3 := hT1.cell 3); simp only [List.getElem?_toArray, List.getElem?_cons_succ, List.getElem?_cons_zero] at y_0 y_1 y_2 y_3
  have lw1 := hW1.lt
  have lt1 := hT1.lt
  go_wp2_with fail
  refine (sTariff_at a b c d _ _ h2).mono ?_
  rintro e w2 ⟨rfl, hs2⟩
  have hb2 := hb1.trans (hs2.mono hb1.size)
  have hW2 := hW1.below hs2 hW1.lt
  have hT2 := hT1.below hs2 hT1.lt
  clear x_0 x_1 y_0 y_1 y_2 y_3
  (have x_0 := hW2.cell 0); (have x_1 := hW2.cell 1); simp only [List.getElem?_toArray, List.getElem?_cons_succ, List.getElem?_cons_zero] at x_0 x_1
  (have y_0 := hT2.cell 0); (have y_1 := hT2.cell 1); (have y_2 := hT2.cell 2); (have y_3 := hT2.cell 3); simp only [List.getElem?_toArray, List.getElem?_cons_succ, List.getElem?_cons_zero] at y_0 y_1 y_2 y_3
  have lw2 := hW2.lt
  have lt2 := hT2.lt
  go_wp2
  go_ret
  exact ⟨rfl, hb2⟩

set_option maxHeartbeats 8000000 in
set_option maxRecDepth 100000 in
theorem sBill_norise (vn vl vp : Value) (ns ls : List Pr) (a b c d : Int) (zs : List Int) (w : World) (hn : RP w vn ns) (hl : RP w vl ls) (hp : RI w vp zs) (h1 : wholeB ns ls = true) (h2 : tariffB a b c d = true) (h3 : riseB zs (((facesW ns ls).length : Int) - 1) = false) :
    Calls Tryz.prog 7 #[.agg #[vn, vl], .agg #[.int .i64 a, .int .i64 b, .int .i64 c, .int .i64 d], vp] w fun e w' => e = .returned (.int .i64 (-1)) ∧ Below w.heap.size w w' := by
  have hba : Below w.heap.size w ((w.alloc (.cells #[vn, vl] 34)).alloc (.cells #[.int .i64 a, .int .i64 b, .int .i64 c, .int .i64 d] 36)) := by (repeat' (first | (with_reducible exact Below.refl _ _) | (with_reducible assumption) | (with_reducible refine Below.drew ?_) | (with_reducible refine below_drewN ?_ _) | (with_reducible refine Below.alloc ?_ ?_ _) | (with_reducible refine Below.setCell ?_ ?_ _) | (with_reducible refine Below.step (by assumption) ?_ ?_))); all_goals (first | omega | (simp; done) | (simp; omega))
  have hWA : Blk ((w.alloc (.cells #[vn, vl] 34)).alloc (.cells #[.int .i64 a, .int .i64 b, .int .i64 c, .int .i64 d] 36)) w.heap.size 34 #[vn, vl] := (Blk.newAt rfl).alloc _
  have hTA : Blk ((w.alloc (.cells #[vn, vl] 34)).alloc (.cells #[.int .i64 a, .int .i64 b, .int .i64 c, .int .i64 d] 36)) (w.heap.size + 1) 36 #[.int .i64 a, .int .i64 b, .int .i64 c, .int .i64 d] := Blk.newAt (by simp)
  have hfl := facesW_len ns ls
  have hF1 := facesW_pos h1
  have e0 : (((facesW ns ls).length : Int) == 0) = false := beq_eq_false_iff_ne.2 (by omega)
  go_enter Tryz.func7, Tryz.ntmps7
  go_wp2_with fail
  refine (sFaces_any vn vl ns ls _ (hn.below hba) (hl.below hba)).mono ?_
  rintro e w1 ⟨v1, rfl, ho1, hs1⟩
  obtain ⟨A1, c1, rfl⟩ := ho1.form
  have hb1 := hba.trans (hs1.mono hba.size)
  have hW1 := hWA.below hs1 hWA.lt
  have hT1 := hTA.below hs1 hTA.lt
  (have x_0 := hW1.cell 0); (have x_1 := hW1.cell 1); simp only [List.getElem?_toArray, List.getElem?_cons_succ, List.getElem?_cons_zero] at x_0 x_1
  (have y_0 := hT1.cell 0); (have y_1 := hT1.cell 1); (have y_2 := hT1.cell 2); (have y_3 := hT1.cell 3); simp only [List.getElem?_toArray, List.getElem?_cons_succ, List.getElem?_cons_zero] at y_0 y_1 y_2 y_3
  have lw1 := hW1.lt
  have lt1 := hT1.lt
  go_wp2_with fail
  refine (sTariff_at a b c d _ _ h2).mono ?_
  rintro e w2 ⟨rfl, hs2⟩
  have hb2 := hb1.trans (hs2.mono hb1.size)
  have hW2 := hW1.below hs2 hW1.lt
  have hT2 := hT1.below hs2 hT1.lt
  clear x_0 x_1 y_0 y_1 y_2 y_3
  (have x_0 := hW2.cell 0); (have x_1 := hW2.cell 1); simp only [List.getElem?_toArray, List.getElem?_cons_succ, List.getElem?_cons_zero] at x_0 x_1
  (have y_0 := hT2.cell 0); (have y_1 := hT2.cell 1); (have y_2 := hT2.cell 2); (have y_3 := hT2.cell 3); simp only [List.getElem?_toArray, List.getElem?_cons_succ, List.getElem?_cons_zero] at y_0 y_1 y_2 y_3
  have lw2 := hW2.lt
  have lt2 := hT2.lt
  go_wp2_with fail
  refine (sRise_at vp zs _ _ _ (hp.below hb2) (by omega) (by omega) h3).mono ?_
  rintro e w3 ⟨rfl, hs3⟩
  have hb3 := hb2.trans (hs3.mono hb2.size)
  have hW3 := hW2.below hs3 hW2.lt
  have hT3 := hT2.below hs3 hT2.lt
  clear x_0 x_1 y_0 y_1 y_2 y_3
  (have x_0 := hW3.cell 0); (have x_1 := hW3.cell 1); simp only [List.getElem?_toArray, List.getElem?_cons_succ, List.getElem?_cons_zero] at x_0 x_1
  (have y_0 := hT3.cell 0); (have y_1 := hT3.cell 1); (have y_2 := hT3.cell 2); (have y_3 := hT3.cell 3); simp only [List.getElem?_toArray, List.getElem?_cons_succ, List.getElem?_cons_zero] at y_0 y_1 y_2 y_3
  have lw3 := hW3.lt
  have lt3 := hT3.lt
  go_wp2
  go_ret
  exact ⟨rfl, hb3⟩

set_option maxHeartbeats 8000000 in
set_option maxRecDepth 100000 in
theorem sBill_nohas (vn vl vp : Value) (ns ls : List Pr) (a b c d : Int) (zs : List Int) (w : World) (hn : RP w vn ns) (hl : RP w vl ls) (hp : RI w vp zs) (h1 : wholeB ns ls = true) (h2 : tariffB a b c d = true) (h3 : riseB zs (((facesW ns ls).length : Int) - 1) = true) (h4 : decide (outerW ns ls ∈ zs) = true) :
    Calls Tryz.prog 7 #[.agg #[vn, vl], .agg #[.int .i64 a, .int .i64 b, .int .i64 c, .int .i64 d], vp] w fun e w' => e = .returned (.int .i64 (-1)) ∧ Below w.heap.size w w' := by
  have hba : Below w.heap.size w ((w.alloc (.cells #[vn, vl] 34)).alloc (.cells #[.int .i64 a, .int .i64 b, .int .i64 c, .int .i64 d] 36)) := by (repeat' (first | (with_reducible exact Below.refl _ _) | (with_reducible assumption) | (with_reducible refine Below.drew ?_) | (with_reducible refine below_drewN ?_ _) | (with_reducible refine Below.alloc ?_ ?_ _) | (with_reducible refine Below.setCell ?_ ?_ _) | (with_reducible refine Below.step (by assumption) ?_ ?_))); all_goals (first | omega | (simp; done) | (simp; omega))
  have hWA : Blk ((w.alloc (.cells #[vn, vl] 34)).alloc (.cells #[.int .i64 a, .int .i64 b, .int .i64 c, .int .i64 d] 36)) w.heap.size 34 #[vn, vl] := (Blk.newAt rfl).alloc _
  have hTA : Blk ((w.alloc (.cells #[vn, vl] 34)).alloc (.cells #[.int .i64 a, .int .i64 b, .int .i64 c, .int .i64 d] 36)) (w.heap.size + 1) 36 #[.int .i64 a, .int .i64 b, .int .i64 c, .int .i64 d] := Blk.newAt (by simp)
  have hfl := facesW_len ns ls
  have hF1 := facesW_pos h1
  have e0 : (((facesW ns ls).length : Int) == 0) = false := beq_eq_false_iff_ne.2 (by omega)
  go_enter Tryz.func7, Tryz.ntmps7
  go_wp2_with fail
  refine (sFaces_any vn vl ns ls _ (hn.below hba) (hl.below hba)).mono ?_
  rintro e w1 ⟨v1, rfl, ho1, hs1⟩
  obtain ⟨A1, c1, rfl⟩ := ho1.form
  have hb1 := hba.trans (hs1.mono hba.size)
  have hW1 := hWA.below hs1 hWA.lt
  have hT1 := hTA.below hs1 hTA.lt
  (have x_0 := hW1.cell 0); (have x_1 := hW1.cell 1); simp only [List.getElem?_toArray, List.getElem?_cons_succ, List.getElem?_cons_zero] at x_0 x_1
  (have y_0 := hT1.cell 0); (have y_1 := hT1.cell 1); (have y_2 := hT1.cell 2); (have y_3 := hT1.cell 3); simp only [List.getElem?_toArray, List.getElem?_cons_succ, List.getElem?_cons_zero] at y_0 y_1 y_2 y_3
  have lw1 := hW1.lt
  have lt1 := hT1.lt
  go_wp2_with fail
  refine (sTariff_at a b c d _ _ h2).mono ?_
  rintro e w2 ⟨rfl, hs2⟩
  have hb2 := hb1.trans (hs2.mono hb1.size)
  have hW2 := hW1.below hs2 hW1.lt
  have hT2 := hT1.below hs2 hT1.lt
  clear x_0 x_1 y_0 y_1 y_2 y_3
  (have x_0 := hW2.cell 0); (have x_1 := hW2.cell 1); simp only [List.getElem?_toArray, List.getElem?_cons_succ, List.getElem?_cons_zero] at x_0 x_1
  (have y_0 := hT2.cell 0); (have y_1 := hT2.cell 1); (have y_2 := hT2.cell 2); (have y_3 := hT2.cell 3); simp only [List.getElem?_toArray, List.getElem?_cons_succ, List.getElem?_cons_zero] at y_0 y_1 y_2 y_3
  have lw2 := hW2.lt
  have lt2 := hT2.lt
  go_wp2_with fail
  refine (sRise_at vp zs _ _ _ (hp.below hb2) (by omega) (by omega) h3).mono ?_
  rintro e w3 ⟨rfl, hs3⟩
  have hb3 := hb2.trans (hs3.mono hb2.size)
  have hW3 := hW2.below hs3 hW2.lt
  have hT3 := hT2.below hs3 hT2.lt
  clear x_0 x_1 y_0 y_1 y_2 y_3
  (have x_0 := hW3.cell 0); (have x_1 := hW3.cell 1); simp only [List.getElem?_toArray, List.getElem?_cons_succ, List.getElem?_cons_zero] at x_0 x_1
  (have y_0 := hT3.cell 0); (have y_1 := hT3.cell 1); (have y_2 := hT3.cell 2); (have y_3 := hT3.cell 3); simp only [List.getElem?_toArray, List.getElem?_cons_succ, List.getElem?_cons_zero] at y_0 y_1 y_2 y_3
  have lw3 := hW3.lt
  have lt3 := hT3.lt
  go_wp2_with fail
  refine (sOuter_any vn vl ns ls _ (hn.below hb3) (hl.below hb3)).mono ?_
  rintro e w4 ⟨rfl, hs4⟩
  have hb4 := hb3.trans (hs4.mono hb3.size)
  have hW4 := hW3.below hs4 hW3.lt
  have hT4 := hT3.below hs4 hT3.lt
  clear x_0 x_1 y_0 y_1 y_2 y_3
  (have x_0 := hW4.cell 0); (have x_1 := hW4.cell 1); simp only [List.getElem?_toArray, List.getElem?_cons_succ, List.getElem?_cons_zero] at x_0 x_1
  (have y_0 := hT4.cell 0); (have y_1 := hT4.cell 1); (have y_2 := hT4.cell 2); (have y_3 := hT4.cell 3); simp only [List.getElem?_toArray, List.getElem?_cons_succ, List.getElem?_cons_zero] at y_0 y_1 y_2 y_3
  have lw4 := hW4.lt
  have lt4 := hT4.lt
  go_wp2_with fail
  refine (sHas_at vp zs _ _ _ (hp.below hb4) h4).mono ?_
  rintro e w5 ⟨rfl, rfl⟩
  have hb5 := hb4
  have hW5 := hW4
  have hT5 := hT4
  go_wp2
  go_ret
  exact ⟨rfl, hb5⟩

set_option maxHeartbeats 8000000 in
set_option maxRecDepth 100000 in
theorem sBill_yes (vn vl vp : Value) (ns ls : List Pr) (a b c d : Int) (zs : List Int) (w : World) (hn : RP w vn ns) (hl : RP w vl ls) (hp : RI w vp zs) (h1 : wholeB ns ls = true) (h2 : tariffB a b c d = true) (h3 : riseB zs (((facesW ns ls).length : Int) - 1) = true) (h4 : decide (outerW ns ls ∈ zs) = false) :
    Calls Tryz.prog 7 #[.agg #[vn, vl], .agg #[.int .i64 a, .int .i64 b, .int .i64 c, .int .i64 d], vp] w fun e w' => e = .returned (.int .i64 (a * totalW ns ls + b * lenW ns ls + c * jointsI ns ls + d * sumA ns ls zs zs.length)) ∧ Below w.heap.size w w' := by
  have hba : Below w.heap.size w ((w.alloc (.cells #[vn, vl] 34)).alloc (.cells #[.int .i64 a, .int .i64 b, .int .i64 c, .int .i64 d] 36)) := by (repeat' (first | (with_reducible exact Below.refl _ _) | (with_reducible assumption) | (with_reducible refine Below.drew ?_) | (with_reducible refine below_drewN ?_ _) | (with_reducible refine Below.alloc ?_ ?_ _) | (with_reducible refine Below.setCell ?_ ?_ _) | (with_reducible refine Below.step (by assumption) ?_ ?_))); all_goals (first | omega | (simp; done) | (simp; omega))
  have hWA : Blk ((w.alloc (.cells #[vn, vl] 34)).alloc (.cells #[.int .i64 a, .int .i64 b, .int .i64 c, .int .i64 d] 36)) w.heap.size 34 #[vn, vl] := (Blk.newAt rfl).alloc _
  have hTA : Blk ((w.alloc (.cells #[vn, vl] 34)).alloc (.cells #[.int .i64 a, .int .i64 b, .int .i64 c, .int .i64 d] 36)) (w.heap.size + 1) 36 #[.int .i64 a, .int .i64 b, .int .i64 c, .int .i64 d] := Blk.newAt (by simp)
  have hfl := facesW_len ns ls
  have hF1 := facesW_pos h1
  have e0 : (((facesW ns ls).length : Int) == 0) = false := beq_eq_false_iff_ne.2 (by omega)
  obtain ⟨⟨a0, a1⟩, ⟨b0, b1⟩, ⟨c0, c1⟩, ⟨d0, d1⟩⟩ := tariffB_bd h2
  have hr3 := riseB_true.1 h3
  have hzl : zs.length ≤ 40 := by
    rcases Nat.eq_zero_or_pos zs.length with h | h
    · omega
    · have g1 := rise_len zs.length (Nat.le_refl _) hr3 h
      have g2 := (hr3 (zs.length - 1) (by omega)).1
      omega
  have HSB := Lib.hid (sumA_bd ns ls zs)
  have HAB := Lib.hid (fun f => areaW_bd ns ls f)
  have HS0 : Hid (sumA ns ls zs 0 = 0) := Lib.hid rfl
  have HSS : Hid (∀ k, sumA ns ls zs (k + 1) = sumA ns ls zs k + areaW ns ls (zs.getD k 0)) := Lib.hid (fun _ => rfl)
  have tb := areaW_bd ns ls (outerW ns ls)
  rw [show areaW ns ls (outerW ns ls) = totalW ns ls from rfl] at tb
  have lb := lenW_bd ns ls
  have jb := jointsI_bd ns ls
  obtain ⟨T, hT⟩ : ∃ T, totalW ns ls = T := ⟨_, rfl⟩
  obtain ⟨L, hL⟩ : ∃ L, lenW ns ls = L := ⟨_, rfl⟩
  obtain ⟨J, hJ⟩ : ∃ J, jointsI ns ls = J := ⟨_, rfl⟩
  rw [hT] at tb
  rw [hL] at lb
  rw [hJ] at jb
  obtain ⟨m1, m2⟩ := mulT (a := a) (x := T) (U := 16000) a0 a1 (by omega) (by omega)
  obtain ⟨m3, m4⟩ := mulT (a := b) (x := L) (U := 16000) b0 b1 (by omega) (by omega)
  obtain ⟨m5, m6⟩ := mulT (a := c) (x := J) (U := 16000) c0 c1 (by omega) (by omega)
  have HT := Lib.hid hT
  have HL := Lib.hid hL
  have HJ := Lib.hid hJ
  have HJJ : Hid (Hid (jointsI ns ls = J)) := Lib.hid HJ
  rw [HT.out, HL.out, HJ.out]
  clear hT hL hJ tb lb jb hr3
  have HP := Lib.hid hp
  go_enter Tryz.func7, Tryz.ntmps7
  go_wp2_with fail
  refine (sFaces_any vn vl ns ls _ (hn.below hba) (hl.below hba)).mono ?_
  rintro e w1 ⟨v1, rfl, ho1, hs1⟩
  obtain ⟨A1, c1, rfl⟩ := ho1.form
  have hb1 := hba.trans (hs1.mono hba.size)
  have hW1 := hWA.below hs1 hWA.lt
  have hT1 := hTA.below hs1 hTA.lt
  (have x_0 := hW1.cell 0); (have x_1 := hW1.cell 1); simp only [List.getElem?_toArray, List.getElem?_cons_succ, List.getElem?_cons_zero] at x_0 x_1
  (have y_0 := hT1.cell 0); (have y_1 := hT1.cell 1); (have y_2 := hT1.cell 2); (have y_3 := hT1.cell 3); simp only [List.getElem?_toArray, List.getElem?_cons_succ, List.getElem?_cons_zero] at y_0 y_1 y_2 y_3
  have lw1 := hW1.lt
  have lt1 := hT1.lt
  go_wp2_with fail
  refine (sTariff_at a b c d _ _ h2).mono ?_
  rintro e w2 ⟨rfl, hs2⟩
  have hb2 := hb1.trans (hs2.mono hb1.size)
  have hW2 := hW1.below hs2 hW1.lt
  have hT2 := hT1.below hs2 hT1.lt
  clear x_0 x_1 y_0 y_1 y_2 y_3
  (have x_0 := hW2.cell 0); (have x_1 := hW2.cell 1); simp only [List.getElem?_toArray, List.getElem?_cons_succ, List.getElem?_cons_zero] at x_0 x_1
  (have y_0 := hT2.cell 0); (have y_1 := hT2.cell 1); (have y_2 := hT2.cell 2); (have y_3 := hT2.cell 3); simp only [List.getElem?_toArray, List.getElem?_cons_succ, List.getElem?_cons_zero] at y_0 y_1 y_2 y_3
  have lw2 := hW2.lt
  have lt2 := hT2.lt
  go_wp2_with fail
  refine (sRise_at vp zs _ _ _ (hp.below hb2) (by omega) (by omega) h3).mono ?_
  rintro e w3 ⟨rfl, hs3⟩
  have hb3 := hb2.trans (hs3.mono hb2.size)
  have hW3 := hW2.below hs3 hW2.lt
  have hT3 := hT2.below hs3 hT2.lt
  clear x_0 x_1 y_0 y_1 y_2 y_3
  (have x_0 := hW3.cell 0); (have x_1 := hW3.cell 1); simp only [List.getElem?_toArray, List.getElem?_cons_succ, List.getElem?_cons_zero] at x_0 x_1
  (have y_0 := hT3.cell 0); (have y_1 := hT3.cell 1); (have y_2 := hT3.cell 2); (have y_3 := hT3.cell 3); simp only [List.getElem?_toArray, List.getElem?_cons_succ, List.getElem?_cons_zero] at y_0 y_1 y_2 y_3
  have lw3 := hW3.lt
  have lt3 := hT3.lt
  go_wp2_with fail
  refine (sOuter_any vn vl ns ls _ (hn.below hb3) (hl.below hb3)).mono ?_
  rintro e w4 ⟨rfl, hs4⟩
  have hb4 := hb3.trans (hs4.mono hb3.size)
  have hW4 := hW3.below hs4 hW3.lt
  have hT4 := hT3.below hs4 hT3.lt
  clear x_0 x_1 y_0 y_1 y_2 y_3
  (have x_0 := hW4.cell 0); (have x_1 := hW4.cell 1); simp only [List.getElem?_toArray, List.getElem?_cons_succ, List.getElem?_cons_zero] at x_0 x_1
  (have y_0 := hT4.cell 0); (have y_1 := hT4.cell 1); (have y_2 := hT4.cell 2); (have y_3 := hT4.cell 3); simp only [List.getElem?_toArray, List.getElem?_cons_succ, List.getElem?_cons_zero] at y_0 y_1 y_2 y_3
  have lw4 := hW4.lt
  have lt4 := hT4.lt
  go_wp2_with fail
  refine (sHas_at vp zs _ _ _ (hp.below hb4) h4).mono ?_
  rintro e w5 ⟨rfl, rfl⟩
  have hb5 := hb4
  have hW5 := hW4
  have hT5 := hT4
  clear h1 h2 h3 h4
  obtain ⟨Ap, cp, rfl, hcp, hmp, hcellp⟩ := hp.form
  unfold maxLen at hmp
  have HCP := Lib.hid hcellp
  clear hcellp
  go_wp2_with fail
  (refine wp_region_quietG (by kernel_rfl) (by kernel_rfl) (fun hG => ?_))
  repeat (go_big_quiet_step (first | (go_at_call 21; exact quietG (sTotal_at vn vl ns ls T _ (hn.below (hb5.trans (Below.mono (Grw.below _) hb5.size))) (hl.below (hb5.trans (Below.mono (Grw.below _) hb5.size))) HT.out)) | (go_at_call 22; exact quietG (sLen_at vn vl ns ls L _ (hn.below (hb5.trans (Below.mono (Grw.below _) hb5.size))) (hl.below (hb5.trans (Below.mono (Grw.below _) hb5.size))) HL.out)) | (go_at_call 36; exact quietG (sJoints_at vn vl ns ls J _ (hn.below (hb5.trans (Below.mono (Grw.below _) hb5.size))) (hl.below (hb5.trans (Below.mono (Grw.below _) hb5.size))) HJJ.out))))
  refine wpQuiet_nil ?_
  clear hG
  rintro w8 ⟨⟨_, hs8⟩, rfl⟩
  have hb8 := hb5.trans (hs8.mono hb5.size)
  have hW8 := hW5.below hs8 hW5.lt
  have hT8 := hT5.below hs8 hT5.lt
  obtain ⟨P, hP⟩ : ∃ P, a * T + b * L + c * J = P := ⟨_, rfl⟩
  have p1 : -48000000 ≤ P := by omega
  have p2 : P ≤ 48000000 := by omega
  have HP2 := Lib.hid hP
  go_wp2
  go_loopw [8, 9] (fun n x wr => ∃ k : Nat, k ≤ zs.length ∧ x = .int .i64 k ∧ n = .int .i64 (P + d * sumA ns ls zs k) ∧ Blk wr w.heap.size 34 #[vn, vl] ∧ Blk wr (w.heap.size + 1) 36 #[.int .i64 a, .int .i64 b, .int .i64 c, .int .i64 d] ∧ Below w.heap.size w wr) (fun _ x _ => zs.length - (intOf x).toNat)
  case atStart => exact ⟨0, Nat.zero_le _, rfl, by first | (rw [HS0.out, Int.mul_zero, Int.add_zero]; done) | (rw [HS0.out, Int.mul_zero, Int.add_zero, ← HP2.out]), hW8, hT8, hb8⟩
  case round =>
    clear x_0 x_1 y_0 y_1 y_2 y_3 hW8 hT8 hb8 hs8 hP
    obtain ⟨k, hk, rfl, rfl, hW, hTT, hbl⟩ := hrel
    have hsz := hW.lt
    have hst := hTT.lt
    (have x_0 := hW.cell 0); (have x_1 := hW.cell 1); simp only [List.getElem?_toArray, List.getElem?_cons_succ, List.getElem?_cons_zero] at x_0 x_1
    (have y_0 := hTT.cell 0); (have y_1 := hTT.cell 1); (have y_2 := hTT.cell 2); (have y_3 := hTT.cell 3); simp only [List.getElem?_toArray, List.getElem?_cons_succ, List.getElem?_cons_zero] at y_0 y_1 y_2 y_3
    by_cases hlt : k < zs.length
    · have hlt1 : (k : Int) < (zs.length : Int) := by omega
      have ik1 : (0 : Int) ≤ (k : Int) := by omega
      obtain ⟨b4, off4, rfl, hb4, hcl4⟩ := HCP.out (by omega)
      have hx := (hbl.cell (p := ⟨b4, off4 + k, none⟩) hb4).trans (hcl4 k hlt)
      have hb42 : b4 < wr.heap.size := Nat.lt_of_lt_of_le hb4 hbl.size
      have HS := Lib.hid (HSS.out k)
      have sb := HSB.out k
      have ab := HAB.out (zs.getD k 0)
      generalize zs.getD k 0 = z at *
      obtain ⟨q, hq⟩ : ∃ q, areaW ns ls z = q := ⟨_, rfl⟩
      rw [hq] at ab HS
      have HQ := Lib.hid hq
      clear hq hcl4
      generalize hSK : sumA ns ls zs k = SK at *
      have HSK := Lib.hid hSK
      clear hSK
      obtain ⟨m7, m8⟩ := mulT (a := d) (x := SK) (U := 640000) d0 d1 (by omega) (by omega)
      obtain ⟨m9, m10⟩ := mulT (a := d) (x := q) (U := 16000) d0 d1 (by omega) (by omega)
      go_wp2_with fail
      (refine wp_region_quietG (by kernel_rfl) (by kernel_rfl) (fun hG => ?_))
      repeat (go_big_quiet_step ((go_at_call 20; exact quietG (sArea_at vn vl ns ls z q _ (hn.below (hbl.trans (Below.mono (Grw.below _) hbl.size))) (hl.below (hbl.trans (Below.mono (Grw.below _) hbl.size))) HQ.out))))
      refine wpQuiet_nil ?_
      clear hG
      rintro w9 ⟨⟨_, hs9⟩, rfl⟩
      have hb9 := hbl.trans (hs9.mono hbl.size)
      have hW9 := hW.below hs9 hsz
      have hT9 := hTT.below hs9 hst
      clear hW hTT hbl hs9 x_0 x_1 y_0 y_1 y_2 y_3 hx
      go_wp2
      go_roundw
      case rel => exact ⟨k + 1, by omega, by go_num, by rw [HS.out, Int.mul_add]; congr 1; omega, hW9, hT9, hb9⟩
      case measure => simp [intOf]; omega
    · have hkk : k = zs.length := by omega
      subst hkk
      go_wp2
      go_ret
      exact ⟨ret_int (by rw [HP2.out]), hbl⟩

theorem sBill_any (vn vl vp : Value) (ns ls : List Pr) (a b c d : Int) (zs : List Int) (w : World) (hn : RP w vn ns) (hl : RP w vl ls) (hp : RI w vp zs) :
    Calls Tryz.prog 7 #[.agg #[vn, vl], .agg #[.int .i64 a, .int .i64 b, .int .i64 c, .int .i64 d], vp] w fun e w' => e = .returned (.int .i64 (billI ns ls a b c d zs)) ∧ Below w.heap.size w w' := by
  cases h1 : wholeB ns ls
  · rw [bill_no1 h1]; exact sBill_nowhole vn vl vp ns ls a b c d zs w hn hl hp h1
  cases h2 : tariffB a b c d
  · rw [bill_no2 h2]; exact sBill_notariff vn vl vp ns ls a b c d zs w hn hl hp h1 h2
  cases h3 : riseB zs (((facesW ns ls).length : Int) - 1)
  · rw [bill_no3 h3]; exact sBill_norise vn vl vp ns ls a b c d zs w hn hl hp h1 h2 h3
  cases h4 : decide (outerW ns ls ∈ zs)
  · rw [bill_yes h1 h2 h3 h4]; exact sBill_yes vn vl vp ns ls a b c d zs w hn hl hp h1 h2 h3 h4
  · rw [bill_no4 h4]; exact sBill_nohas vn vl vp ns ls a b c d zs w hn hl hp h1 h2 h3 h4

end Go.Proofs.YtognjdappchpkaaGreat

namespace Go.Proofs.YtognjdappchpkaaGreat
open Go.RowKit

/-- The first k filled in. -/
def fillI (zs : List Int) (k : Nat) : List Int := zs.take k ++ List.replicate (zs.length - k) 0
theorem fillI_len (zs : List Int) (k : Nat) (h : k ≤ zs.length) : (fillI zs k).length = zs.length := by simp [fillI]; omega
theorem fillI_zero (zs : List Int) : fillI zs 0 = List.replicate zs.length 0 := by simp [fillI]
theorem fillI_all (zs : List Int) : fillI zs zs.length = zs := by simp [fillI]
theorem fillI_succ (zs : List Int) (k : Nat) (h : k < zs.length) : (fillI zs k).set k (zs.getD k 0) = fillI zs (k + 1) := by
  unfold fillI
  have e : (zs.take k).length = k := by simp; omega
  rw [List.set_append, if_neg (by omega), e, Nat.sub_self, show zs.length - k = (zs.length - (k + 1)) + 1 by omega, List.replicate_succ, List.set_cons_zero, List.take_succ_eq_append_getElem h, List.append_assoc]
  simp [List.getD, h]

set_option maxHeartbeats 4000000 in
set_option maxRecDepth 100000 in
theorem toIntS_any (v : Value) (zs : List Int) (w : World) (h : RI w v zs) (hle : zs.length ≤ 1048576) :
    Calls Tryz.prog 10 #[v] w (RetI zs w) := by
  obtain ⟨A, c, rfl, hc, hm, hcell⟩ := h.form
  unfold maxLen at hm
  clear h
  obtain ⟨i0, hi, iz0, iz1, iz2⟩ := info_parts infoInt
  go_enter Tryz.func10, Tryz.ntmps10
  go_wp2_with (at_make; refine wpList_make_full _ rfl _ _ 28 rfl w.heap.size 3 i0 (.int .i64 0) 1 Tryz.underlying28 hi iz0 iz1 .i64 .i64 _ _ zs.length rfl rfl rfl rfl (by rw [iz2]; omega) (by unfold maxLen; omega) (by omega) ?_)
  intro w1 hown1 hgr1
  have hb1 : Below w.heap.size w w1 := (Below.refl _ _).grown hgr1 (Nat.le_refl _) (by intro k hk; cases hk)
  have hown : OwnI w.heap.size w1 (.slice (some ⟨w.heap.size, 0, none⟩) zs.length zs.length) (fillI zs 0) := by
    have e : ∀ n : Nat, (madeCells #[.int .i64 0] n).toList = (List.replicate n (0 : Int)).map vI := by
      intro n
      apply List.ext_getElem?
      intro j
      by_cases hj : j < n
      · simp only [madeCells, Array.toList_map, List.getElem?_map, Array.toList_range, List.getElem?_range hj, List.getElem?_replicate, if_pos hj, Option.map_some]
        congr 1
        show #[Value.int .i64 0][j % 1]! = _
        rw [Nat.mod_one]; rfl
      · simp [madeCells, hj]
    unfold OwnI
    rw [fillI_zero, List.length_replicate, ← e]
    exact hown1
  have hw1 : w.heap.size ≤ w1.heap.size := hb1.size
  clear hown1 hgr1 iz0 iz1 iz2 hi
  go_wp2
  go_loopw [4] (fun i wr => ∃ k : Nat, k ≤ zs.length ∧ i = .int .i64 k ∧ OwnI w.heap.size wr (.slice (some ⟨w.heap.size, 0, none⟩) zs.length zs.length) (fillI zs k) ∧ Below w.heap.size w wr) (fun i _ => zs.length - (intOf i).toNat)
  case atStart => exact ⟨0, Nat.zero_le _, rfl, hown, hb1⟩
  case round =>
    obtain ⟨k, hk, rfl, ho, hbl⟩ := hrel
    clear hown hb1 hw1
    have hfl := fillI_len zs k hk
    by_cases hlt : k < zs.length
    · obtain ⟨b, off, rfl, hb, hcl⟩ := hcell (by omega)
      have hx := (hbl.cell (p := ⟨b, off + k, none⟩) hb).trans (hcl k hlt)
      have hlt1 : (k : Int) < (zs.length : Int) := by omega
      have ik1 : (0 : Int) ≤ (k : Int) := by omega
      have xp := ho.cell (q := k) (by omega)
      obtain ⟨z, hz⟩ : ∃ z, wr.cell? ⟨w.heap.size, k, none⟩ = some z := ⟨_, xp⟩
      have fp := ho.frz k
      have HO : Hid (OwnI w.heap.size (wr.setCell ⟨w.heap.size, k, none⟩ (.int .i64 (zs.getD k 0))) (.slice (some ⟨w.heap.size, 0, none⟩) zs.length zs.length) (fillI zs (k + 1))) := Lib.hid (by
        rw [← fillI_succ zs k hlt]; exact ho.set_ k _)
      have HB := Lib.hid (hbl.setCell (p := ⟨w.heap.size, k, none⟩) (Nat.le_refl _) (.int .i64 (zs.getD k 0)))
      generalize zs.getD k 0 = y at *
      clear ho hbl hcl hcell xp
      go_wp2
      go_roundw
      case rel => exact ⟨k + 1, by omega, by go_num, HO.out, HB.out⟩
      case measure => simp [intOf]; omega
    · have hkk : k = zs.length := by omega
      subst hkk
      rw [fillI_all] at ho
      clear hcell
      go_wp2
      go_ret
      exact ⟨_, rfl, ho, hbl⟩

theorem below_drew0 {w w' : World} (h : Below w.drew.heap.size w.drew w') : Below w.heap.size w w' := ⟨h.os, h.tape, h.output, h.size, h.block⟩

theorem eqIntS_yes2 (v u : Value) (zs : List Int) (w : World) (hv : RI w v zs) (hu : RI w u zs) :
    Calls Tryz.prog 13 #[v, u] w fun e w' => e = .returned (.bool true) ∧ Below w.heap.size w w' :=
  (eqIntS_any v u zs zs w hv hu).mono fun e w' ⟨he, hw⟩ => ⟨he.trans (ret_bool (by simp)), hw⟩

set_option maxHeartbeats 8000000 in
set_option maxRecDepth 100000 in
theorem billLaw_any (vn vl vp : Value) (ns ls : List Pr) (a b c d : Int) (zs : List Int) (w : World) (hn : RP w vn ns) (hl : RP w vl ls) (hp : RI w vp zs) :
    Calls Tryz.prog 3 #[.agg #[vn, vl], .agg #[.int .i64 a, .int .i64 b, .int .i64 c, .int .i64 d], vp] w fun e w' => e = .returned (.bool true) ∧ Below w.heap.size w w' := by
  obtain ⟨x, hx⟩ : ∃ x, szW 1048576 ns.length ls.length = x := ⟨_, rfl⟩
  have HX := Lib.hid hx
  obtain ⟨Ap, cp, rfl, hcp, hmp, _⟩ := hp.form
  unfold maxLen at hmp
  have hba : Below w.heap.size w ((w.alloc (.cells #[vn, vl] 25)).alloc (.cells #[.int .i64 a, .int .i64 b, .int .i64 c, .int .i64 d] 27)) := by (repeat' (first | (with_reducible exact Below.refl _ _) | (with_reducible assumption) | (with_reducible refine Below.drew ?_) | (with_reducible refine below_drewN ?_ _) | (with_reducible refine Below.alloc ?_ ?_ _) | (with_reducible refine Below.setCell ?_ ?_ _) | (with_reducible refine Below.step (by assumption) ?_ ?_))); all_goals (first | omega | (simp; done) | (simp; omega))
  have hVA : Blk ((w.alloc (.cells #[vn, vl] 25)).alloc (.cells #[.int .i64 a, .int .i64 b, .int .i64 c, .int .i64 d] 27)) w.heap.size 25 #[vn, vl] := (Blk.newAt rfl).alloc _
  have hTA : Blk ((w.alloc (.cells #[vn, vl] 25)).alloc (.cells #[.int .i64 a, .int .i64 b, .int .i64 c, .int .i64 d] 27)) (w.heap.size + 1) 27 #[.int .i64 a, .int .i64 b, .int .i64 c, .int .i64 d] := Blk.newAt (by simp)
  by_cases hz : (1048576 : Int) < (zs.length : Int)
  · clear hx
    go_enter Tryz.func3, Tryz.ntmps3
    go_wp2
    go_ret
    exact ⟨rfl, hba⟩
  by_cases hx0 : x < 0
  · clear hx
    go_enter Tryz.func3, Tryz.ntmps3
    go_wp2_with fail
    refine (szWindow_at _ _ ns ls _ x _ (hn.below hba) (hl.below hba) (by omega) (by omega) HX).mono ?_
    rintro e w1 ⟨rfl, hb1⟩; (first | (with_reducible have hcf1 := bcell_drew hb1) | have hcf1 := bcell hb1); obtain ⟨hc1, hf1⟩ := hcf1; have hz1 := hb1.size; (try simp at hz1); (try have hp1_0 : w.heap.size < w1.heap.size := by omega); (try have hp1_1 : w.heap.size + 1 < w1.heap.size := by omega); (try have hp1_2 : w.heap.size + 1 + 1 < w1.heap.size := by omega); (try have hp1_3 : w.heap.size + 1 + 1 + 1 < w1.heap.size := by omega)
    go_wp2
    go_ret
    exact ⟨rfl, by (repeat' (first | (with_reducible exact Below.refl _ _) | (with_reducible assumption) | (with_reducible refine Below.drew ?_) | (with_reducible refine below_drewN ?_ _) | (with_reducible refine Below.alloc ?_ ?_ _) | (with_reducible refine Below.setCell ?_ ?_ _) | (with_reducible refine Below.step (by assumption) ?_ ?_))); all_goals (first | omega | (simp; done) | (simp; omega))⟩
  · obtain ⟨s1, s2, s3, s4⟩ := szW_le (by rw [hx]; exact hx0)
    clear s3 s4 hx
    have hzs : zs.length ≤ 1048576 := by omega
    obtain ⟨J, hJ⟩ : ∃ J, billI ns ls a b c d zs = J := ⟨_, rfl⟩
    have HSB := Lib.hid (fun (u : World) (un ul up : Value) (h1 : RP u un ns) (h2 : RP u ul ls) (h3 : RI u up zs) => sBill_any un ul up ns ls a b c d zs u h1 h2 h3)
    have HIB := Lib.hid (fun (u : World) (un ul up : Value) (h1 : RP u un ns) (h2 : RP u ul ls) (h3 : RI u up zs) => iBill_any un ul up ns ls a b c d zs u h1 h2 h3)
    rw [hJ] at HSB HIB
    clear hJ
    go_enter Tryz.func3, Tryz.ntmps3
    go_wp2_with fail
    refine (szWindow_at _ _ ns ls _ x _ (hn.below hba) (hl.below hba) (by omega) (by omega) HX).mono ?_
    rintro e w1 ⟨rfl, hb1⟩
    have hbw1 : Below w.heap.size w w1 := hba.trans (hb1.mono hba.size)
    have hV1 := hVA.below hb1 hVA.lt
    have hT1 := hTA.below hb1 hTA.lt
    clear hb1 HX hba hVA hTA
    (have a_0 := hV1.cell 0); (have a_1 := hV1.cell 1); simp only [List.getElem?_toArray, List.getElem?_cons_succ, List.getElem?_cons_zero] at a_0 a_1
    (have t_0 := hT1.cell 0); (have t_1 := hT1.cell 1); (have t_2 := hT1.cell 2); (have t_3 := hT1.cell 3); simp only [List.getElem?_toArray, List.getElem?_cons_succ, List.getElem?_cons_zero] at t_0 t_1 t_2 t_3
    have z1 := hV1.lt
    have z2 := hT1.lt
    go_wp2_with fail
    go_region_held3 (fun w' => w'.cell? ⟨w.heap.size, 0, none⟩ = some vn ∧ w'.cell? ⟨w.heap.size, 1, none⟩ = some vl ∧ w'.cell? ⟨w.heap.size + 1, 0, none⟩ = some (.int .i64 a) ∧ w'.cell? ⟨w.heap.size + 1, 1, none⟩ = some (.int .i64 b) ∧ w'.cell? ⟨w.heap.size + 1, 2, none⟩ = some (.int .i64 c) ∧ w'.cell? ⟨w.heap.size + 1, 3, none⟩ = some (.int .i64 d))
      (go_keep)
      (first | (go_at_call 8; refine Calls.mono (toWindow_any vn vl ns ls _ (hn.below ?c1) (hl.below ?c1) s1 s2) ?_; (case c1 => (repeat' (first | (with_reducible exact Below.refl _ _) | (with_reducible assumption) | (with_reducible refine Below.drew ?_) | (with_reducible refine below_drewN ?_ _) | (with_reducible refine Below.alloc ?_ ?_ _) | (with_reducible refine Below.setCell ?_ ?_ _) | (with_reducible refine Below.step (by assumption) ?_ ?_))); all_goals (first | omega | (simp; done) | (simp; omega))); rintro e w2 ⟨An2, cn2, Al2, cl2, rfl, ho2, hb2⟩; (first | (with_reducible have hcf2 := bcell_drew hb2) | have hcf2 := bcell hb2); obtain ⟨hc2, hf2⟩ := hcf2; have hz2 := hb2.size; (try simp at hz2); (try have hp2_0 : w.heap.size < w2.heap.size := by omega); (try have hp2_1 : w.heap.size + 1 < w2.heap.size := by omega); (try have hp2_2 : w.heap.size + 1 + 1 < w2.heap.size := by omega); (try have hp2_3 : w.heap.size + 1 + 1 + 1 < w2.heap.size := by omega); (have hbw2 : Below w.heap.size w w2 := by (repeat' (first | (with_reducible exact Below.refl _ _) | (with_reducible assumption) | (with_reducible refine Below.drew ?_) | (with_reducible refine below_drewN ?_ _) | (with_reducible refine Below.alloc ?_ ?_ _) | (with_reducible refine Below.setCell ?_ ?_ _) | (with_reducible refine Below.step (by assumption) ?_ ?_))); all_goals (first | omega | (simp; done) | (simp; omega))); (have z12 : w.heap.size < w2.heap.size := by omega); (have z22 : w.heap.size + 1 < w2.heap.size := by omega)) | (go_at_call 9; refine (toTariff_any _ _ _ _ _).mono ?_; rintro e w3 ⟨rfl, hb3⟩; (first | (with_reducible have hcf3 := bcell_drew hb3) | have hcf3 := bcell hb3); obtain ⟨hc3, hf3⟩ := hcf3; have hz3 := hb3.size; (try simp at hz3); (try have hp3_0 : w.heap.size < w3.heap.size := by omega); (try have hp3_1 : w.heap.size + 1 < w3.heap.size := by omega); (try have hp3_2 : w.heap.size + 1 + 1 < w3.heap.size := by omega); (try have hp3_3 : w.heap.size + 1 + 1 + 1 < w3.heap.size := by omega); (have hbw3 : Below w.heap.size w w3 := by (repeat' (first | (with_reducible exact Below.refl _ _) | (with_reducible assumption) | (with_reducible refine Below.drew ?_) | (with_reducible refine below_drewN ?_ _) | (with_reducible refine Below.alloc ?_ ?_ _) | (with_reducible refine Below.setCell ?_ ?_ _) | (with_reducible refine Below.step (by assumption) ?_ ?_))); all_goals (first | omega | (simp; done) | (simp; omega))); (have z13 : w.heap.size < w3.heap.size := by omega); (have z23 : w.heap.size + 1 < w3.heap.size := by omega)) | (go_at_call 10; refine Calls.mono (toIntS_any _ zs _ (hp.below ?c2) hzs) ?_; (case c2 => (repeat' (first | (with_reducible exact Below.refl _ _) | (with_reducible assumption) | (with_reducible refine Below.drew ?_) | (with_reducible refine below_drewN ?_ _) | (with_reducible refine Below.alloc ?_ ?_ _) | (with_reducible refine Below.setCell ?_ ?_ _) | (with_reducible refine Below.step (by assumption) ?_ ?_))); all_goals (first | omega | (simp; done) | (simp; omega))); rintro e w4 ⟨v4, rfl, ho4, hb4⟩; (first | (with_reducible have hcf4 := bcell_drew hb4) | have hcf4 := bcell hb4); obtain ⟨hc4, hf4⟩ := hcf4; have hz4 := hb4.size; (try simp at hz4); (try have hp4_0 : w.heap.size < w4.heap.size := by omega); (try have hp4_1 : w.heap.size + 1 < w4.heap.size := by omega); (try have hp4_2 : w.heap.size + 1 + 1 < w4.heap.size := by omega); (try have hp4_3 : w.heap.size + 1 + 1 + 1 < w4.heap.size := by omega); (have hbw4 : Below w.heap.size w w4 := by (repeat' (first | (with_reducible exact Below.refl _ _) | (with_reducible assumption) | (with_reducible refine Below.drew ?_) | (with_reducible refine below_drewN ?_ _) | (with_reducible refine Below.alloc ?_ ?_ _) | (with_reducible refine Below.setCell ?_ ?_ _) | (with_reducible refine Below.step (by assumption) ?_ ?_))); all_goals (first | omega | (simp; done) | (simp; omega))); (have z14 : w.heap.size < w4.heap.size := by omega); (have z24 : w.heap.size + 1 < w4.heap.size := by omega)) | (go_at_call 7; have hb24 : Below w2.heap.size w2 w4 := hb3.trans (hb4.mono hb3.size); refine Calls.mono (HSB.out _ _ _ _ (ho2.1.reads.below hb24) (ho2.2.1.reads.below hb24) ho4.reads) ?_; rintro e w5 ⟨rfl, hb5⟩; (first | (with_reducible have hcf5 := bcell_drew hb5) | have hcf5 := bcell hb5); obtain ⟨hc5, hf5⟩ := hcf5; have hz5 := hb5.size; (try simp at hz5); (try have hp5_0 : w.heap.size < w5.heap.size := by omega); (try have hp5_1 : w.heap.size + 1 < w5.heap.size := by omega); (try have hp5_2 : w.heap.size + 1 + 1 < w5.heap.size := by omega); (try have hp5_3 : w.heap.size + 1 + 1 + 1 < w5.heap.size := by omega); (have hbw5 : Below w.heap.size w w5 := hbw4.trans (hb5.mono hbw4.size)); (have hb15 : Below w1.heap.size w1 w5 := ((below_drew0 hb2).trans (hb24.mono (below_drew0 hb2).size)).trans (hb5.mono (Nat.le_trans (below_drew0 hb2).size hb24.size)))))
    have hV5 : Blk w5 w.heap.size 25 #[vn, vl] := by
      exact Blk.below (B := w1.heap.size) (w := w1) hV1 hb15 z1
    have hT5 : Blk w5 (w.heap.size + 1) 27 #[.int .i64 a, .int .i64 b, .int .i64 c, .int .i64 d] := by
      exact Blk.below (B := w1.heap.size) (w := w1) hT1 hb15 z2
    clear hV1 hT1 a_0 a_1 t_0 t_1 t_2 t_3 hb2 hb3 hb4 hb5 hc2 hc3 hc4 hc5 hf2 hf3 hf4 hf5 ho2 ho4 hbw1 hbw2 hbw3 hbw4
    (have a_0 := hV5.cell 0); (have a_1 := hV5.cell 1); simp only [List.getElem?_toArray, List.getElem?_cons_succ, List.getElem?_cons_zero] at a_0 a_1
    go_wp2_with fail
    refine (toWindow_any vn vl ns ls _ (hn.below hbw5) (hl.below hbw5) s1 s2).mono ?_
    rintro e w6 ⟨An6, cn6, Al6, cl6, rfl, ho6, hb6⟩
    have hV6 := hV5.below hb6 hV5.lt
    have hT6 := hT5.below hb6 hT5.lt
    have hbw6 : Below w.heap.size w w6 := hbw5.trans (hb6.mono hbw5.size)
    clear hb6 hV5 hT5 hbw5 a_0 a_1
    have hbX : Below w6.heap.size w6 (w6.alloc (.cells #[.slice An6 ns.length cn6, .slice Al6 ls.length cl6] 34)) := by (repeat' (first | (with_reducible exact Below.refl _ _) | (with_reducible assumption) | (with_reducible refine Below.drew ?_) | (with_reducible refine below_drewN ?_ _) | (with_reducible refine Below.alloc ?_ ?_ _) | (with_reducible refine Below.setCell ?_ ?_ _) | (with_reducible refine Below.step (by assumption) ?_ ?_))); all_goals (first | omega | (simp; done) | (simp; omega))
    have hbwX := hbw6.trans (hbX.mono hbw6.size)
    go_wp2_with fail
    refine (toIntS_any _ zs _ (hp.below hbwX) hzs).mono ?_
    rintro e w7 ⟨v7, rfl, ho7, hb7⟩
    have hX7 : Blk w7 w6.heap.size 34 #[.slice An6 ns.length cn6, .slice Al6 ls.length cl6] := Blk.below (Blk.newAt rfl) hb7 (by first | omega | (simp; done) | (simp; omega))
    have hV7 := (hV6.alloc (.cells #[.slice An6 ns.length cn6, .slice Al6 ls.length cl6] 34)).below hb7 (Nat.lt_succ_of_lt hV6.lt |> fun h => by simpa using h)
    have hT7 := (hT6.alloc (.cells #[.slice An6 ns.length cn6, .slice Al6 ls.length cl6] 34)).below hb7 (Nat.lt_succ_of_lt hT6.lt |> fun h => by simpa using h)
    have hb67 : Below w6.heap.size w6 w7 := hbX.trans (hb7.mono hbX.size)
    have r7n := ho6.1.reads.below hb67
    have r7l := ho6.2.1.reads.below hb67
    have r7p := ho7.reads
    have hbw7 : Below w.heap.size w w7 := hbw6.trans (hb67.mono hbw6.size)
    have n1 := hV7.lt
    have n2 := hX7.lt
    have n3 := hT7.lt
    clear hb7 hb67 hbX hbwX hV6 hT6 hbw6 ho6 ho7
    generalize w6.heap.size = B6 at *
    (have a_0 := hV7.cell 0); (have a_1 := hV7.cell 1); simp only [List.getElem?_toArray, List.getElem?_cons_succ, List.getElem?_cons_zero] at a_0 a_1
    (have x_0 := hX7.cell 0); (have x_1 := hX7.cell 1); simp only [List.getElem?_toArray, List.getElem?_cons_succ, List.getElem?_cons_zero] at x_0 x_1
    (have t_0 := hT7.cell 0); (have t_1 := hT7.cell 1); (have t_2 := hT7.cell 2); (have t_3 := hT7.cell 3); simp only [List.getElem?_toArray, List.getElem?_cons_succ, List.getElem?_cons_zero] at t_0 t_1 t_2 t_3
    go_wp2_with fail
    go_region_held3 (fun w' => w'.cell? ⟨B6, 0, none⟩ = some (.slice An6 ns.length cn6) ∧ w'.cell? ⟨B6, 1, none⟩ = some (.slice Al6 ls.length cl6) ∧ w'.cell? ⟨w.heap.size + 1, 0, none⟩ = some (.int .i64 a) ∧ w'.cell? ⟨w.heap.size + 1, 1, none⟩ = some (.int .i64 b) ∧ w'.cell? ⟨w.heap.size + 1, 2, none⟩ = some (.int .i64 c) ∧ w'.cell? ⟨w.heap.size + 1, 3, none⟩ = some (.int .i64 d))
      (go_keep)
      (first | (go_at_call 9; refine (toTariff_any _ _ _ _ _).mono ?_; rintro e w8 ⟨rfl, hb8⟩; (first | (with_reducible have hcf8 := bcell_drew hb8) | have hcf8 := bcell hb8); obtain ⟨hc8, hf8⟩ := hcf8; have hz8 := hb8.size; (try simp at hz8); (try have hp8_0 : w.heap.size < w8.heap.size := by omega); (try have hp8_1 : w.heap.size + 1 < w8.heap.size := by omega); (try have hp8_2 : w.heap.size + 1 + 1 < w8.heap.size := by omega); (try have hp8_3 : w.heap.size + 1 + 1 + 1 < w8.heap.size := by omega); (have m18 : B6 < w8.heap.size := by omega); (have m28 : w.heap.size + 1 < w8.heap.size := by omega)) | (go_at_call 11; refine Calls.mono (HIB.out _ _ _ _ (r7n.below ?c3) (r7l.below ?c3) (r7p.below ?c3)) ?_; (case c3 => (repeat' (first | (with_reducible exact Below.refl _ _) | (with_reducible assumption) | (with_reducible refine Below.drew ?_) | (with_reducible refine below_drewN ?_ _) | (with_reducible refine Below.alloc ?_ ?_ _) | (with_reducible refine Below.setCell ?_ ?_ _) | (with_reducible refine Below.step (by assumption) ?_ ?_))); all_goals (first | omega | (simp; done) | (simp; omega))); rintro e w9 ⟨rfl, hb9⟩; (first | (with_reducible have hcf9 := bcell_drew hb9) | have hcf9 := bcell hb9); obtain ⟨hc9, hf9⟩ := hcf9; have hz9 := hb9.size; (try simp at hz9); (try have hp9_0 : w.heap.size < w9.heap.size := by omega); (try have hp9_1 : w.heap.size + 1 < w9.heap.size := by omega); (try have hp9_2 : w.heap.size + 1 + 1 < w9.heap.size := by omega); (try have hp9_3 : w.heap.size + 1 + 1 + 1 < w9.heap.size := by omega); (have m19 : B6 < w9.heap.size := by omega); (have m29 : w.heap.size + 1 < w9.heap.size := by omega)))
    have hb79 : Below w7.heap.size w7 w9 := by (repeat' (first | (with_reducible exact Below.refl _ _) | (with_reducible assumption) | (with_reducible refine Below.drew ?_) | (with_reducible refine below_drewN ?_ _) | (with_reducible refine Below.alloc ?_ ?_ _) | (with_reducible refine Below.setCell ?_ ?_ _) | (with_reducible refine Below.step (by assumption) ?_ ?_))); all_goals (first | omega | (simp; done) | (simp; omega))
    have hV9 := hV7.below hb79 n1
    have hX9 := hX7.below hb79 n2
    have r9n := r7n.below hb79
    have r9l := r7l.below hb79
    have r9p := r7p.below hb79
    have hbw9 := hbw7.trans (hb79.mono hbw7.size)
    have p1 := hV9.lt
    have p2 := hX9.lt
    clear hb79 hV7 hX7 hT7 r7n r7l r7p hbw7 a_0 a_1 x_0 x_1 t_0 t_1 t_2 t_3 hb8 hb9 hc8 hc9 hf8 hf9
    (have a_0 := hV9.cell 0); (have a_1 := hV9.cell 1); simp only [List.getElem?_toArray, List.getElem?_cons_succ, List.getElem?_cons_zero] at a_0 a_1
    (have x_0 := hX9.cell 0); (have x_1 := hX9.cell 1); simp only [List.getElem?_toArray, List.getElem?_cons_succ, List.getElem?_cons_zero] at x_0 x_1
    go_wp2_with fail
    go_region_held3 (fun w' => w'.cell? ⟨w.heap.size, 0, none⟩ = some vn ∧ w'.cell? ⟨w.heap.size, 1, none⟩ = some vl ∧ w'.cell? ⟨B6, 0, none⟩ = some (.slice An6 ns.length cn6) ∧ w'.cell? ⟨B6, 1, none⟩ = some (.slice Al6 ls.length cl6))
      (go_keep)
      (first | (go_at_call 8; refine Calls.mono (toWindow_any vn vl ns ls _ (hn.below ?c1) (hl.below ?c1) s1 s2) ?_; (case c1 => (repeat' (first | (with_reducible exact Below.refl _ _) | (with_reducible assumption) | (with_reducible refine Below.drew ?_) | (with_reducible refine below_drewN ?_ _) | (with_reducible refine Below.alloc ?_ ?_ _) | (with_reducible refine Below.setCell ?_ ?_ _) | (with_reducible refine Below.step (by assumption) ?_ ?_))); all_goals (first | omega | (simp; done) | (simp; omega))); rintro e w10 ⟨An10, cn10, Al10, cl10, rfl, ho10, hb10⟩; (first | (with_reducible have hcf10 := bcell_drew hb10) | have hcf10 := bcell hb10); obtain ⟨hc10, hf10⟩ := hcf10; have hz10 := hb10.size; (try simp at hz10); (try have hp10_0 : w.heap.size < w10.heap.size := by omega); (try have hp10_1 : w.heap.size + 1 < w10.heap.size := by omega); (try have hp10_2 : w.heap.size + 1 + 1 < w10.heap.size := by omega); (try have hp10_3 : w.heap.size + 1 + 1 + 1 < w10.heap.size := by omega); (have o10 : w.heap.size < w10.heap.size := by omega); (have mm10 : B6 < w10.heap.size := by omega)) | (go_at_call 12; refine (eqWindow_any _ _ _ _ ns ls _ (r9n.below ?c2) (r9l.below ?c2) (ho10.1.reads) (ho10.2.1.reads)).mono ?_; (case c2 => (repeat' (first | (with_reducible exact Below.refl _ _) | (with_reducible assumption) | (with_reducible refine Below.drew ?_) | (with_reducible refine below_drewN ?_ _) | (with_reducible refine Below.alloc ?_ ?_ _) | (with_reducible refine Below.setCell ?_ ?_ _) | (with_reducible refine Below.step (by assumption) ?_ ?_))); all_goals (first | omega | (simp; done) | (simp; omega))); rintro e w11 ⟨rfl, hb11⟩; (first | (with_reducible have hcf11 := bcell_drew hb11) | have hcf11 := bcell hb11); obtain ⟨hc11, hf11⟩ := hcf11; have hz11 := hb11.size; (try simp at hz11); (try have hp11_0 : w.heap.size < w11.heap.size := by omega); (try have hp11_1 : w.heap.size + 1 < w11.heap.size := by omega); (try have hp11_2 : w.heap.size + 1 + 1 < w11.heap.size := by omega); (try have hp11_3 : w.heap.size + 1 + 1 + 1 < w11.heap.size := by omega)))
    have hb911 : Below w9.heap.size w9 w11 := by (repeat' (first | (with_reducible exact Below.refl _ _) | (with_reducible assumption) | (with_reducible refine Below.drew ?_) | (with_reducible refine below_drewN ?_ _) | (with_reducible refine Below.alloc ?_ ?_ _) | (with_reducible refine Below.setCell ?_ ?_ _) | (with_reducible refine Below.step (by assumption) ?_ ?_))); all_goals (first | omega | (simp; done) | (simp; omega))
    have hbw11 := hbw9.trans (hb911.mono hbw9.size)
    have r11p := r9p.below hb911
    clear hb10 hb11 hc10 hc11 hf10 hf11 ho10 hV9 hX9 a_0 a_1 x_0 x_1 r9n r9l r9p hb911
    go_wp2_with fail
    refine (toIntS_any _ zs _ (hp.below hbw11) hzs).mono ?_
    rintro e w12 ⟨v12, rfl, ho12, hb12⟩
    have hbw12 := hbw11.trans (hb12.mono hbw11.size)
    go_wp2_with fail
    refine (eqIntS_yes2 _ _ zs _ (r11p.below hb12) ho12.reads).mono ?_
    rintro e w13 ⟨rfl, hb13⟩
    go_wp2
    go_ret
    exact ⟨rfl, hbw12.trans (hb13.mono hbw12.size)⟩

end Go.Proofs.YtognjdappchpkaaGreat

namespace Go.Proofs.YtognjdappchpkaaGreat
open Go.RowKit

/-- How two bills compare. -/
def cheapI (x y : Int) : Int := if x < 0 ∨ y < 0 then 0 else if x < y then -1 else if y < x then 1 else 0

set_option maxHeartbeats 400000 in
theorem isNaN_any (x : Int) (w : World) :
    Calls Tryz.prog 76 #[.int .i64 x] w fun e w' => e = .returned (.bool false) ∧ w = w' := by
  go_enter Tryz.func76, Tryz.ntmps76
  go_wp2
  go_ret
  exact ⟨ret_bool (by simp), rfl⟩

set_option maxHeartbeats 1000000 in
theorem compare_any (x y : Int) (w : World) :
    Calls Tryz.prog 49 #[.int .i64 x, .int .i64 y] w fun e w' => e = .returned (.int .i64 (if x < y then -1 else if y < x then 1 else 0)) ∧ w = w' := by
  go_enter Tryz.func49, Tryz.ntmps49
  go_wp2_with (go_at_call 76; refine (isNaN_any _ _).mono ?_; rintro e w' ⟨rfl, rfl⟩)
  all_goals go_ret
  all_goals refine ⟨ret_int ?_, rfl⟩
  all_goals first | rfl | (rw [if_pos (by omega)]; done) | (rw [if_neg (by omega), if_pos (by omega)]; done) | (rw [if_neg (by omega), if_neg (by omega)]; done)

theorem totalW_pos {ns ls : List Pr} (h : wholeB ns ls = true) : 0 ≤ totalW ns ls := by
  have hwin := (whole_win h).1
  have hpos := (whole_win h).2
  have hld : ∀ j : Nat, j < ls.length → leadB ns (ndI ls j) = true := fun j hj => (hwin.2.2.2.2.2 j hj).1
  have hF : facesW ns ls = facesD ns ls := by simp [facesW, h]
  obtain ⟨k, hk, ha⟩ := outer_is hld hpos
  obtain ⟨q, h1, h2, h3, h4⟩ := outerK_spec ns ls (facesD ns ls) (facesD ns ls).length 0 ⟨k, by omega, by omega, ha⟩
  have ho : outerW ns ls = q := by unfold outerW outerF; rw [hF]; exact h1
  unfold totalW areaW
  rw [ho, if_pos (inB_true.2 (by rw [hF]; omega))]
  omega
theorem lenW_pos {ns ls : List Pr} (h : wholeB ns ls = true) : 0 ≤ lenW ns ls := by
  have hwin := winB_true.2 (whole_win h).1
  unfold lenW
  rw [hwin]
  simp only [if_true]
  omega
theorem jointsI_pos {ns ls : List Pr} (h : wholeB ns ls = true) : 0 ≤ jointsI ns ls := by
  have hwin := winB_true.2 (whole_win h).1
  unfold jointsI
  rw [hwin]
  simp only [if_true]
  omega

theorem billI_bd (ns ls : List Pr) (a b c d : Int) : -1 ≤ billI ns ls a b c d [] ∧ billI ns ls a b c d [] ≤ 100000000 := by
  unfold billI
  cases h : billB ns ls a b c d []
  · simp
  · have h2 : tariffB a b c d = true := by
      unfold billB at h
      rw [Bool.and_eq_true, Bool.and_eq_true] at h
      exact h.2.1
    have hw : wholeB ns ls = true := by
      unfold billB at h
      rw [Bool.and_eq_true] at h
      exact h.1
    obtain ⟨⟨a0, a1⟩, ⟨b0, b1⟩, ⟨c0, c1⟩, ⟨d0, d1⟩⟩ := tariffB_bd h2
    have tb := totalW_pos hw
    have lb := lenW_pos hw
    have jb := jointsI_pos hw
    have tb2 := areaW_bd ns ls (outerW ns ls)
    rw [show areaW ns ls (outerW ns ls) = totalW ns ls from rfl] at tb2
    have lb2 := lenW_bd ns ls
    have jb2 := jointsI_bd ns ls
    obtain ⟨m1, m2⟩ := mulT (a := a) (x := totalW ns ls) (U := 16000) a0 a1 (by omega) (by omega)
    obtain ⟨m3, m4⟩ := mulT (a := b) (x := lenW ns ls) (U := 16000) b0 b1 (by omega) (by omega)
    obtain ⟨m5, m6⟩ := mulT (a := c) (x := jointsI ns ls) (U := 16000) c0 c1 (by omega) (by omega)
    have p1 := Int.mul_nonneg a0 tb
    have p2 := Int.mul_nonneg b0 lb
    have p3 := Int.mul_nonneg c0 jb
    simp only [if_true]
    rw [show sumA ns ls [] ([] : List Int).length = 0 from rfl, Int.mul_zero]
    omega

set_option maxHeartbeats 4000000 in
set_option maxRecDepth 100000 in
theorem iCheap_any (vn vl : Value) (ns ls : List Pr) (a b c d a' b' c' d' : Int) (w : World) (hn : RP w vn ns) (hl : RP w vl ls) :
    Calls Tryz.prog 15 #[.agg #[vn, vl], .agg #[.int .i64 a, .int .i64 b, .int .i64 c, .int .i64 d], .agg #[.int .i64 a', .int .i64 b', .int .i64 c', .int .i64 d']] w fun e w' => e = .returned (.int .i64 (cheapI (billI ns ls a b c d []) (billI ns ls a' b' c' d' []))) ∧ Below w.heap.size w w' := by
  have hba : Below w.heap.size w (((w.alloc (.cells #[vn, vl] 34)).alloc (.cells #[.int .i64 a, .int .i64 b, .int .i64 c, .int .i64 d] 36)).alloc (.cells #[.int .i64 a', .int .i64 b', .int .i64 c', .int .i64 d'] 36)) := by (repeat' (first | (with_reducible exact Below.refl _ _) | (with_reducible assumption) | (with_reducible refine Below.drew ?_) | (with_reducible refine below_drewN ?_ _) | (with_reducible refine Below.alloc ?_ ?_ _) | (with_reducible refine Below.setCell ?_ ?_ _) | (with_reducible refine Below.step (by assumption) ?_ ?_))); all_goals (first | omega | (simp; done) | (simp; omega))
  have hWA : Blk (((w.alloc (.cells #[vn, vl] 34)).alloc (.cells #[.int .i64 a, .int .i64 b, .int .i64 c, .int .i64 d] 36)).alloc (.cells #[.int .i64 a', .int .i64 b', .int .i64 c', .int .i64 d'] 36)) w.heap.size 34 #[vn, vl] := ((Blk.newAt rfl).alloc _).alloc _
  have hTA : Blk (((w.alloc (.cells #[vn, vl] 34)).alloc (.cells #[.int .i64 a, .int .i64 b, .int .i64 c, .int .i64 d] 36)).alloc (.cells #[.int .i64 a', .int .i64 b', .int .i64 c', .int .i64 d'] 36)) (w.heap.size + 1) 36 #[.int .i64 a, .int .i64 b, .int .i64 c, .int .i64 d] := (Blk.newAt (by simp)).alloc _
  have hUA : Blk (((w.alloc (.cells #[vn, vl] 34)).alloc (.cells #[.int .i64 a, .int .i64 b, .int .i64 c, .int .i64 d] 36)).alloc (.cells #[.int .i64 a', .int .i64 b', .int .i64 c', .int .i64 d'] 36)) (w.heap.size + 1 + 1) 36 #[.int .i64 a', .int .i64 b', .int .i64 c', .int .i64 d'] := Blk.newAt (by simp)
  have xb := billI_bd ns ls a b c d
  have yb := billI_bd ns ls a' b' c' d'
  have HX := Lib.hid (fun (v : World) (vp : Value) (hb : Below w.heap.size w v) (h3 : RI v vp []) => iBill_any vn vl vp ns ls a b c d [] v (hn.below hb) (hl.below hb) h3)
  have HY := Lib.hid (fun (v : World) (vp : Value) (hb : Below w.heap.size w v) (h3 : RI v vp []) => iBill_any vn vl vp ns ls a' b' c' d' [] v (hn.below hb) (hl.below hb) h3)
  generalize billI ns ls a b c d [] = x at *
  generalize billI ns ls a' b' c' d' [] = y at *
  have z1 : w.heap.size < w.heap.size + 1 + 1 + 1 := by omega
  have z2 : w.heap.size + 1 < w.heap.size + 1 + 1 + 1 := by omega
  have z3 : w.heap.size + 1 + 1 < w.heap.size + 1 + 1 + 1 := by omega
  have e3 : (((w.alloc (.cells #[vn, vl] 34)).alloc (.cells #[.int .i64 a, .int .i64 b, .int .i64 c, .int .i64 d] 36)).alloc (.cells #[.int .i64 a', .int .i64 b', .int .i64 c', .int .i64 d'] 36)).heap.size = w.heap.size + 1 + 1 + 1 := by simp
  have z1' := hWA.lt
  have z2' := hTA.lt
  have z3' := hUA.lt
  (have p_0 := hWA.cell 0); (have p_1 := hWA.cell 1); simp only [List.getElem?_toArray, List.getElem?_cons_succ, List.getElem?_cons_zero] at p_0 p_1
  (have q_0 := hTA.cell 0); (have q_1 := hTA.cell 1); (have q_2 := hTA.cell 2); (have q_3 := hTA.cell 3); simp only [List.getElem?_toArray, List.getElem?_cons_succ, List.getElem?_cons_zero] at q_0 q_1 q_2 q_3
  (have r_0 := hUA.cell 0); (have r_1 := hUA.cell 1); (have r_2 := hUA.cell 2); (have r_3 := hUA.cell 3); simp only [List.getElem?_toArray, List.getElem?_cons_succ, List.getElem?_cons_zero] at r_0 r_1 r_2 r_3
  go_enter Tryz.func15, Tryz.ntmps15
  go_wp2_with fail
  generalize hwA : ((w.alloc (.cells #[vn, vl] 34)).alloc (.cells #[.int .i64 a, .int .i64 b, .int .i64 c, .int .i64 d] 36)).alloc (.cells #[.int .i64 a', .int .i64 b', .int .i64 c', .int .i64 d'] 36) = wA at *
  clear hwA e3
  (refine wp_region_quietG (by kernel_rfl) (by kernel_rfl) (fun hG => ?_))
  go_big_quiet_step (fail)
  go_big_quiet_step (fail)
  go_big_quiet_step ((go_at_call 11; exact quietG (HX.out _ _ (hba.trans (Below.mono (Grw.below _) hba.size)) (RS.nil _ 1))))
  go_big_quiet_step (fail)
  go_big_quiet_step (fail)
  go_big_quiet_step ((go_at_call 11; exact quietG (HY.out _ _ (hba.trans (Below.mono (Grw.below _) hba.size)) (RS.nil _ 1))))
  go_big_quiet_step (fail)
  go_big_quiet_step (fail)
  refine wpQuiet_nil ?_
  clear hG
  rintro w1 ⟨⟨_, hb1⟩, rfl⟩
  have hbw1 := hba.trans (hb1.mono hba.size)
  clear hb1
  go_wp2_with (go_at_call 49; refine (compare_any _ _ _).mono ?_; rintro e w' ⟨rfl, rfl⟩)
  all_goals go_ret
  all_goals refine ⟨ret_int ?_, hbw1⟩
  all_goals unfold cheapI
  all_goals (repeat' split)
  all_goals first | rfl | omega

set_option maxHeartbeats 4000000 in
set_option maxRecDepth 100000 in
theorem sCheap_any (vn vl : Value) (ns ls : List Pr) (a b c d a' b' c' d' : Int) (w : World) (hn : RP w vn ns) (hl : RP w vl ls) :
    Calls Tryz.prog 14 #[.agg #[vn, vl], .agg #[.int .i64 a, .int .i64 b, .int .i64 c, .int .i64 d], .agg #[.int .i64 a', .int .i64 b', .int .i64 c', .int .i64 d']] w fun e w' => e = .returned (.int .i64 (cheapI (billI ns ls a b c d []) (billI ns ls a' b' c' d' []))) ∧ Below w.heap.size w w' := by
  have hba : Below w.heap.size w (((w.alloc (.cells #[vn, vl] 34)).alloc (.cells #[.int .i64 a, .int .i64 b, .int .i64 c, .int .i64 d] 36)).alloc (.cells #[.int .i64 a', .int .i64 b', .int .i64 c', .int .i64 d'] 36)) := by (repeat' (first | (with_reducible exact Below.refl _ _) | (with_reducible assumption) | (with_reducible refine Below.drew ?_) | (with_reducible refine below_drewN ?_ _) | (with_reducible refine Below.alloc ?_ ?_ _) | (with_reducible refine Below.setCell ?_ ?_ _) | (with_reducible refine Below.step (by assumption) ?_ ?_))); all_goals (first | omega | (simp; done) | (simp; omega))
  have hWA : Blk (((w.alloc (.cells #[vn, vl] 34)).alloc (.cells #[.int .i64 a, .int .i64 b, .int .i64 c, .int .i64 d] 36)).alloc (.cells #[.int .i64 a', .int .i64 b', .int .i64 c', .int .i64 d'] 36)) w.heap.size 34 #[vn, vl] := ((Blk.newAt rfl).alloc _).alloc _
  have hTA : Blk (((w.alloc (.cells #[vn, vl] 34)).alloc (.cells #[.int .i64 a, .int .i64 b, .int .i64 c, .int .i64 d] 36)).alloc (.cells #[.int .i64 a', .int .i64 b', .int .i64 c', .int .i64 d'] 36)) (w.heap.size + 1) 36 #[.int .i64 a, .int .i64 b, .int .i64 c, .int .i64 d] := (Blk.newAt (by simp)).alloc _
  have hUA : Blk (((w.alloc (.cells #[vn, vl] 34)).alloc (.cells #[.int .i64 a, .int .i64 b, .int .i64 c, .int .i64 d] 36)).alloc (.cells #[.int .i64 a', .int .i64 b', .int .i64 c', .int .i64 d'] 36)) (w.heap.size + 1 + 1) 36 #[.int .i64 a', .int .i64 b', .int .i64 c', .int .i64 d'] := Blk.newAt (by simp)
  have xb := billI_bd ns ls a b c d
  have yb := billI_bd ns ls a' b' c' d'
  have HX := Lib.hid (fun (v : World) (vp : Value) (hb : Below w.heap.size w v) (h3 : RI v vp []) => sBill_any vn vl vp ns ls a b c d [] v (hn.below hb) (hl.below hb) h3)
  have HY := Lib.hid (fun (v : World) (vp : Value) (hb : Below w.heap.size w v) (h3 : RI v vp []) => sBill_any vn vl vp ns ls a' b' c' d' [] v (hn.below hb) (hl.below hb) h3)
  generalize billI ns ls a b c d [] = x at *
  generalize billI ns ls a' b' c' d' [] = y at *
  go_enter Tryz.func14, Tryz.ntmps14
  go_wp2_with fail
  have hb1 : Below (((w.alloc (.cells #[vn, vl] 34)).alloc (.cells #[.int .i64 a, .int .i64 b, .int .i64 c, .int .i64 d] 36)).alloc (.cells #[.int .i64 a', .int .i64 b', .int .i64 c', .int .i64 d'] 36)).heap.size (((w.alloc (.cells #[vn, vl] 34)).alloc (.cells #[.int .i64 a, .int .i64 b, .int .i64 c, .int .i64 d] 36)).alloc (.cells #[.int .i64 a', .int .i64 b', .int .i64 c', .int .i64 d'] 36)) ((((w.alloc (.cells #[vn, vl] 34)).alloc (.cells #[.int .i64 a, .int .i64 b, .int .i64 c, .int .i64 d] 36)).alloc (.cells #[.int .i64 a', .int .i64 b', .int .i64 c', .int .i64 d'] 36)).alloc (.cells #[] 3)) := by (repeat' (first | (with_reducible exact Below.refl _ _) | (with_reducible assumption) | (with_reducible refine Below.drew ?_) | (with_reducible refine below_drewN ?_ _) | (with_reducible refine Below.alloc ?_ ?_ _) | (with_reducible refine Below.setCell ?_ ?_ _) | (with_reducible refine Below.step (by assumption) ?_ ?_))); all_goals (first | omega | (simp; done) | (simp; omega))
  have hbb1 := hba.trans (hb1.mono hba.size)
  have e3 : (((w.alloc (.cells #[vn, vl] 34)).alloc (.cells #[.int .i64 a, .int .i64 b, .int .i64 c, .int .i64 d] 36)).alloc (.cells #[.int .i64 a', .int .i64 b', .int .i64 c', .int .i64 d'] 36)).heap.size = w.heap.size + 1 + 1 + 1 := by simp
  refine (HX.out _ _ hbb1 (RI_lit (by simp) rfl rfl rfl (by simp [maxLen]))).mono ?_
  rintro e w2 ⟨rfl, hb2⟩
  have hbw2 := hbb1.trans (hb2.mono hbb1.size)
  have hW2 := (hWA.below hb1 hWA.lt).below hb2 (hWA.below hb1 hWA.lt).lt
  have hU2 := (hUA.below hb1 hUA.lt).below hb2 (hUA.below hb1 hUA.lt).lt
  clear hba hWA hTA hUA hb1 hbb1 hb2 e3
  (have p_0 := hW2.cell 0); (have p_1 := hW2.cell 1); simp only [List.getElem?_toArray, List.getElem?_cons_succ, List.getElem?_cons_zero] at p_0 p_1
  (have r_0 := hU2.cell 0); (have r_1 := hU2.cell 1); (have r_2 := hU2.cell 2); (have r_3 := hU2.cell 3); simp only [List.getElem?_toArray, List.getElem?_cons_succ, List.getElem?_cons_zero] at r_0 r_1 r_2 r_3
  have hb3 : Below w2.heap.size w2 (w2.alloc (.cells #[] 3)) := by (repeat' (first | (with_reducible exact Below.refl _ _) | (with_reducible assumption) | (with_reducible refine Below.drew ?_) | (with_reducible refine below_drewN ?_ _) | (with_reducible refine Below.alloc ?_ ?_ _) | (with_reducible refine Below.setCell ?_ ?_ _) | (with_reducible refine Below.step (by assumption) ?_ ?_))); all_goals (first | omega | (simp; done) | (simp; omega))
  have hbw3 := hbw2.trans (hb3.mono hbw2.size)
  go_wp2_with fail
  refine (HY.out _ _ hbw3 (RI_lit (by simp) rfl rfl rfl (by simp [maxLen]))).mono ?_
  rintro e w4 ⟨rfl, hb4⟩
  have hbw4 := hbw3.trans (hb4.mono hbw3.size)
  go_wp2
  all_goals go_ret
  all_goals refine ⟨ret_int ?_, hbw4⟩
  all_goals unfold cheapI
  all_goals first | (rw [if_pos (by omega)]; done) | (rw [if_neg (by omega), if_pos (by omega)]; done) | (rw [if_neg (by omega), if_neg (by omega), if_pos (by omega)]; done) | (rw [if_neg (by omega), if_neg (by omega), if_neg (by omega)]; done)

set_option maxHeartbeats 8000000 in
set_option maxRecDepth 100000 in
theorem cheapLaw_any (vn vl : Value) (ns ls : List Pr) (a b c d a' b' c' d' : Int) (w : World) (hn : RP w vn ns) (hl : RP w vl ls) :
    Calls Tryz.prog 4 #[.agg #[vn, vl], .agg #[.int .i64 a, .int .i64 b, .int .i64 c, .int .i64 d], .agg #[.int .i64 a', .int .i64 b', .int .i64 c', .int .i64 d']] w fun e w' => e = .returned (.bool true) ∧ Below w.heap.size w w' := by
  obtain ⟨x, hx⟩ : ∃ x, szW 1048576 ns.length ls.length = x := ⟨_, rfl⟩
  have HX := Lib.hid hx
  have hba : Below w.heap.size w (((w.alloc (.cells #[vn, vl] 25)).alloc (.cells #[.int .i64 a, .int .i64 b, .int .i64 c, .int .i64 d] 27)).alloc (.cells #[.int .i64 a', .int .i64 b', .int .i64 c', .int .i64 d'] 27)) := by (repeat' (first | (with_reducible exact Below.refl _ _) | (with_reducible assumption) | (with_reducible refine Below.drew ?_) | (with_reducible refine below_drewN ?_ _) | (with_reducible refine Below.alloc ?_ ?_ _) | (with_reducible refine Below.setCell ?_ ?_ _) | (with_reducible refine Below.step (by assumption) ?_ ?_))); all_goals (first | omega | (simp; done) | (simp; omega))
  have hVA : Blk (((w.alloc (.cells #[vn, vl] 25)).alloc (.cells #[.int .i64 a, .int .i64 b, .int .i64 c, .int .i64 d] 27)).alloc (.cells #[.int .i64 a', .int .i64 b', .int .i64 c', .int .i64 d'] 27)) w.heap.size 25 #[vn, vl] := ((Blk.newAt rfl).alloc _).alloc _
  have hTA : Blk (((w.alloc (.cells #[vn, vl] 25)).alloc (.cells #[.int .i64 a, .int .i64 b, .int .i64 c, .int .i64 d] 27)).alloc (.cells #[.int .i64 a', .int .i64 b', .int .i64 c', .int .i64 d'] 27)) (w.heap.size + 1) 27 #[.int .i64 a, .int .i64 b, .int .i64 c, .int .i64 d] := (Blk.newAt (by simp)).alloc _
  have hUA : Blk (((w.alloc (.cells #[vn, vl] 25)).alloc (.cells #[.int .i64 a, .int .i64 b, .int .i64 c, .int .i64 d] 27)).alloc (.cells #[.int .i64 a', .int .i64 b', .int .i64 c', .int .i64 d'] 27)) (w.heap.size + 1 + 1) 27 #[.int .i64 a', .int .i64 b', .int .i64 c', .int .i64 d'] := Blk.newAt (by simp)
  by_cases hx0 : x < 0
  · clear hx
    go_enter Tryz.func4, Tryz.ntmps4
    go_wp2_with fail
    refine (szWindow_at _ _ ns ls _ x _ (hn.below hba) (hl.below hba) (by omega) (by omega) HX).mono ?_
    rintro e w1 ⟨rfl, hb1⟩; (first | (with_reducible have hcf1 := bcell_drew hb1) | have hcf1 := bcell hb1); obtain ⟨hc1, hf1⟩ := hcf1; have hz1 := hb1.size; (try simp at hz1); (try have hp1_0 : w.heap.size < w1.heap.size := by omega); (try have hp1_1 : w.heap.size + 1 < w1.heap.size := by omega); (try have hp1_2 : w.heap.size + 1 + 1 < w1.heap.size := by omega); (try have hp1_3 : w.heap.size + 1 + 1 + 1 < w1.heap.size := by omega)
    go_wp2
    go_ret
    exact ⟨rfl, by (repeat' (first | (with_reducible exact Below.refl _ _) | (with_reducible assumption) | (with_reducible refine Below.drew ?_) | (with_reducible refine below_drewN ?_ _) | (with_reducible refine Below.alloc ?_ ?_ _) | (with_reducible refine Below.setCell ?_ ?_ _) | (with_reducible refine Below.step (by assumption) ?_ ?_))); all_goals (first | omega | (simp; done) | (simp; omega))⟩
  · obtain ⟨s1, s2, s3, s4⟩ := szW_le (by rw [hx]; exact hx0)
    clear s3 s4 hx
    obtain ⟨J, hJ⟩ : ∃ J, cheapI (billI ns ls a b c d []) (billI ns ls a' b' c' d' []) = J := ⟨_, rfl⟩
    have HSB := Lib.hid (fun (u : World) (un ul : Value) (h1 : RP u un ns) (h2 : RP u ul ls) => sCheap_any un ul ns ls a b c d a' b' c' d' u h1 h2)
    have HIB := Lib.hid (fun (u : World) (un ul : Value) (h1 : RP u un ns) (h2 : RP u ul ls) => iCheap_any un ul ns ls a b c d a' b' c' d' u h1 h2)
    rw [hJ] at HSB HIB
    clear hJ
    go_enter Tryz.func4, Tryz.ntmps4
    go_wp2_with fail
    refine (szWindow_at _ _ ns ls _ x _ (hn.below hba) (hl.below hba) (by omega) (by omega) HX).mono ?_
    rintro e w1 ⟨rfl, hb1⟩
    have hbw1 : Below w.heap.size w w1 := hba.trans (hb1.mono hba.size)
    have hV1 := hVA.below hb1 hVA.lt
    have hT1 := hTA.below hb1 hTA.lt
    have hU1 := hUA.below hb1 hUA.lt
    clear hb1 HX hba hVA hTA hUA
    (have a_0 := hV1.cell 0); (have a_1 := hV1.cell 1); simp only [List.getElem?_toArray, List.getElem?_cons_succ, List.getElem?_cons_zero] at a_0 a_1
    (have t_0 := hT1.cell 0); (have t_1 := hT1.cell 1); (have t_2 := hT1.cell 2); (have t_3 := hT1.cell 3); simp only [List.getElem?_toArray, List.getElem?_cons_succ, List.getElem?_cons_zero] at t_0 t_1 t_2 t_3
    (have u_0 := hU1.cell 0); (have u_1 := hU1.cell 1); (have u_2 := hU1.cell 2); (have u_3 := hU1.cell 3); simp only [List.getElem?_toArray, List.getElem?_cons_succ, List.getElem?_cons_zero] at u_0 u_1 u_2 u_3
    have z1 := hV1.lt
    have z2 := hT1.lt
    have z3 := hU1.lt
    go_wp2_with fail
    go_region_held3 (fun w' => w'.cell? ⟨w.heap.size, 0, none⟩ = some vn ∧ w'.cell? ⟨w.heap.size, 1, none⟩ = some vl ∧ w'.cell? ⟨w.heap.size + 1, 0, none⟩ = some (.int .i64 a) ∧ w'.cell? ⟨w.heap.size + 1, 1, none⟩ = some (.int .i64 b) ∧ w'.cell? ⟨w.heap.size + 1, 2, none⟩ = some (.int .i64 c) ∧ w'.cell? ⟨w.heap.size + 1, 3, none⟩ = some (.int .i64 d) ∧ w'.cell? ⟨w.heap.size + 1 + 1, 0, none⟩ = some (.int .i64 a') ∧ w'.cell? ⟨w.heap.size + 1 + 1, 1, none⟩ = some (.int .i64 b') ∧ w'.cell? ⟨w.heap.size + 1 + 1, 2, none⟩ = some (.int .i64 c') ∧ w'.cell? ⟨w.heap.size + 1 + 1, 3, none⟩ = some (.int .i64 d'))
      (go_keep)
      (first | (go_at_call 8; refine Calls.mono (toWindow_any vn vl ns ls _ (hn.below ?c1) (hl.below ?c1) s1 s2) ?_; (case c1 => (repeat' (first | (with_reducible exact Below.refl _ _) | (with_reducible assumption) | (with_reducible refine Below.drew ?_) | (with_reducible refine below_drewN ?_ _) | (with_reducible refine Below.alloc ?_ ?_ _) | (with_reducible refine Below.setCell ?_ ?_ _) | (with_reducible refine Below.step (by assumption) ?_ ?_))); all_goals (first | omega | (simp; done) | (simp; omega))); rintro e w2 ⟨An2, cn2, Al2, cl2, rfl, ho2, hb2⟩; (first | (with_reducible have hcf2 := bcell_drew hb2) | have hcf2 := bcell hb2); obtain ⟨hc2, hf2⟩ := hcf2; have hz2 := hb2.size; (try simp at hz2); (try have hp2_0 : w.heap.size < w2.heap.size := by omega); (try have hp2_1 : w.heap.size + 1 < w2.heap.size := by omega); (try have hp2_2 : w.heap.size + 1 + 1 < w2.heap.size := by omega); (try have hp2_3 : w.heap.size + 1 + 1 + 1 < w2.heap.size := by omega); (have hbw2 : Below w.heap.size w w2 := by (repeat' (first | (with_reducible exact Below.refl _ _) | (with_reducible assumption) | (with_reducible refine Below.drew ?_) | (with_reducible refine below_drewN ?_ _) | (with_reducible refine Below.alloc ?_ ?_ _) | (with_reducible refine Below.setCell ?_ ?_ _) | (with_reducible refine Below.step (by assumption) ?_ ?_))); all_goals (first | omega | (simp; done) | (simp; omega))); (have z12 : w.heap.size < w2.heap.size := by omega); (have z22 : w.heap.size + 1 < w2.heap.size := by omega); (have z32 : w.heap.size + 1 + 1 < w2.heap.size := by omega)) | (go_at_call_of 9 a; refine (toTariff_any a b c d _).mono ?_; rintro e w3 ⟨rfl, hb3⟩; (first | (with_reducible have hcf3 := bcell_drew hb3) | have hcf3 := bcell hb3); obtain ⟨hc3, hf3⟩ := hcf3; have hz3 := hb3.size; (try simp at hz3); (try have hp3_0 : w.heap.size < w3.heap.size := by omega); (try have hp3_1 : w.heap.size + 1 < w3.heap.size := by omega); (try have hp3_2 : w.heap.size + 1 + 1 < w3.heap.size := by omega); (try have hp3_3 : w.heap.size + 1 + 1 + 1 < w3.heap.size := by omega); (have hbw3 : Below w.heap.size w w3 := by (repeat' (first | (with_reducible exact Below.refl _ _) | (with_reducible assumption) | (with_reducible refine Below.drew ?_) | (with_reducible refine below_drewN ?_ _) | (with_reducible refine Below.alloc ?_ ?_ _) | (with_reducible refine Below.setCell ?_ ?_ _) | (with_reducible refine Below.step (by assumption) ?_ ?_))); all_goals (first | omega | (simp; done) | (simp; omega))); (have z13 : w.heap.size < w3.heap.size := by omega); (have z23 : w.heap.size + 1 < w3.heap.size := by omega); (have z33 : w.heap.size + 1 + 1 < w3.heap.size := by omega)) | (go_at_call_of 9 a'; refine (toTariff_any a' b' c' d' _).mono ?_; rintro e w4 ⟨rfl, hb4⟩; (first | (with_reducible have hcf4 := bcell_drew hb4) | have hcf4 := bcell hb4); obtain ⟨hc4, hf4⟩ := hcf4; have hz4 := hb4.size; (try simp at hz4); (try have hp4_0 : w.heap.size < w4.heap.size := by omega); (try have hp4_1 : w.heap.size + 1 < w4.heap.size := by omega); (try have hp4_2 : w.heap.size + 1 + 1 < w4.heap.size := by omega); (try have hp4_3 : w.heap.size + 1 + 1 + 1 < w4.heap.size := by omega); (have hbw4 : Below w.heap.size w w4 := by (repeat' (first | (with_reducible exact Below.refl _ _) | (with_reducible assumption) | (with_reducible refine Below.drew ?_) | (with_reducible refine below_drewN ?_ _) | (with_reducible refine Below.alloc ?_ ?_ _) | (with_reducible refine Below.setCell ?_ ?_ _) | (with_reducible refine Below.step (by assumption) ?_ ?_))); all_goals (first | omega | (simp; done) | (simp; omega))); (have z14 : w.heap.size < w4.heap.size := by omega); (have z24 : w.heap.size + 1 < w4.heap.size := by omega); (have z34 : w.heap.size + 1 + 1 < w4.heap.size := by omega)) | (go_at_call 14; have hb24 : Below w2.heap.size w2 w4 := hb3.trans (hb4.mono hb3.size); refine Calls.mono (HSB.out _ _ _ (ho2.1.reads.below hb24) (ho2.2.1.reads.below hb24)) ?_; rintro e w5 ⟨rfl, hb5⟩; (first | (with_reducible have hcf5 := bcell_drew hb5) | have hcf5 := bcell hb5); obtain ⟨hc5, hf5⟩ := hcf5; have hz5 := hb5.size; (try simp at hz5); (try have hp5_0 : w.heap.size < w5.heap.size := by omega); (try have hp5_1 : w.heap.size + 1 < w5.heap.size := by omega); (try have hp5_2 : w.heap.size + 1 + 1 < w5.heap.size := by omega); (try have hp5_3 : w.heap.size + 1 + 1 + 1 < w5.heap.size := by omega); (have hbw5 : Below w.heap.size w w5 := hbw4.trans (hb5.mono hbw4.size)); (have hb15 : Below w1.heap.size w1 w5 := ((below_drew0 hb2).trans (hb24.mono (below_drew0 hb2).size)).trans (hb5.mono (Nat.le_trans (below_drew0 hb2).size hb24.size)))))
    have hV5 := hV1.below hb15 z1
    have hT5 := hT1.below hb15 z2
    have hU5 := hU1.below hb15 z3
    clear hV1 hT1 hU1 a_0 a_1 t_0 t_1 t_2 t_3 u_0 u_1 u_2 u_3 hb2 hb3 hb4 hb5 hc2 hc3 hc4 hc5 hf2 hf3 hf4 hf5 ho2 hbw1 hbw2 hbw3 hbw4 hb15 hb24
    (have a_0 := hV5.cell 0); (have a_1 := hV5.cell 1); simp only [List.getElem?_toArray, List.getElem?_cons_succ, List.getElem?_cons_zero] at a_0 a_1
    go_wp2_with fail
    refine (toWindow_any vn vl ns ls _ (hn.below hbw5) (hl.below hbw5) s1 s2).mono ?_
    rintro e w6 ⟨An6, cn6, Al6, cl6, rfl, ho6, hb6⟩
    have hbX : Below w6.heap.size w6 (w6.alloc (.cells #[.slice An6 ns.length cn6, .slice Al6 ls.length cl6] 34)) := by (repeat' (first | (with_reducible exact Below.refl _ _) | (with_reducible assumption) | (with_reducible refine Below.drew ?_) | (with_reducible refine below_drewN ?_ _) | (with_reducible refine Below.alloc ?_ ?_ _) | (with_reducible refine Below.setCell ?_ ?_ _) | (with_reducible refine Below.step (by assumption) ?_ ?_))); all_goals (first | omega | (simp; done) | (simp; omega))
    have hV7 := (hV5.below hb6 hV5.lt).alloc (.cells #[.slice An6 ns.length cn6, .slice Al6 ls.length cl6] 34)
    have hT7 := (hT5.below hb6 hT5.lt).alloc (.cells #[.slice An6 ns.length cn6, .slice Al6 ls.length cl6] 34)
    have hU7 := (hU5.below hb6 hU5.lt).alloc (.cells #[.slice An6 ns.length cn6, .slice Al6 ls.length cl6] 34)
    have hX7 : Blk (w6.alloc (.cells #[.slice An6 ns.length cn6, .slice Al6 ls.length cl6] 34)) w6.heap.size 34 #[.slice An6 ns.length cn6, .slice Al6 ls.length cl6] := Blk.newAt rfl
    have hbw6 : Below w.heap.size w w6 := hbw5.trans (hb6.mono hbw5.size)
    have hbw7 := hbw6.trans (hbX.mono hbw6.size)
    have r7n := ho6.1.reads.below hbX
    have r7l := ho6.2.1.reads.below hbX
    have n1 := hV7.lt
    have n2 := hX7.lt
    have n3 := hT7.lt
    have n4 := hU7.lt
    clear hb6 hV5 hT5 hU5 hbw5 hbw6 a_0 a_1 hbX ho6
    (have a_0 := hV7.cell 0); (have a_1 := hV7.cell 1); simp only [List.getElem?_toArray, List.getElem?_cons_succ, List.getElem?_cons_zero] at a_0 a_1
    (have x_0 := hX7.cell 0); (have x_1 := hX7.cell 1); simp only [List.getElem?_toArray, List.getElem?_cons_succ, List.getElem?_cons_zero] at x_0 x_1
    (have t_0 := hT7.cell 0); (have t_1 := hT7.cell 1); (have t_2 := hT7.cell 2); (have t_3 := hT7.cell 3); simp only [List.getElem?_toArray, List.getElem?_cons_succ, List.getElem?_cons_zero] at t_0 t_1 t_2 t_3
    (have u_0 := hU7.cell 0); (have u_1 := hU7.cell 1); (have u_2 := hU7.cell 2); (have u_3 := hU7.cell 3); simp only [List.getElem?_toArray, List.getElem?_cons_succ, List.getElem?_cons_zero] at u_0 u_1 u_2 u_3
    go_wp2_with fail
    generalize hB6 : w6.heap.size = B6 at *
    generalize hw7 : w6.alloc (.cells #[.slice An6 ns.length cn6, .slice Al6 ls.length cl6] 34) = w7 at *
    clear hB6 hw7
    go_region_held3 (fun w' => w'.cell? ⟨B6, 0, none⟩ = some (.slice An6 ns.length cn6) ∧ w'.cell? ⟨B6, 1, none⟩ = some (.slice Al6 ls.length cl6) ∧ w'.cell? ⟨w.heap.size + 1, 0, none⟩ = some (.int .i64 a) ∧ w'.cell? ⟨w.heap.size + 1, 1, none⟩ = some (.int .i64 b) ∧ w'.cell? ⟨w.heap.size + 1, 2, none⟩ = some (.int .i64 c) ∧ w'.cell? ⟨w.heap.size + 1, 3, none⟩ = some (.int .i64 d) ∧ w'.cell? ⟨w.heap.size + 1 + 1, 0, none⟩ = some (.int .i64 a') ∧ w'.cell? ⟨w.heap.size + 1 + 1, 1, none⟩ = some (.int .i64 b') ∧ w'.cell? ⟨w.heap.size + 1 + 1, 2, none⟩ = some (.int .i64 c') ∧ w'.cell? ⟨w.heap.size + 1 + 1, 3, none⟩ = some (.int .i64 d'))
      (go_keep)
      (first | (go_at_call_of 9 a; refine (toTariff_any a b c d _).mono ?_; rintro e w8 ⟨rfl, hb8⟩; (first | (with_reducible have hcf8 := bcell_drew hb8) | have hcf8 := bcell hb8); obtain ⟨hc8, hf8⟩ := hcf8; have hz8 := hb8.size; (try simp at hz8); (try have hp8_0 : w.heap.size < w8.heap.size := by omega); (try have hp8_1 : w.heap.size + 1 < w8.heap.size := by omega); (try have hp8_2 : w.heap.size + 1 + 1 < w8.heap.size := by omega); (try have hp8_3 : w.heap.size + 1 + 1 + 1 < w8.heap.size := by omega); (have m18 : B6 < w8.heap.size := by omega); (have m28 : w.heap.size + 1 < w8.heap.size := by omega); (have m38 : w.heap.size + 1 + 1 < w8.heap.size := by omega); (have hb78 : Below w7.heap.size w7 w8 := below_drew0 hb8)) | (go_at_call_of 9 a'; refine (toTariff_any a' b' c' d' _).mono ?_; rintro e w9 ⟨rfl, hb9⟩; (first | (with_reducible have hcf9 := bcell_drew hb9) | have hcf9 := bcell hb9); obtain ⟨hc9, hf9⟩ := hcf9; have hz9 := hb9.size; (try simp at hz9); (try have hp9_0 : w.heap.size < w9.heap.size := by omega); (try have hp9_1 : w.heap.size + 1 < w9.heap.size := by omega); (try have hp9_2 : w.heap.size + 1 + 1 < w9.heap.size := by omega); (try have hp9_3 : w.heap.size + 1 + 1 + 1 < w9.heap.size := by omega); (have m19 : B6 < w9.heap.size := by omega); (have m29 : w.heap.size + 1 < w9.heap.size := by omega); (have m39 : w.heap.size + 1 + 1 < w9.heap.size := by omega); (have hb79 : Below w7.heap.size w7 w9 := hb78.trans (hb9.mono hb78.size))) | (go_at_call 15; refine Calls.mono (HIB.out _ _ _ (r7n.below hb79) (r7l.below hb79)) ?_; rintro e w10 ⟨rfl, hb10⟩; (first | (with_reducible have hcf10 := bcell_drew hb10) | have hcf10 := bcell hb10); obtain ⟨hc10, hf10⟩ := hcf10; have hz10 := hb10.size; (try simp at hz10); (try have hp10_0 : w.heap.size < w10.heap.size := by omega); (try have hp10_1 : w.heap.size + 1 < w10.heap.size := by omega); (try have hp10_2 : w.heap.size + 1 + 1 < w10.heap.size := by omega); (try have hp10_3 : w.heap.size + 1 + 1 + 1 < w10.heap.size := by omega); (have hb710 : Below w7.heap.size w7 w10 := hb79.trans (hb10.mono hb79.size))))
    have hV9 := hV7.below hb710 n1
    have hX9 := hX7.below hb710 n2
    have r9n := r7n.below hb710
    have r9l := r7l.below hb710
    have hbw9 := hbw7.trans (hb710.mono hbw7.size)
    have p1 := hV9.lt
    have p2 := hX9.lt
    clear hb710 hb78 hb79 hV7 hX7 hT7 hU7 r7n r7l hbw7 a_0 a_1 x_0 x_1 t_0 t_1 t_2 t_3 u_0 u_1 u_2 u_3 hb8 hb9 hb10 hc8 hc9 hc10 hf8 hf9 hf10
    (have a_0 := hV9.cell 0); (have a_1 := hV9.cell 1); simp only [List.getElem?_toArray, List.getElem?_cons_succ, List.getElem?_cons_zero] at a_0 a_1
    (have x_0 := hX9.cell 0); (have x_1 := hX9.cell 1); simp only [List.getElem?_toArray, List.getElem?_cons_succ, List.getElem?_cons_zero] at x_0 x_1
    go_wp2_with fail
    go_region_held3 (fun w' => w'.cell? ⟨w.heap.size, 0, none⟩ = some vn ∧ w'.cell? ⟨w.heap.size, 1, none⟩ = some vl ∧ w'.cell? ⟨B6, 0, none⟩ = some (.slice An6 ns.length cn6) ∧ w'.cell? ⟨B6, 1, none⟩ = some (.slice Al6 ls.length cl6))
      (go_keep)
      (first | (go_at_call 8; refine Calls.mono (toWindow_any vn vl ns ls _ (hn.below ?c1) (hl.below ?c1) s1 s2) ?_; (case c1 => (repeat' (first | (with_reducible exact Below.refl _ _) | (with_reducible assumption) | (with_reducible refine Below.drew ?_) | (with_reducible refine below_drewN ?_ _) | (with_reducible refine Below.alloc ?_ ?_ _) | (with_reducible refine Below.setCell ?_ ?_ _) | (with_reducible refine Below.step (by assumption) ?_ ?_))); all_goals (first | omega | (simp; done) | (simp; omega))); rintro e w11 ⟨An11, cn11, Al11, cl11, rfl, ho11, hb11⟩; (first | (with_reducible have hcf11 := bcell_drew hb11) | have hcf11 := bcell hb11); obtain ⟨hc11, hf11⟩ := hcf11; have hz11 := hb11.size; (try simp at hz11); (try have hp11_0 : w.heap.size < w11.heap.size := by omega); (try have hp11_1 : w.heap.size + 1 < w11.heap.size := by omega); (try have hp11_2 : w.heap.size + 1 + 1 < w11.heap.size := by omega); (try have hp11_3 : w.heap.size + 1 + 1 + 1 < w11.heap.size := by omega); (have o10 : w.heap.size < w11.heap.size := by omega); (have mm10 : B6 < w11.heap.size := by omega)) | (go_at_call 12; refine (eqWindow_any _ _ _ _ ns ls _ (r9n.below ?c2) (r9l.below ?c2) (ho11.1.reads) (ho11.2.1.reads)).mono ?_; (case c2 => (repeat' (first | (with_reducible exact Below.refl _ _) | (with_reducible assumption) | (with_reducible refine Below.drew ?_) | (with_reducible refine below_drewN ?_ _) | (with_reducible refine Below.alloc ?_ ?_ _) | (with_reducible refine Below.setCell ?_ ?_ _) | (with_reducible refine Below.step (by assumption) ?_ ?_))); all_goals (first | omega | (simp; done) | (simp; omega))); rintro e w12 ⟨rfl, hb12⟩; (first | (with_reducible have hcf12 := bcell_drew hb12) | have hcf12 := bcell hb12); obtain ⟨hc12, hf12⟩ := hcf12; have hz12 := hb12.size; (try simp at hz12); (try have hp12_0 : w.heap.size < w12.heap.size := by omega); (try have hp12_1 : w.heap.size + 1 < w12.heap.size := by omega); (try have hp12_2 : w.heap.size + 1 + 1 < w12.heap.size := by omega); (try have hp12_3 : w.heap.size + 1 + 1 + 1 < w12.heap.size := by omega)))
    go_wp2
    go_ret
    exact ⟨rfl, by (repeat' (first | (with_reducible exact Below.refl _ _) | (with_reducible assumption) | (with_reducible refine Below.drew ?_) | (with_reducible refine below_drewN ?_ _) | (with_reducible refine Below.alloc ?_ ?_ _) | (with_reducible refine Below.setCell ?_ ?_ _) | (with_reducible refine Below.step (by assumption) ?_ ?_))); all_goals (first | omega | (simp; done) | (simp; omega))⟩

end Go.Proofs.YtognjdappchpkaaGreat

namespace Go.Proofs.YtognjdappchpkaaGreat
open Go.ChangeShapes Go.WideShapes Go.ChangeAt Go.RowKit Go.Joins

set_option maxRecDepth 100000 in
theorem cheap_lifted (os : Os) (started : os.Started) (H : Type) (enc : TypeId × Value → H) : ReturnsInHanded {} Tryz.checked os 4 .any (Rows.fnExactCheaperTariffSpec.pre6 enc Tryz.prog Tryz.f4 Rows.fnExactCheaperTariffRow.domain false) (Rows.fnExactCheaperTariffSpec.post enc Tryz.prog Tryz.f4 false true false false) := by
  refine returnsInHanded_of_change (C := Tryz.checked) ownK started (by kernel_rfl) Tryz.func4 (ChangeSpec.witness6 (enc := enc) (C := Tryz.checked) false ⟨#[], #[.agg #[.slice none 0 0, .slice none 0 0], .agg #[.int .i64 0, .int .i64 0, .int .i64 0, .int .i64 0], .agg #[.int .i64 0, .int .i64 0, .int .i64 0, .int .i64 0]], []⟩ 8 (by kernel_rfl) (by kernel_rfl) (by kernel_rfl) (by kernel_rfl)) ?_
  intro W base args ds gs before hval0 hW hcnd _; have hval : ∀ (j : Nat) t v, Tryz.f4.params[j]? = some t → args[j]? = some v → Value.okWide Tryz.prog W .any base t v := hval0; have hW' := hW; obtain ⟨p, q, hA0, hV, rfl, hfz, hnd⟩ := hW; have hA : DataW.TrodAll enc Tryz.prog W 0 (fun _ => true) true Tryz.f4.params.toList args.toList ds p := hA0; rw [Tryz.params4] at hA hval
  obtain ⟨v0, v1, v2, d0, d1, d2, p0, p1, p2, rfl, rfl, rfl, h0, h1, h2⟩ := trodAll_three hA
  obtain ⟨vn0, vl0, ns0, ls0, rfl, hn0, hl0⟩ := open_window (hval 0 25 v0 rfl rfl) h0
  obtain ⟨c10, c11, c12, c13, y10, y11, y12, y13, m1, rfl, rfl, rfl, hy10, hy11, hy12, hy13⟩ := open_agg4 Tryz.underlying27 (by kernel_rfl) (by kernel_rfl) (hval 1 27 v1 rfl rfl) h1
  obtain ⟨a10, e10, rfl, wa10⟩ := DataW.trod_int Tryz.underlying3 hy10
  obtain ⟨a11, e11, rfl, wa11⟩ := DataW.trod_int Tryz.underlying3 hy11
  obtain ⟨a12, e12, rfl, wa12⟩ := DataW.trod_int Tryz.underlying3 hy12
  obtain ⟨a13, e13, rfl, wa13⟩ := DataW.trod_int Tryz.underlying3 hy13
  simp at e10 e11 e12 e13
  subst e10 e11 e12 e13
  obtain ⟨c20, c21, c22, c23, y20, y21, y22, y23, m2, rfl, rfl, rfl, hy20, hy21, hy22, hy23⟩ := open_agg4 Tryz.underlying27 (by kernel_rfl) (by kernel_rfl) (hval 2 27 v2 rfl rfl) h2
  obtain ⟨a20, e20, rfl, wa20⟩ := DataW.trod_int Tryz.underlying3 hy20
  obtain ⟨a21, e21, rfl, wa21⟩ := DataW.trod_int Tryz.underlying3 hy21
  obtain ⟨a22, e22, rfl, wa22⟩ := DataW.trod_int Tryz.underlying3 hy22
  obtain ⟨a23, e23, rfl, wa23⟩ := DataW.trod_int Tryz.underlying3 hy23
  simp at e20 e21 e22 e23
  subst e20 e21 e22 e23
  refine (cheapLaw_any _ _ ns0 ls0 _ _ _ _ _ _ _ _ W hn0 hl0).mono fun e W' ⟨he, hb⟩ => ?_
  subst he
  exact ⟨_, rfl, law_post laidOutK Tryz.underlying4 rfl rfl (fun ds h => by match ds, h with | [_, _, _], _ => rfl) (by rw [Tryz.params4]; simp only [List.mem_cons, List.mem_nil_iff, or_false, forall_eq_or_imp, forall_eq]; repeat (first | exact ⟨by kernel_rfl, of_decide_eq_true (by kernel_rfl)⟩ | refine ⟨⟨by kernel_rfl, of_decide_eq_true (by kernel_rfl)⟩, ?_⟩)) hW' rfl hb⟩

set_option maxHeartbeats 8000000 in
theorem cheap_holds : Rows.FnExactCheaperTariffSaid :=
  OpenClaim.holds_of_wide 4 Tryz.f4 rfl rfl rfl rfl rfl rfl rfl ⟨rfl, rfl, rfl, rfl, rfl⟩ rfl rfl rfl rfl rfl (by as_aux_lemma => kernel_rfl) Tryz.func4 (by show joinedFacts Tryz.prog 4 Tryz.f4 Rows.fnExactCheaperTariffSpec Rows.fnExactCheaperTariffRow = true; unfold joinedFacts; simp only [Bool.and_eq_true]; (repeat' apply And.intro); all_goals first | with_reducible exact laidOutK | with_reducible exact mapsRowedK | with_reducible exact mayEnterK | with_reducible exact lift_eq rfl | with_reducible exact make_eq rfl | as_aux_lemma => kernel_rfl) (by as_aux_lemma => exact of_decide_eq_true (by kernel_rfl)) (by unfold Func.isWrapper; rw [if_neg (by as_aux_lemma => exact of_decide_eq_false (by kernel_rfl))]; exact ⟨rfl, rfl⟩) (fun os started H enc _ => cheap_lifted os started H enc)

end Go.Proofs.YtognjdappchpkaaGreat
