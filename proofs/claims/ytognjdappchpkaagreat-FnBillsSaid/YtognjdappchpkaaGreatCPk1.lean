/-
  A byte of a code by its place.
-/
import Derived.Test.YtognjdappchpkaaGreatCPk0
import Derived.Test.YtognjdappchpkaaGreatWin
import Derived.Test.YtognjdappchpkaaGreatDeg
import Derived.Deep.RegionHeld3
import Derived.Test.YtognjdappchpkaaGreatSmall
import Derived.Deep.RegionWith
import Derived.Test.YtognjdappchpkaaGreatOwn
import Derived.Test.YtognjdappchpkaaGreatBlk
import Derived.Test.YtognjdappchpkaaGreatMarkI
import Derived.BigRegion
import Derived.Outline
import Derived.Deep.QuietTactic
import Derived.BigQuiet
import Derived.Test.YtognjdappchpkaaGreatDropA
import Derived.Test.YtognjdappchpkaaGreatAddS
import Derived.Test.YtognjdappchpkaaGreatLast
import Derived.Test.YtognjdappchpkaaGreatLastE
import Derived.Test.YtognjdappchpkaaGreatPart
set_option linter.unusedSimpArgs false
set_option linter.unusedVariables false
namespace Go.Proofs.YtognjdappchpkaaGreat
open Go.RowKit

theorem lenK_succ (ns ls : List Pr) (k : Nat) : lenK ns ls (k + 1) = lenK ns ls k + rootN (sqP (ndI ns (ndI ls k).1) (ndI ns (ndI ls k).2)).toNat := rfl

/-- What the square of lead k is. -/
theorem lead_sq {ns ls : List Pr} {k : Nat} (h : leadB ns (ndI ls k) = true) : ∃ (p q m : Nat), (ndI ls k).1 = p ∧ (ndI ls k).2 = q ∧ p < ns.length ∧ q < ns.length ∧ nodeB (ndI ns p).1 (ndI ns p).2 = true ∧ nodeB (ndI ns q).1 (ndI ns q).2 = true ∧ sqP (ndI ns p) (ndI ns q) = (m : Int) ∧ m ≤ 800 ∧
    lenK ns ls (k + 1) = lenK ns ls k + rootN m := by
  obtain ⟨h1, h2, h3, h4, h5, _⟩ := leadB_iff.1 h
  obtain ⟨p, hp⟩ : ∃ p : Nat, (ndI ls k).1 = p := ⟨(ndI ls k).1.toNat, by omega⟩
  obtain ⟨q, hq⟩ : ∃ q : Nat, (ndI ls k).2 = q := ⟨(ndI ls k).2.toNat, by omega⟩
  rw [hp] at h4 h1 h2
  rw [hq] at h5 h2 h3
  obtain ⟨m, h6, h7⟩ := sqP_bd _ _ h4 h5
  refine ⟨p, q, m, hp, hq, by omega, by omega, h4, h5, h6, h7, ?_⟩
  rw [lenK_succ, hp, hq, h6, Int.toNat_natCast]

set_option maxHeartbeats 8000000 in
set_option maxRecDepth 100000 in
theorem sLen_any (vn vl : Value) (ns ls : List Pr) (w : World) (hn : RP w vn ns) (hl : RP w vl ls) :
    Calls Tryz.prog 22 #[.agg #[vn, vl]] w fun e w' => e = .returned (.int .i64 (lenW ns ls)) ∧ Below w.heap.size w w' := by
  obtain ⟨An, cn, rfl, hcn, hmn, hcelln⟩ := hn.formI
  obtain ⟨Al, cl, rfl, hcl, hml, hcelll⟩ := hl.formI
  unfold maxLen at hmn hml
  have hb0 : Below w.heap.size w (w.alloc (.cells #[.slice An ns.length cn, .slice Al ls.length cl] 34)) := by (repeat' (first | (with_reducible exact Below.refl _ _) | (with_reducible assumption) | (with_reducible refine Below.drew ?_) | (with_reducible refine below_drewN ?_ _) | (with_reducible refine Below.alloc ?_ ?_ _) | (with_reducible refine Below.setCell ?_ ?_ _) | (with_reducible refine Below.step (by assumption) ?_ ?_))); all_goals (first | omega | (simp; done) | (simp; omega))
  have hW0 : Blk (w.alloc (.cells #[.slice An ns.length cn, .slice Al ls.length cl] 34)) w.heap.size 34 #[.slice An ns.length cn, .slice Al ls.length cl] := Blk.newAt rfl
  cases hw : winB ns ls
  · have HR : Hid (lenW ns ls = -1) := Lib.hid (by simp [lenW, hw])
    go_enter Tryz.func22, Tryz.ntmps22
    go_wp2_with fail
    refine (sWinOk_at _ _ ns ls _ _ (hn.below hb0) (hl.below hb0) hw).mono ?_
    rintro e w1 ⟨rfl, hb1⟩; (first | (with_reducible have hcf1 := bcell_drew hb1) | have hcf1 := bcell hb1); obtain ⟨hc1, hf1⟩ := hcf1; have hz1 := hb1.size; (try simp at hz1); (try have hp1_0 : w.heap.size < w1.heap.size := by omega); (try have hp1_1 : w.heap.size + 1 < w1.heap.size := by omega); (try have hp1_2 : w.heap.size + 1 + 1 < w1.heap.size := by omega); (try have hp1_3 : w.heap.size + 1 + 1 + 1 < w1.heap.size := by omega)
    go_wp2
    go_ret
    exact ⟨ret_int HR.out.symm, by (repeat' (first | (with_reducible exact Below.refl _ _) | (with_reducible assumption) | (with_reducible refine Below.drew ?_) | (with_reducible refine below_drewN ?_ _) | (with_reducible refine Below.alloc ?_ ?_ _) | (with_reducible refine Below.setCell ?_ ?_ _) | (with_reducible refine Below.step (by assumption) ?_ ?_))); all_goals (first | omega | (simp; done) | (simp; omega))⟩
  · have hwin := winB_true.1 hw
    have hm20 := hwin.2.2.1
    have hld : ∀ j : Nat, j < ls.length → leadB ns (ndI ls j) = true := fun j hj => (hwin.2.2.2.2.2 j hj).1
    have HR : Hid (lenW ns ls = (lenK ns ls ls.length : Int)) := Lib.hid (by simp [lenW, hw])
    have HBD := Lib.hid (fun k hk => lenK_bd (ns := ns) hld k hk)
    have HLD := Lib.hid hld
    have HC := Lib.hid (fun (v : World) (h1 : Below w.heap.size w v) => sWinOk_at _ _ ns ls _ v (hn.below h1) (hl.below h1) hw)
    obtain ⟨bn, offn, rfl, hbn, hcc⟩ := hcelln (by have := hwin.1; omega)
    have HCC := Lib.hid hcc
    have HCL := Lib.hid hcelll
    clear hwin hld hw hcc hcelln hcelll
    go_enter Tryz.func22, Tryz.ntmps22
    go_wp2_with fail
    refine (HC.out _ hb0).mono ?_
    rintro e w1 ⟨rfl, hb1⟩
    have hbw1 := hb0.trans (hb1.mono hb0.size)
    have hW1 := hW0.below hb1 hW0.lt
    clear hb1 hb0 hW0
    go_wp2
    go_loopw [3, 4] (fun n x wr => ∃ k : Nat, k ≤ ls.length ∧ x = .int .i64 k ∧ n = .int .i64 (lenK ns ls k) ∧ Blk wr w.heap.size 34 #[.slice (some ⟨bn, offn, none⟩) ns.length cn, .slice Al ls.length cl] ∧ Below w.heap.size w wr) (fun _ x _ => ls.length - (intOf x).toNat)
    case atStart => exact ⟨0, Nat.zero_le _, rfl, rfl, hW1, hbw1⟩
    case round =>
      clear hW1 hbw1
      obtain ⟨k, hk, rfl, rfl, hW, hbl⟩ := hrel
      have hsz := hW.lt
      (have a_0 := hW.cell 0); (have a_1 := hW.cell 1); simp only [List.getElem?_toArray, List.getElem?_cons_succ, List.getElem?_cons_zero] at a_0 a_1
      by_cases hlt : k < ls.length
      · have hlt1 : (k : Int) < (ls.length : Int) := by omega
        have ik1 : (0 : Int) ≤ (k : Int) := by omega
        obtain ⟨b4, off4, rfl, hb4, hcl4⟩ := HCL.out (by omega)
        obtain ⟨k0, k1⟩ := hcl4 k hlt
        obtain ⟨p, q, m, hp, hq, hpn, hqn, hvp, hvq, hsq, hm8, hS⟩ := lead_sq (HLD.out k hlt)
        rw [hp] at k0
        rw [hq] at k1
        have q0 := (hbl.cell (p := ⟨b4, off4 + k * 2, none⟩) hb4).trans k0
        have q1 := (hbl.cell (p := ⟨b4, off4 + k * 2 + 1, none⟩) hb4).trans k1
        obtain ⟨p0, p1⟩ := HCC.out p hpn
        obtain ⟨r0, r1⟩ := HCC.out q hqn
        have c0 := (hbl.cell (p := ⟨bn, offn + p * 2, none⟩) hbn).trans p0
        have c1 := (hbl.cell (p := ⟨bn, offn + p * 2 + 1, none⟩) hbn).trans p1
        have c2 := (hbl.cell (p := ⟨bn, offn + q * 2, none⟩) hbn).trans r0
        have c3 := (hbl.cell (p := ⟨bn, offn + q * 2 + 1, none⟩) hbn).trans r1
        have ip1 : (0 : Int) ≤ (p : Int) := by omega
        have ip2 : (p : Int) < (ns.length : Int) := by omega
        have iq1 : (0 : Int) ≤ (q : Int) := by omega
        have iq2 : (q : Int) < (ns.length : Int) := by omega
        have hbn2 : bn < wr.heap.size := Nat.lt_of_lt_of_le hbn hbl.size
        have hb42 : b4 < wr.heap.size := Nat.lt_of_lt_of_le hb4 hbl.size
        have hr := rootN_le m
        have hbd := HBD.out k hk
        have HS := Lib.hid hS
        have HSQ := Lib.hid (fun (v : World) => by
          have := sSquare_any (ndI ns p).1 (ndI ns p).2 (ndI ns q).1 (ndI ns q).2 v hvp hvq
          rw [show sqP ((ndI ns p).1, (ndI ns p).2) ((ndI ns q).1, (ndI ns q).2) = sqP (ndI ns p) (ndI ns q) from rfl, hsq] at this
          exact this)
        have HRT := Lib.hid (fun (v : World) => sRoot_any m v hm8)
        generalize rootN m = R at *
        generalize hLK : lenK ns ls k = LK at *
        have HLK := Lib.hid hLK
        clear hcl4 k0 k1 p0 p1 r0 r1 hp hq hS hsq hvp hvq hLK
        go_wp2_with fail
        (refine wp_region_quietG (by kernel_rfl) (by kernel_rfl) (fun hG => ?_))
        repeat (go_big_quiet_step (first | (go_at_call 58; exact quietG (HSQ.out _)) | (go_at_call 57; exact quietS (HRT.out _))))
        refine wpQuiet_nil ?_
        clear hG
        rintro w3 ⟨⟨_, hb3⟩, rfl⟩
        have hW3 := Lib.hid (hW.below hb3 hsz)
        have hbl3 := Lib.hid (hbl.trans (hb3.mono hbl.size))
        clear hW hbl hb3 a_0 a_1 q0 q1 c0 c1 c2 c3
        go_wp2
        go_roundw
        case rel => exact ⟨k + 1, by omega, by go_num, by rw [HS.out]; go_num, hW3.out, hbl3.out⟩
        case measure => simp [intOf]; omega
      · have hkk : k = ls.length := by omega
        subst hkk
        go_wp2
        go_ret
        exact ⟨ret_int HR.out.symm, hbl⟩

set_option maxHeartbeats 8000000 in
set_option maxRecDepth 100000 in
theorem iLen_any (vn vl : Value) (ns ls : List Pr) (w : World) (hn : RP w vn ns) (hl : RP w vl ls) :
    Calls Tryz.prog 46 #[.agg #[vn, vl]] w fun e w' => e = .returned (.int .i64 (lenW ns ls)) ∧ Below w.heap.size w w' := by
  obtain ⟨An, cn, rfl, hcn, hmn, hcelln⟩ := hn.formI
  obtain ⟨Al, cl, rfl, hcl, hml, hcelll⟩ := hl.formI
  unfold maxLen at hmn hml
  have hb0 : Below w.heap.size w (w.alloc (.cells #[.slice An ns.length cn, .slice Al ls.length cl] 34)) := by (repeat' (first | (with_reducible exact Below.refl _ _) | (with_reducible assumption) | (with_reducible refine Below.drew ?_) | (with_reducible refine below_drewN ?_ _) | (with_reducible refine Below.alloc ?_ ?_ _) | (with_reducible refine Below.setCell ?_ ?_ _) | (with_reducible refine Below.step (by assumption) ?_ ?_))); all_goals (first | omega | (simp; done) | (simp; omega))
  have hW0 : Blk (w.alloc (.cells #[.slice An ns.length cn, .slice Al ls.length cl] 34)) w.heap.size 34 #[.slice An ns.length cn, .slice Al ls.length cl] := Blk.newAt rfl
  cases hw : winB ns ls
  · have HR : Hid (lenW ns ls = -1) := Lib.hid (by simp [lenW, hw])
    go_enter Tryz.func46, Tryz.ntmps46
    go_wp2_with fail
    refine (iWinOk_at _ _ ns ls _ _ (hn.below hb0) (hl.below hb0) hw).mono ?_
    rintro e w1 ⟨rfl, hb1⟩; (first | (with_reducible have hcf1 := bcell_drew hb1) | have hcf1 := bcell hb1); obtain ⟨hc1, hf1⟩ := hcf1; have hz1 := hb1.size; (try simp at hz1); (try have hp1_0 : w.heap.size < w1.heap.size := by omega); (try have hp1_1 : w.heap.size + 1 < w1.heap.size := by omega); (try have hp1_2 : w.heap.size + 1 + 1 < w1.heap.size := by omega); (try have hp1_3 : w.heap.size + 1 + 1 + 1 < w1.heap.size := by omega)
    go_wp2
    go_ret
    exact ⟨ret_int HR.out.symm, by (repeat' (first | (with_reducible exact Below.refl _ _) | (with_reducible assumption) | (with_reducible refine Below.drew ?_) | (with_reducible refine below_drewN ?_ _) | (with_reducible refine Below.alloc ?_ ?_ _) | (with_reducible refine Below.setCell ?_ ?_ _) | (with_reducible refine Below.step (by assumption) ?_ ?_))); all_goals (first | omega | (simp; done) | (simp; omega))⟩
  · have hwin := winB_true.1 hw
    have hm20 := hwin.2.2.1
    have hld : ∀ j : Nat, j < ls.length → leadB ns (ndI ls j) = true := fun j hj => (hwin.2.2.2.2.2 j hj).1
    have HR : Hid (lenW ns ls = (lenK ns ls ls.length : Int)) := Lib.hid (by simp [lenW, hw])
    have HBD := Lib.hid (fun k hk => lenK_bd (ns := ns) hld k hk)
    have HLD := Lib.hid hld
    have HC := Lib.hid (fun (v : World) (h1 : Below w.heap.size w v) => iWinOk_at _ _ ns ls _ v (hn.below h1) (hl.below h1) hw)
    obtain ⟨bn, offn, rfl, hbn, hcc⟩ := hcelln (by have := hwin.1; omega)
    have HCC := Lib.hid hcc
    have HCL := Lib.hid hcelll
    clear hwin hld hw hcc hcelln hcelll
    go_enter Tryz.func46, Tryz.ntmps46
    go_wp2_with fail
    refine (HC.out _ hb0).mono ?_
    rintro e w1 ⟨rfl, hb1⟩
    have hbw1 := hb0.trans (hb1.mono hb0.size)
    have hW1 := hW0.below hb1 hW0.lt
    clear hb1 hb0 hW0
    (have a_0 := hW1.cell 0); (have a_1 := hW1.cell 1); simp only [List.getElem?_toArray, List.getElem?_cons_succ, List.getElem?_cons_zero] at a_0 a_1
    go_wp2
    go_loopw [3, 14] (fun n x wr => ∃ k : Nat, k ≤ ls.length ∧ x = .int .i64 k ∧ n = .int .i64 (lenK ns ls k) ∧ Blk wr w.heap.size 34 #[.slice (some ⟨bn, offn, none⟩) ns.length cn, .slice Al ls.length cl] ∧ Below w.heap.size w wr) (fun _ x _ => ls.length - (intOf x).toNat)
    case atStart => exact ⟨0, Nat.zero_le _, rfl, rfl, hW1, hbw1⟩
    case round =>
      clear hW1 hbw1 a_0 a_1
      obtain ⟨k, hk, rfl, rfl, hW, hbl⟩ := hrel
      have hsz := hW.lt
      (have a_0 := hW.cell 0); (have a_1 := hW.cell 1); simp only [List.getElem?_toArray, List.getElem?_cons_succ, List.getElem?_cons_zero] at a_0 a_1
      by_cases hlt : k < ls.length
      · have hlt1 : (k : Int) < (ls.length : Int) := by omega
        have ik1 : (0 : Int) ≤ (k : Int) := by omega
        obtain ⟨b4, off4, rfl, hb4, hcl4⟩ := HCL.out (by omega)
        obtain ⟨k0, k1⟩ := hcl4 k hlt
        obtain ⟨p, q, m, hp, hq, hpn, hqn, hvp, hvq, hsq, hm8, hS⟩ := lead_sq (HLD.out k hlt)
        rw [hp] at k0
        rw [hq] at k1
        have q0 := (hbl.cell (p := ⟨b4, off4 + k * 2, none⟩) hb4).trans k0
        have q1 := (hbl.cell (p := ⟨b4, off4 + k * 2 + 1, none⟩) hb4).trans k1
        obtain ⟨p0, p1⟩ := HCC.out p hpn
        obtain ⟨r0, r1⟩ := HCC.out q hqn
        have ip1 : (0 : Int) ≤ (p : Int) := by omega
        have ip2 : (p : Int) < (ns.length : Int) := by omega
        have iq1 : (0 : Int) ≤ (q : Int) := by omega
        have iq2 : (q : Int) < (ns.length : Int) := by omega
        have hbn2 : bn < wr.heap.size + 1 := by have := hbl.size; omega
        have hs2 : w.heap.size < wr.heap.size + 1 := by omega
        have hr := rootN_le m
        have hrs := rootN_spec m
        have hbd := HBD.out k hk
        have HS := Lib.hid hS
        have HSQ := Lib.hid (fun (v : World) => by
          have := iSquare_any (ndI ns p).1 (ndI ns p).2 (ndI ns q).1 (ndI ns q).2 v hvp hvq
          rw [show sqP ((ndI ns p).1, (ndI ns p).2) ((ndI ns q).1, (ndI ns q).2) = sqP (ndI ns p) (ndI ns q) from rfl, hsq] at this
          exact this)
        have HE := Lib.hid (fun j h1 h2 => rootN_eq (n := m) (k := j) h1 h2)
        generalize rootN m = R at *
        generalize hLK : lenK ns ls k = LK at *
        have HLK := Lib.hid hLK
        have hWA : Blk (wr.alloc (.cells #[.int .i64 p, .int .i64 q] 80)) w.heap.size 34 #[.slice (some ⟨bn, offn, none⟩) ns.length cn, .slice (some ⟨b4, off4, none⟩) ls.length cl] := hW.alloc _
        have hLA : Blk (wr.alloc (.cells #[.int .i64 p, .int .i64 q] 80)) wr.heap.size 80 #[.int .i64 p, .int .i64 q] := Blk.newAt rfl
        have hbA : Below w.heap.size w (wr.alloc (.cells #[.int .i64 p, .int .i64 q] 80)) := hbl.alloc hbl.size _
        have c0 := (hbA.cell (p := ⟨bn, offn + p * 2, none⟩) hbn).trans p0
        have c1 := (hbA.cell (p := ⟨bn, offn + p * 2 + 1, none⟩) hbn).trans p1
        have c2 := (hbA.cell (p := ⟨bn, offn + q * 2, none⟩) hbn).trans r0
        have c3 := (hbA.cell (p := ⟨bn, offn + q * 2 + 1, none⟩) hbn).trans r1
        clear hcl4 k0 k1 p0 p1 r0 r1 hp hq hS hsq hvp hvq hLK
        go_wp2_with fail
        clear a_0 a_1 hW hbl
        (have a_0 := hWA.cell 0); (have a_1 := hWA.cell 1); simp only [List.getElem?_toArray, List.getElem?_cons_succ, List.getElem?_cons_zero] at a_0 a_1
        (have d_0 := hLA.cell 0); (have d_1 := hLA.cell 1); simp only [List.getElem?_toArray, List.getElem?_cons_succ, List.getElem?_cons_zero] at d_0 d_1
        have z1 := hWA.lt
        have z2 := hLA.lt
        have z3 : bn < (wr.alloc (.cells #[.int .i64 p, .int .i64 q] 80)).heap.size := Nat.lt_of_lt_of_le hbn hbA.size
        generalize hwA : wr.alloc (.cells #[.int .i64 p, .int .i64 q] 80) = wA at *
        clear hwA
        (refine wp_region_quietG (by kernel_rfl) (by kernel_rfl) (fun hG => ?_))
        repeat (go_big_quiet_step ((go_at_call 73; exact quietG (HSQ.out _))))
        refine wpQuiet_nil ?_
        clear hG
        rintro w3 ⟨⟨_, hb3⟩, rfl⟩
        have hW3 := hWA.below hb3 z1
        have hbl3 := hbA.trans (hb3.mono hbA.size)
        clear hWA hbA hb3 hLA a_0 a_1 d_0 d_1 q0 q1 c0 c1 c2 c3 z1 z2 z3
        go_wp2
        go_loopw [7] (fun x wr2 => ∃ j : Nat, j ≤ 28 ∧ x = .int .i64 j ∧ Hid (j * j ≤ m) ∧ Blk wr2 w.heap.size 34 #[.slice (some ⟨bn, offn, none⟩) ns.length cn, .slice (some ⟨b4, off4, none⟩) ls.length cl] ∧ Below w.heap.size w wr2) (fun x _ => 29 - (intOf x).toNat)
        case atStart => exact ⟨0, by omega, rfl, Lib.hid (by omega), hW3, hbl3⟩
        case round =>
          clear hW3 hbl3
          obtain ⟨j, hj, rfl, HJ, hW, hbl⟩ := hrel
          have e1 : ((j : Int) + 1) * ((j : Int) + 1) = (((j + 1) * (j + 1) : Nat) : Int) := by simp
          have hb : (j + 1) * (j + 1) ≤ 29 * 29 := Nat.mul_le_mul (by omega) (by omega)
          by_cases hc : (j + 1) * (j + 1) ≤ m
          · have hc1 : ((j : Int) + 1) * ((j : Int) + 1) ≤ (m : Int) := by rw [e1]; omega
            have hc0 : -9000000000000000000 ≤ ((j : Int) + 1) * ((j : Int) + 1) := by rw [e1]; omega
            have hc2 : ((j : Int) + 1) * ((j : Int) + 1) ≤ 841 := by rw [e1]; omega
            have hk28 : j + 1 ≤ 28 := by
              apply Classical.byContradiction
              intro h2
              have : 29 * 29 ≤ (j + 1) * (j + 1) := Nat.mul_le_mul (by omega) (by omega)
              omega
            have HX := Lib.hid hc
            clear e1 hb hc
            go_wp2
            go_roundw
            case rel => exact ⟨j + 1, by omega, by go_num, HX, hW, hbl⟩
            case measure => simp [intOf]; omega
          · have hc1 : ¬ ((j : Int) + 1) * ((j : Int) + 1) ≤ (m : Int) := by rw [e1]; omega
            have hc0 : -9000000000000000000 ≤ ((j : Int) + 1) * ((j : Int) + 1) := by rw [e1]; omega
            have hc2 : ((j : Int) + 1) * ((j : Int) + 1) ≤ 841 := by rw [e1]; omega
            have hX := HE.out j HJ.out (by omega)
            subst hX
            clear e1 hb hc
            go_wp2
            go_roundw
            case rel => exact ⟨k + 1, by omega, by go_num, by rw [HS.out]; go_num, hW, hbl⟩
            case measure => simp [intOf]; omega
      · have hkk : k = ls.length := by omega
        subst hkk
        go_wp2
        go_ret
        exact ⟨ret_int HR.out.symm, hbl⟩

end Go.Proofs.YtognjdappchpkaaGreat

namespace Go.Proofs.YtognjdappchpkaaGreat
open Go.RowKit

attribute [local go_sem ↓] run_eqNode run_eqLead run_neNode run_neLead



theorem szW_le {a b : Nat} (h : ¬ szW 1048576 a b < 0) : a ≤ 1048576 ∧ b ≤ 1048576 ∧ 0 ≤ szW 1048576 a b ∧ szW 1048576 a b ≤ 1048576 := by
  unfold szW at *
  split at h
  · omega
  · split at h
    · omega
    · rename_i h1 h2; rw [if_neg h1, if_neg h2]; omega

theorem szW_le2 {n : Int} {a b : Nat} (hn : n ≤ 1048576) (h : ¬ szW n a b < 0) : a ≤ 1048576 ∧ b ≤ 1048576 ∧ 0 ≤ szW n a b ∧ szW n a b ≤ n := by
  unfold szW at *
  split at h
  · omega
  · split at h
    · omega
    · rename_i h1 h2; rw [if_neg h1, if_neg h2]; omega

theorem szWindow_at (vn vl : Value) (ns ls : List (Int × Int)) (n x : Int) (w : World) (hn : RP w vn ns) (hl : RP w vl ls) (h0 : 0 ≤ n) (h1 : n ≤ 1000000000) (hx : Hid (szW n ns.length ls.length = x)) :
    Calls Tryz.prog 6 #[.agg #[vn, vl], .int .i64 n] w fun e w' => e = .returned (.int .i64 x) ∧ Below w.heap.size w w' :=
  (szWindow_any vn vl ns ls n w hn hl h0 h1).mono fun e w' ⟨he, hw⟩ => ⟨he.trans (ret_int hx.out), hw⟩





end Go.Proofs.YtognjdappchpkaaGreat

namespace Go.Proofs.YtognjdappchpkaaGreat
open Go.RowKit

/-- The nodes of degree two and more among the first ones. -/
def jointsN (ls : List Pr) : Nat → Nat
  | 0 => 0
  | k + 1 => if 2 ≤ (atN ls k ls.length).length then jointsN ls k + 1 else jointsN ls k

theorem jointsN_le (ls : List Pr) : ∀ k, jointsN ls k ≤ k
  | 0 => Nat.le_refl _
  | k + 1 => by
    have := jointsN_le ls k
    unfold jointsN
    split <;> omega

noncomputable def jointsI (ns ls : List Pr) : Int := if winB ns ls then (jointsN ls ns.length : Int) else -1

set_option maxHeartbeats 4000000 in
set_option maxRecDepth 100000 in
theorem iJoints_any (vn vl : Value) (ns ls : List Pr) (w : World) (hn : RP w vn ns) (hl : RP w vl ls) :
    Calls Tryz.prog 23 #[.agg #[vn, vl]] w fun e w' => e = .returned (.int .i64 (jointsI ns ls)) ∧ Below w.heap.size w w' := by
  cases hw : winB ns ls
  · have HR : Hid (jointsI ns ls = -1) := Lib.hid (by simp [jointsI, hw])
    go_enter Tryz.func23, Tryz.ntmps23
    go_wp2_with fail
    refine (iWinOk_at _ _ ns ls _ _ (hn.below (by (repeat' (first | (with_reducible exact Below.refl _ _) | (with_reducible assumption) | (with_reducible refine Below.drew ?_) | (with_reducible refine below_drewN ?_ _) | (with_reducible refine Below.alloc ?_ ?_ _) | (with_reducible refine Below.setCell ?_ ?_ _) | (with_reducible refine Below.step (by assumption) ?_ ?_))); all_goals (first | omega | (simp; done) | (simp; omega)))) (hl.below (by (repeat' (first | (with_reducible exact Below.refl _ _) | (with_reducible assumption) | (with_reducible refine Below.drew ?_) | (with_reducible refine below_drewN ?_ _) | (with_reducible refine Below.alloc ?_ ?_ _) | (with_reducible refine Below.setCell ?_ ?_ _) | (with_reducible refine Below.step (by assumption) ?_ ?_))); all_goals (first | omega | (simp; done) | (simp; omega)))) hw).mono ?_
    rintro e w1 ⟨rfl, hb1⟩; (first | (with_reducible have hcf1 := bcell_drew hb1) | have hcf1 := bcell hb1); obtain ⟨hc1, hf1⟩ := hcf1; have hz1 := hb1.size; (try simp at hz1); (try have hp1_0 : w.heap.size < w1.heap.size := by omega); (try have hp1_1 : w.heap.size + 1 < w1.heap.size := by omega); (try have hp1_2 : w.heap.size + 1 + 1 < w1.heap.size := by omega); (try have hp1_3 : w.heap.size + 1 + 1 + 1 < w1.heap.size := by omega)
    go_wp2
    go_ret
    exact ⟨ret_int HR.out.symm, by (repeat' (first | (with_reducible exact Below.refl _ _) | (with_reducible assumption) | (with_reducible refine Below.drew ?_) | (with_reducible refine below_drewN ?_ _) | (with_reducible refine Below.alloc ?_ ?_ _) | (with_reducible refine Below.setCell ?_ ?_ _) | (with_reducible refine Below.step (by assumption) ?_ ?_))); all_goals (first | omega | (simp; done) | (simp; omega))⟩
  · have HR : Hid (jointsI ns ls = (jointsN ls ns.length : Int)) := Lib.hid (by simp [jointsI, hw])
    have hn12 := (winB_true.1 hw).2.1
    obtain ⟨An, cn, rfl, hcn, hmn, _⟩ := hn.formI
    unfold maxLen at hmn
    go_enter Tryz.func23, Tryz.ntmps23
    go_wp2_with fail
    refine (iWinOk_at _ _ ns ls _ _ (hn.below (by (repeat' (first | (with_reducible exact Below.refl _ _) | (with_reducible assumption) | (with_reducible refine Below.drew ?_) | (with_reducible refine below_drewN ?_ _) | (with_reducible refine Below.alloc ?_ ?_ _) | (with_reducible refine Below.setCell ?_ ?_ _) | (with_reducible refine Below.step (by assumption) ?_ ?_))); all_goals (first | omega | (simp; done) | (simp; omega)))) (hl.below (by (repeat' (first | (with_reducible exact Below.refl _ _) | (with_reducible assumption) | (with_reducible refine Below.drew ?_) | (with_reducible refine below_drewN ?_ _) | (with_reducible refine Below.alloc ?_ ?_ _) | (with_reducible refine Below.setCell ?_ ?_ _) | (with_reducible refine Below.step (by assumption) ?_ ?_))); all_goals (first | omega | (simp; done) | (simp; omega)))) hw).mono ?_
    rintro e w1 ⟨rfl, hb1⟩; (first | (with_reducible have hcf1 := bcell_drew hb1) | have hcf1 := bcell hb1); obtain ⟨hc1, hf1⟩ := hcf1; have hz1 := hb1.size; (try simp at hz1); (try have hp1_0 : w.heap.size < w1.heap.size := by omega); (try have hp1_1 : w.heap.size + 1 < w1.heap.size := by omega); (try have hp1_2 : w.heap.size + 1 + 1 < w1.heap.size := by omega); (try have hp1_3 : w.heap.size + 1 + 1 + 1 < w1.heap.size := by omega)
    have hW1 : Blk w1 w.heap.size 34 #[.slice An ns.length cn, vl] := Blk.below (Blk.newAt rfl) hb1 (by first | omega | (simp; done) | (simp; omega))
    have hbw1 : Below w.heap.size w w1 := by (repeat' (first | (with_reducible exact Below.refl _ _) | (with_reducible assumption) | (with_reducible refine Below.drew ?_) | (with_reducible refine below_drewN ?_ _) | (with_reducible refine Below.alloc ?_ ?_ _) | (with_reducible refine Below.setCell ?_ ?_ _) | (with_reducible refine Below.step (by assumption) ?_ ?_))); all_goals (first | omega | (simp; done) | (simp; omega))
    clear hb1 hc1 hf1
    (have a_0 := hW1.cell 0); (have a_1 := hW1.cell 1); simp only [List.getElem?_toArray, List.getElem?_cons_succ, List.getElem?_cons_zero] at a_0 a_1
    go_wp2
    go_loopw [3, 11] (fun x i wr => ∃ k : Nat, k ≤ ns.length ∧ i = .int .i64 k ∧ x = .int .i64 (jointsN ls k) ∧ Blk wr w.heap.size 34 #[.slice An ns.length cn, vl] ∧ Below w.heap.size w wr) (fun _ i _ => ns.length - (intOf i).toNat)
    case atStart => exact ⟨0, Nat.zero_le _, rfl, rfl, hW1, hbw1⟩
    case round =>
      obtain ⟨k, hk, rfl, rfl, hW, hbl⟩ := hrel
      clear hW1 hbw1 a_0 a_1
      have hsz := hW.lt
      have hjl := jointsN_le ls k
      (have a_0 := hW.cell 0); (have a_1 := hW.cell 1); simp only [List.getElem?_toArray, List.getElem?_cons_succ, List.getElem?_cons_zero] at a_0 a_1
      by_cases hlt : k < ns.length
      · have hdeg : degI ns ls k = ((atN ls k ls.length).length : Int) := by
          unfold degI hasN
          rw [hw, inB_true.2 (show 0 ≤ (k : Int) ∧ (k : Int) ≤ (ns.length : Int) - 1 by omega)]
          rfl
        by_cases h2 : 2 ≤ (atN ls k ls.length).length
        · have HS : Hid (jointsN ls (k + 1) = jointsN ls k + 1) := Lib.hid (by simp [jointsN, h2])
          have HD : Hid (degI ns ls k = ((atN ls k ls.length).length : Int)) := Lib.hid hdeg
          have h3 : (2 : Int) ≤ ((atN ls k ls.length).length : Int) := by omega
          generalize (atN ls k ls.length).length = D at *
          generalize jointsN ls k = J at *
          clear hdeg
          go_wp2_with fail
          refine (iDegree_any _ _ ns ls _ _ (hn.below hbl) (hl.below hbl)).mono ?_
          rw [HD.out]
          rintro e w2 ⟨rfl, hb2⟩; (first | (with_reducible have hcf2 := bcell_drew hb2) | have hcf2 := bcell hb2); obtain ⟨hc2, hf2⟩ := hcf2; have hz2 := hb2.size; (try simp at hz2); (try have hp2_0 : w.heap.size < w2.heap.size := by omega); (try have hp2_1 : w.heap.size + 1 < w2.heap.size := by omega); (try have hp2_2 : w.heap.size + 1 + 1 < w2.heap.size := by omega); (try have hp2_3 : w.heap.size + 1 + 1 + 1 < w2.heap.size := by omega)
          have hW2 := hW.below hb2 hsz
          have hbw2 : Below w.heap.size w w2 := by (repeat' (first | (with_reducible exact Below.refl _ _) | (with_reducible assumption) | (with_reducible refine Below.drew ?_) | (with_reducible refine below_drewN ?_ _) | (with_reducible refine Below.alloc ?_ ?_ _) | (with_reducible refine Below.setCell ?_ ?_ _) | (with_reducible refine Below.step (by assumption) ?_ ?_))); all_goals (first | omega | (simp; done) | (simp; omega))
          clear hb2 hc2 hf2 hz2 hW hbl a_0 a_1
          go_wp2
          go_roundw
          case rel => exact ⟨k + 1, by omega, by go_num, by rw [HS.out]; go_num, hW2, hbw2⟩
          case measure => simp [intOf]; omega
        · have HS : Hid (jointsN ls (k + 1) = jointsN ls k) := Lib.hid (by simp [jointsN, h2])
          have HD : Hid (degI ns ls k = ((atN ls k ls.length).length : Int)) := Lib.hid hdeg
          have h3 : ¬ (2 : Int) ≤ ((atN ls k ls.length).length : Int) := by omega
          generalize (atN ls k ls.length).length = D at *
          generalize jointsN ls k = J at *
          clear hdeg
          go_wp2_with fail
          refine (iDegree_any _ _ ns ls _ _ (hn.below hbl) (hl.below hbl)).mono ?_
          rw [HD.out]
          rintro e w2 ⟨rfl, hb2⟩; (first | (with_reducible have hcf2 := bcell_drew hb2) | have hcf2 := bcell hb2); obtain ⟨hc2, hf2⟩ := hcf2; have hz2 := hb2.size; (try simp at hz2); (try have hp2_0 : w.heap.size < w2.heap.size := by omega); (try have hp2_1 : w.heap.size + 1 < w2.heap.size := by omega); (try have hp2_2 : w.heap.size + 1 + 1 < w2.heap.size := by omega); (try have hp2_3 : w.heap.size + 1 + 1 + 1 < w2.heap.size := by omega)
          have hW2 := hW.below hb2 hsz
          have hbw2 : Below w.heap.size w w2 := by (repeat' (first | (with_reducible exact Below.refl _ _) | (with_reducible assumption) | (with_reducible refine Below.drew ?_) | (with_reducible refine below_drewN ?_ _) | (with_reducible refine Below.alloc ?_ ?_ _) | (with_reducible refine Below.setCell ?_ ?_ _) | (with_reducible refine Below.step (by assumption) ?_ ?_))); all_goals (first | omega | (simp; done) | (simp; omega))
          clear hb2 hc2 hf2 hz2 hW hbl a_0 a_1
          go_wp2
          go_roundw
          case rel => exact ⟨k + 1, by omega, by go_num, by rw [HS.out], hW2, hbw2⟩
          case measure => simp [intOf]; omega
      · have hkk : k = ns.length := by omega
        subst hkk
        go_wp2
        go_ret
        exact ⟨ret_int HR.out.symm, hbl⟩

set_option maxHeartbeats 4000000 in
set_option maxRecDepth 100000 in
theorem sJoints_any (vn vl : Value) (ns ls : List Pr) (w : World) (hn : RP w vn ns) (hl : RP w vl ls) :
    Calls Tryz.prog 36 #[.agg #[vn, vl]] w fun e w' => e = .returned (.int .i64 (jointsI ns ls)) ∧ Below w.heap.size w w' := by
  cases hw : winB ns ls
  · have HR : Hid (jointsI ns ls = -1) := Lib.hid (by simp [jointsI, hw])
    go_enter Tryz.func36, Tryz.ntmps36
    go_wp2_with fail
    refine (sWinOk_at _ _ ns ls _ _ (hn.below (by (repeat' (first | (with_reducible exact Below.refl _ _) | (with_reducible assumption) | (with_reducible refine Below.drew ?_) | (with_reducible refine below_drewN ?_ _) | (with_reducible refine Below.alloc ?_ ?_ _) | (with_reducible refine Below.setCell ?_ ?_ _) | (with_reducible refine Below.step (by assumption) ?_ ?_))); all_goals (first | omega | (simp; done) | (simp; omega)))) (hl.below (by (repeat' (first | (with_reducible exact Below.refl _ _) | (with_reducible assumption) | (with_reducible refine Below.drew ?_) | (with_reducible refine below_drewN ?_ _) | (with_reducible refine Below.alloc ?_ ?_ _) | (with_reducible refine Below.setCell ?_ ?_ _) | (with_reducible refine Below.step (by assumption) ?_ ?_))); all_goals (first | omega | (simp; done) | (simp; omega)))) hw).mono ?_
    rintro e w1 ⟨rfl, hb1⟩; (first | (with_reducible have hcf1 := bcell_drew hb1) | have hcf1 := bcell hb1); obtain ⟨hc1, hf1⟩ := hcf1; have hz1 := hb1.size; (try simp at hz1); (try have hp1_0 : w.heap.size < w1.heap.size := by omega); (try have hp1_1 : w.heap.size + 1 < w1.heap.size := by omega); (try have hp1_2 : w.heap.size + 1 + 1 < w1.heap.size := by omega); (try have hp1_3 : w.heap.size + 1 + 1 + 1 < w1.heap.size := by omega)
    go_wp2
    go_ret
    exact ⟨ret_int HR.out.symm, by (repeat' (first | (with_reducible exact Below.refl _ _) | (with_reducible assumption) | (with_reducible refine Below.drew ?_) | (with_reducible refine below_drewN ?_ _) | (with_reducible refine Below.alloc ?_ ?_ _) | (with_reducible refine Below.setCell ?_ ?_ _) | (with_reducible refine Below.step (by assumption) ?_ ?_))); all_goals (first | omega | (simp; done) | (simp; omega))⟩
  · have HR : Hid (jointsI ns ls = (jointsN ls ns.length : Int)) := Lib.hid (by simp [jointsI, hw])
    have hwin := winB_true.1 hw
    have hn12 := hwin.2.1
    have hm20 := hwin.2.2.1
    have HLD : Hid (∀ j : Nat, j < ls.length → leadB ns (ndI ls j) = true) := Lib.hid (fun j hj => (hwin.2.2.2.2.2 j hj).1)
    clear hwin
    obtain ⟨An, cn, rfl, hcn, hmn, _⟩ := hn.formI
    unfold maxLen at hmn
    go_enter Tryz.func36, Tryz.ntmps36
    go_wp2_with fail
    refine (sWinOk_at _ _ ns ls _ _ (hn.below (by (repeat' (first | (with_reducible exact Below.refl _ _) | (with_reducible assumption) | (with_reducible refine Below.drew ?_) | (with_reducible refine below_drewN ?_ _) | (with_reducible refine Below.alloc ?_ ?_ _) | (with_reducible refine Below.setCell ?_ ?_ _) | (with_reducible refine Below.step (by assumption) ?_ ?_))); all_goals (first | omega | (simp; done) | (simp; omega)))) (hl.below (by (repeat' (first | (with_reducible exact Below.refl _ _) | (with_reducible assumption) | (with_reducible refine Below.drew ?_) | (with_reducible refine below_drewN ?_ _) | (with_reducible refine Below.alloc ?_ ?_ _) | (with_reducible refine Below.setCell ?_ ?_ _) | (with_reducible refine Below.step (by assumption) ?_ ?_))); all_goals (first | omega | (simp; done) | (simp; omega)))) hw).mono ?_
    rintro e w1 ⟨rfl, hb1⟩; (first | (with_reducible have hcf1 := bcell_drew hb1) | have hcf1 := bcell hb1); obtain ⟨hc1, hf1⟩ := hcf1; have hz1 := hb1.size; (try simp at hz1); (try have hp1_0 : w.heap.size < w1.heap.size := by omega); (try have hp1_1 : w.heap.size + 1 < w1.heap.size := by omega); (try have hp1_2 : w.heap.size + 1 + 1 < w1.heap.size := by omega); (try have hp1_3 : w.heap.size + 1 + 1 + 1 < w1.heap.size := by omega)
    have hW1 : Blk w1 w.heap.size 34 #[.slice An ns.length cn, vl] := Blk.below (Blk.newAt rfl) hb1 (by first | omega | (simp; done) | (simp; omega))
    have hbw1 : Below w.heap.size w w1 := by (repeat' (first | (with_reducible exact Below.refl _ _) | (with_reducible assumption) | (with_reducible refine Below.drew ?_) | (with_reducible refine below_drewN ?_ _) | (with_reducible refine Below.alloc ?_ ?_ _) | (with_reducible refine Below.setCell ?_ ?_ _) | (with_reducible refine Below.step (by assumption) ?_ ?_))); all_goals (first | omega | (simp; done) | (simp; omega))
    clear hb1 hc1 hf1
    (have a_0 := hW1.cell 0); (have a_1 := hW1.cell 1); simp only [List.getElem?_toArray, List.getElem?_cons_succ, List.getElem?_cons_zero] at a_0 a_1
    go_wp2
    go_loopw [3, 4] (fun x i wr => ∃ k : Nat, k ≤ ns.length ∧ i = .int .i64 k ∧ x = .int .i64 (jointsN ls k) ∧ Blk wr w.heap.size 34 #[.slice An ns.length cn, vl] ∧ Below w.heap.size w wr) (fun _ i _ => ns.length - (intOf i).toNat)
    case atStart => exact ⟨0, Nat.zero_le _, rfl, rfl, hW1, hbw1⟩
    case round =>
      obtain ⟨k, hk, rfl, rfl, hW, hbl⟩ := hrel
      clear hW1 hbw1 a_0 a_1
      have hsz := hW.lt
      have hjl := jointsN_le ls k
      (have a_0 := hW.cell 0); (have a_1 := hW.cell 1); simp only [List.getElem?_toArray, List.getElem?_cons_succ, List.getElem?_cons_zero] at a_0 a_1
      by_cases hlt : k < ns.length
      · have hdl : (natI (ardS ns ls k (2 * ls.length))).length = (atN ls k ls.length).length := by rw [natI_length, ard_at HLD.out k ls.length (Nat.le_refl _)]
        by_cases h2 : 2 ≤ (atN ls k ls.length).length
        · have HS : Hid (jointsN ls (k + 1) = jointsN ls k + 1) := Lib.hid (by simp [jointsN, h2])
          have h3 : (2 : Int) ≤ ((natI (ardS ns ls k (2 * ls.length))).length : Int) := by omega
          generalize jointsN ls k = J at *
          clear hdl h2
          go_wp2_with fail
          refine (sAround_any _ _ ns ls k _ (hn.below hbl) (hl.below hbl) hlt hm20 hn12 HLD.out).mono ?_
          rintro e w2 ⟨v2, rfl, ho2, hb2⟩
          obtain ⟨A2, c2, rfl⟩ := ho2.form
          have hW2 := hW.below hb2 hsz
          have hbw2 : Below w.heap.size w w2 := by (repeat' (first | (with_reducible exact Below.refl _ _) | (with_reducible assumption) | (with_reducible refine Below.drew ?_) | (with_reducible refine below_drewN ?_ _) | (with_reducible refine Below.alloc ?_ ?_ _) | (with_reducible refine Below.setCell ?_ ?_ _) | (with_reducible refine Below.step (by assumption) ?_ ?_))); all_goals (first | omega | (simp; done) | (simp; omega))
          clear hb2 hW hbl a_0 a_1
          go_wp2
          go_roundw
          case rel => exact ⟨k + 1, by omega, by go_num, by rw [HS.out]; go_num, hW2, hbw2⟩
          case measure => simp [intOf]; omega
        · have HS : Hid (jointsN ls (k + 1) = jointsN ls k) := Lib.hid (by simp [jointsN, h2])
          have h3 : ¬ (2 : Int) ≤ ((natI (ardS ns ls k (2 * ls.length))).length : Int) := by omega
          generalize jointsN ls k = J at *
          clear hdl h2
          go_wp2_with fail
          refine (sAround_any _ _ ns ls k _ (hn.below hbl) (hl.below hbl) hlt hm20 hn12 HLD.out).mono ?_
          rintro e w2 ⟨v2, rfl, ho2, hb2⟩
          obtain ⟨A2, c2, rfl⟩ := ho2.form
          have hW2 := hW.below hb2 hsz
          have hbw2 : Below w.heap.size w w2 := by (repeat' (first | (with_reducible exact Below.refl _ _) | (with_reducible assumption) | (with_reducible refine Below.drew ?_) | (with_reducible refine below_drewN ?_ _) | (with_reducible refine Below.alloc ?_ ?_ _) | (with_reducible refine Below.setCell ?_ ?_ _) | (with_reducible refine Below.step (by assumption) ?_ ?_))); all_goals (first | omega | (simp; done) | (simp; omega))
          clear hb2 hW hbl a_0 a_1
          go_wp2
          go_roundw
          case rel => exact ⟨k + 1, by omega, by go_num, by rw [HS.out], hW2, hbw2⟩
          case measure => simp [intOf]; omega
      · have hkk : k = ns.length := by omega
        subst hkk
        go_wp2
        go_ret
        exact ⟨ret_int HR.out.symm, hbl⟩

theorem iJoints_at (vn vl : Value) (ns ls : List Pr) (x : Int) (w : World) (hn : RP w vn ns) (hl : RP w vl ls) (hx : Hid (jointsI ns ls = x)) :
    Calls Tryz.prog 23 #[.agg #[vn, vl]] w fun e w' => e = .returned (.int .i64 x) ∧ Below w.heap.size w w' := by
  rw [← hx.out]; exact iJoints_any vn vl ns ls w hn hl
theorem sJoints_at (vn vl : Value) (ns ls : List Pr) (x : Int) (w : World) (hn : RP w vn ns) (hl : RP w vl ls) (hx : Hid (jointsI ns ls = x)) :
    Calls Tryz.prog 36 #[.agg #[vn, vl]] w fun e w' => e = .returned (.int .i64 x) ∧ Below w.heap.size w w' := by
  rw [← hx.out]; exact sJoints_any vn vl ns ls w hn hl



end Go.Proofs.YtognjdappchpkaaGreat

namespace Go.Proofs.YtognjdappchpkaaGreat
open Go.RowKit

set_option maxHeartbeats 400000 in
theorem toTariff_any (a b c d : Int) (w : World) :
    Calls Tryz.prog 9 #[.agg #[.int .i64 a, .int .i64 b, .int .i64 c, .int .i64 d]] w fun e w' => e = .returned (.agg #[.int .i64 a, .int .i64 b, .int .i64 c, .int .i64 d]) ∧ Below w.heap.size w w' := by
  go_enter Tryz.func9, Tryz.ntmps9
  go_wp2
  exact bodyPost_ret (v := .agg #[.int .i64 a, .int .i64 b, .int .i64 c, .int .i64 d]) (by simp [results, Tryz.results9, go_sem]) rfl ⟨rfl, by (repeat (first | exact Below.refl _ _ | assumption | refine Below.drew ?_ | refine below_drewN ?_ _ | refine Below.alloc ?_ (by first | omega | (simp; done) | (simp; omega)) _ | refine Below.setCell ?_ (by first | omega | (simp; done) | (simp; omega)) _ | refine Below.step (by assumption) ?_ (by first | omega | (simp; done) | (simp; omega)) | refine Below.mark (by assumption) (by assumption) ?_ (by first | omega | (simp; done) | (simp; omega)) (by first | omega | (simp; done) | (simp; omega))))⟩

def tariffB (a b c d : Int) : Bool := inB a 0 1000 && inB b 0 1000 && inB c 0 1000 && inB d 0 1000

set_option maxHeartbeats 400000 in
theorem sTariffOk_any (a b c d : Int) (w : World) :
    Calls Tryz.prog 32 #[.agg #[.int .i64 a, .int .i64 b, .int .i64 c, .int .i64 d]] w fun e w' => e = .returned (.bool (tariffB a b c d)) ∧ Below w.heap.size w w' := by
  go_enter Tryz.func32, Tryz.ntmps32
  go_wp2_with (go_at_call 54; refine (l01In_any _ _ _ _).mono ?_; rintro e w' ⟨rfl, rfl⟩)
  all_goals go_ret
  all_goals refine ⟨ret_bool ?_, by (repeat (first | exact Below.refl _ _ | assumption | refine Below.drew ?_ | refine below_drewN ?_ _ | refine Below.alloc ?_ (by first | omega | (simp; done) | (simp; omega)) _ | refine Below.setCell ?_ (by first | omega | (simp; done) | (simp; omega)) _ | refine Below.step (by assumption) ?_ (by first | omega | (simp; done) | (simp; omega)) | refine Below.mark (by assumption) (by assumption) ?_ (by first | omega | (simp; done) | (simp; omega)) (by first | omega | (simp; done) | (simp; omega))))⟩
  all_goals simp [tariffB, *]

set_option maxHeartbeats 400000 in
theorem iTariffOk_any (a b c d : Int) (w : World) :
    Calls Tryz.prog 24 #[.agg #[.int .i64 a, .int .i64 b, .int .i64 c, .int .i64 d]] w fun e w' => e = .returned (.bool (tariffB a b c d)) ∧ Below w.heap.size w w' := by
  go_enter Tryz.func24, Tryz.ntmps24
  go_wp2_with fail
  refine (allWithin_any _ [a, b, c, d] _ _ _ (RI_lit (by simp) (by simp [vI]) rfl rfl (by simp [maxLen]))).mono ?_
  rintro e w' ⟨rfl, rfl⟩
  go_wp2
  go_ret
  exact ⟨ret_bool (by simp [tariffB, Bool.and_assoc]), by (repeat (first | exact Below.refl _ _ | assumption | refine Below.drew ?_ | refine below_drewN ?_ _ | refine Below.alloc ?_ (by first | omega | (simp; done) | (simp; omega)) _ | refine Below.setCell ?_ (by first | omega | (simp; done) | (simp; omega)) _ | refine Below.step (by assumption) ?_ (by first | omega | (simp; done) | (simp; omega)) | refine Below.mark (by assumption) (by assumption) ?_ (by first | omega | (simp; done) | (simp; omega)) (by first | omega | (simp; done) | (simp; omega))))⟩



end Go.Proofs.YtognjdappchpkaaGreat

namespace Go.Proofs.YtognjdappchpkaaGreat
open Go.RowKit

/-- The areas of the first k faces of a list. -/
noncomputable def sumA (ns ls : List Pr) (zs : List Int) : Nat → Int
  | 0 => 0
  | k + 1 => sumA ns ls zs k + areaW ns ls (zs.getD k 0)

noncomputable def billB (ns ls : List Pr) (a b c d : Int) (zs : List Int) : Bool := wholeB ns ls && (tariffB a b c d && (riseB zs (((facesW ns ls).length : Int) - 1) && !(decide (outerW ns ls ∈ zs))))
noncomputable def billI (ns ls : List Pr) (a b c d : Int) (zs : List Int) : Int := if billB ns ls a b c d zs then a * totalW ns ls + b * lenW ns ls + c * jointsI ns ls + d * sumA ns ls zs zs.length else -1

theorem areaW_bd (ns ls : List Pr) (f : Int) : -1 ≤ areaW ns ls f ∧ areaW ns ls f ≤ 16000 := by
  unfold areaW
  split
  · rename_i h
    have hk : f.toNat < (facesW ns ls).length := by have := inB_true.1 h; omega
    obtain ⟨h1, h2, h3, h4⟩ := facesW_at hk
    have := areaF_bd h1 h2 h4
    omega
  · omega

theorem sumA_bd (ns ls : List Pr) (zs : List Int) : ∀ k : Nat, -(16000 * k : Int) ≤ sumA ns ls zs k ∧ sumA ns ls zs k ≤ 16000 * k
  | 0 => by simp [sumA]
  | k + 1 => by
    have ih := sumA_bd ns ls zs k
    have := areaW_bd ns ls (zs.getD k 0)
    unfold sumA
    omega

theorem lenW_bd (ns ls : List Pr) : -1 ≤ lenW ns ls ∧ lenW ns ls ≤ 16000 := by
  unfold lenW
  cases hw : winB ns ls
  · simp
  · have hwin := winB_true.1 hw
    have hld : ∀ j : Nat, j < ls.length → leadB ns (ndI ls j) = true := fun j hj => (hwin.2.2.2.2.2 j hj).1
    have := lenK_bd hld ls.length (Nat.le_refl _)
    have h20 := hwin.2.2.1
    simp only [if_true]
    omega

theorem jointsI_bd (ns ls : List Pr) : -1 ≤ jointsI ns ls ∧ jointsI ns ls ≤ 12 := by
  unfold jointsI
  cases hw : winB ns ls
  · simp
  · have hwin := winB_true.1 hw
    have := jointsN_le ls ns.length
    have h12 := hwin.2.1
    simp only [if_true]
    omega

theorem mulT {a x : Int} {U : Nat} (h0 : 0 ≤ a) (h1 : a ≤ 1000) (h2 : -(U : Int) ≤ x) (h3 : x ≤ U) : -(1000 * U : Int) ≤ a * x ∧ a * x ≤ 1000 * U := by
  have h : (a * x).natAbs ≤ 1000 * U := by
    rw [Int.natAbs_mul]
    exact Nat.mul_le_mul (by omega) (by omega)
  omega

theorem tariffB_bd {a b c d : Int} (h : tariffB a b c d = true) : (0 ≤ a ∧ a ≤ 1000) ∧ (0 ≤ b ∧ b ≤ 1000) ∧ (0 ≤ c ∧ c ≤ 1000) ∧ (0 ≤ d ∧ d ≤ 1000) := by
  simp [tariffB, inB] at h
  omega

theorem facesW_pos {ns ls : List Pr} (h : wholeB ns ls = true) : 0 < (facesW ns ls).length := by
  have hwin := (whole_win h).1
  have hpos := (whole_win h).2
  have hld : ∀ j : Nat, j < ls.length → leadB ns (ndI ls j) = true := fun j hj => (hwin.2.2.2.2.2 j hj).1
  obtain ⟨k, hk, _⟩ := outer_is hld hpos
  have hF : facesW ns ls = facesD ns ls := by simp [facesW, h]
  rw [hF]; omega

theorem facesW_zero {ns ls : List Pr} (h : wholeB ns ls = false) : facesW ns ls = [] := by simp [facesW, h]

theorem bill_no1 {ns ls : List Pr} {a b c d : Int} {zs : List Int} (h : wholeB ns ls = false) : billI ns ls a b c d zs = -1 := by simp [billI, billB, h]
theorem bill_no2 {ns ls : List Pr} {a b c d : Int} {zs : List Int} (h : tariffB a b c d = false) : billI ns ls a b c d zs = -1 := by simp [billI, billB, h]
theorem bill_no3 {ns ls : List Pr} {a b c d : Int} {zs : List Int} (h : riseB zs (((facesW ns ls).length : Int) - 1) = false) : billI ns ls a b c d zs = -1 := by simp [billI, billB, h]
theorem bill_no4 {ns ls : List Pr} {a b c d : Int} {zs : List Int} (h : decide (outerW ns ls ∈ zs) = true) : billI ns ls a b c d zs = -1 := by
  have : outerW ns ls ∈ zs := by simpa using h
  simp [billI, billB, this]
theorem bill_yes {ns ls : List Pr} {a b c d : Int} {zs : List Int} (h1 : wholeB ns ls = true) (h2 : tariffB a b c d = true) (h3 : riseB zs (((facesW ns ls).length : Int) - 1) = true) (h4 : decide (outerW ns ls ∈ zs) = false) :
    billI ns ls a b c d zs = a * totalW ns ls + b * lenW ns ls + c * jointsI ns ls + d * sumA ns ls zs zs.length := by
  have : ¬ outerW ns ls ∈ zs := by simpa using h4
  simp [billI, billB, h1, h2, h3, this]

theorem iTariff_at (a b c d : Int) (x : Bool) (w : World) (h : tariffB a b c d = x) :
    Calls Tryz.prog 24 #[.agg #[.int .i64 a, .int .i64 b, .int .i64 c, .int .i64 d]] w fun e w' => e = .returned (.bool x) ∧ Below w.heap.size w w' := by
  subst h; exact iTariffOk_any a b c d w
theorem sTariff_at (a b c d : Int) (x : Bool) (w : World) (h : tariffB a b c d = x) :
    Calls Tryz.prog 32 #[.agg #[.int .i64 a, .int .i64 b, .int .i64 c, .int .i64 d]] w fun e w' => e = .returned (.bool x) ∧ Below w.heap.size w w' := by
  subst h; exact sTariffOk_any a b c d w
theorem iRise_at (v : Value) (zs : List Int) (n : Int) (x : Bool) (w : World) (h : RI w v zs) (hn0 : 0 ≤ n) (hn1 : n ≤ 1000) (hx : riseB zs (n - 1) = x) :
    Calls Tryz.prog 40 #[v, .int .i64 0, .int .i64 (n - 1)] w fun e w' => e = .returned (.bool x) ∧ Below w.heap.size w w' := by
  subst hx; exact iRise_any v zs n w h hn0 hn1
theorem sRise_at (v : Value) (zs : List Int) (n : Int) (x : Bool) (w : World) (h : RI w v zs) (hn0 : 0 ≤ n) (hn1 : n ≤ 1000) (hx : riseB zs (n - 1) = x) :
    Calls Tryz.prog 33 #[.int .i64 n, v] w fun e w' => e = .returned (.bool x) ∧ Below w.heap.size w w' := by
  subst hx; exact sRise_any v zs n w h hn0 hn1
theorem iHas_at (v : Value) (zs : List Int) (z : Int) (x : Bool) (w : World) (h : RI w v zs) (hx : decide (z ∈ zs) = x) :
    Calls Tryz.prog 42 #[v, .int .i64 z] w fun e w' => e = .returned (.bool x) ∧ w = w' := by
  subst hx; exact iHas_any v zs z w h
theorem sHas_at (v : Value) (zs : List Int) (z : Int) (x : Bool) (w : World) (h : RI w v zs) (hx : decide (z ∈ zs) = x) :
    Calls Tryz.prog 34 #[v, .int .i64 z] w fun e w' => e = .returned (.bool x) ∧ w = w' := by
  subst hx; exact sHas_any v zs z w h
theorem iLen_at (vn vl : Value) (ns ls : List Pr) (z : Int) (w : World) (hn : RP w vn ns) (hl : RP w vl ls) (hz : lenW ns ls = z) :
    Calls Tryz.prog 46 #[.agg #[vn, vl]] w fun e w' => e = .returned (.int .i64 z) ∧ Below w.heap.size w w' := by
  subst hz; exact iLen_any vn vl ns ls w hn hl
theorem sLen_at (vn vl : Value) (ns ls : List Pr) (z : Int) (w : World) (hn : RP w vn ns) (hl : RP w vl ls) (hz : lenW ns ls = z) :
    Calls Tryz.prog 22 #[.agg #[vn, vl]] w fun e w' => e = .returned (.int .i64 z) ∧ Below w.heap.size w w' := by
  subst hz; exact sLen_any vn vl ns ls w hn hl
theorem iTotal_at (vn vl : Value) (ns ls : List Pr) (z : Int) (w : World) (hn : RP w vn ns) (hl : RP w vl ls) (hz : totalW ns ls = z) :
    Calls Tryz.prog 45 #[.agg #[vn, vl]] w fun e w' => e = .returned (.int .i64 z) ∧ Below w.heap.size w w' := by
  subst hz; exact iTotal_any vn vl ns ls w hn hl
theorem sTotal_at (vn vl : Value) (ns ls : List Pr) (z : Int) (w : World) (hn : RP w vn ns) (hl : RP w vl ls) (hz : totalW ns ls = z) :
    Calls Tryz.prog 21 #[.agg #[vn, vl]] w fun e w' => e = .returned (.int .i64 z) ∧ Below w.heap.size w w' := by
  subst hz; exact sTotal_any vn vl ns ls w hn hl
theorem iArea_at (vn vl : Value) (ns ls : List Pr) (f z : Int) (w : World) (hn : RP w vn ns) (hl : RP w vl ls) (hz : areaW ns ls f = z) :
    Calls Tryz.prog 44 #[.agg #[vn, vl], .int .i64 f] w fun e w' => e = .returned (.int .i64 z) ∧ Below w.heap.size w w' := by
  subst hz; exact iArea_any vn vl ns ls f w hn hl
theorem sArea_at (vn vl : Value) (ns ls : List Pr) (f z : Int) (w : World) (hn : RP w vn ns) (hl : RP w vl ls) (hz : areaW ns ls f = z) :
    Calls Tryz.prog 20 #[.agg #[vn, vl], .int .i64 f] w fun e w' => e = .returned (.int .i64 z) ∧ Below w.heap.size w w' := by
  subst hz; exact sArea_any vn vl ns ls f w hn hl

set_option maxHeartbeats 8000000 in
set_option maxRecDepth 100000 in
theorem iBill_nowhole (vn vl vp : Value) (ns ls : List Pr) (a b c d : Int) (zs : List Int) (w : World) (hn : RP w vn ns) (hl : RP w vl ls) (hp : RI w vp zs) (h1 : wholeB ns ls = false) :
    Calls Tryz.prog 11 #[.agg #[vn, vl], .agg #[.int .i64 a, .int .i64 b, .int .i64 c, .int .i64 d], vp] w fun e w' => e = .returned (.int .i64 (-1)) ∧ Below w.heap.size w w' := by
  have hba : Below w.heap.size w ((w.alloc (.cells #[vn, vl] 34)).alloc (.cells #[.int .i64 a, .int .i64 b, .int .i64 c, .int .i64 d] 36)) := by (repeat' (first | (with_reducible exact Below.refl _ _) | (with_reducible assumption) | (with_reducible refine Below.drew ?_) | (with_reducible refine below_drewN ?_ _) | (with_reducible refine Below.alloc ?_ ?_ _) | (with_reducible refine Below.setCell ?_ ?_ _) | (with_reducible refine Below.step (by assumption) ?_ ?_))); all_goals (first | omega | (simp; done) | (simp; omega))
  have hWA : Blk ((w.alloc (.cells #[vn, vl] 34)).alloc (.cells #[.int .i64 a, .int .i64 b, .int .i64 c, .int .i64 d] 36)) w.heap.size 34 #[vn, vl] := (Blk.newAt rfl).alloc _
  have hTA : Blk ((w.alloc (.cells #[vn, vl] 34)).alloc (.cells #[.int .i64 a, .int .i64 b, .int .i64 c, .int .i64 d] 36)) (w.heap.size + 1) 36 #[.int .i64 a, .int .i64 b, .int .i64 c, .int .i64 d] := Blk.newAt (by simp)
  have hfl := facesW_len ns ls
  go_enter Tryz.func11, Tryz.ntmps11
  go_wp2_with fail
  refine (iWhole_at vn vl ns ls _ _ (hn.below hba) (hl.below hba) h1).mono ?_
  rintro e w1 ⟨rfl, hs1⟩
  have hb1 := hba.trans (hs1.mono hba.size)
  have hW1 := hWA.below hs1 hWA.lt
  have hT1 := hTA.below hs1 hTA.lt
  (have x_0 := hW1.cell 0); (have x_1 := hW1.cell 1); simp only [List.getElem?_toArray, List.getElem?_cons_succ, List.getElem?_cons_zero] at x_0 x_1
  (have y_0 := hT1.cell 0); (have y_1 := hT1.cell 1); (have y_2 := hT1.cell 2); (have y_3 := hT1.cell 3); simp only [List.getElem?_toArray, List.getElem?_cons_succ, List.getElem?_cons_zero] at y_0 y_1 y_2 y_3
  have lw1 := hW1.lt
  have lt1 := hT1.lt
  go_wp2
  go_ret
  exact ⟨rfl, hb1⟩

set_option maxHeartbeats 8000000 in
set_option maxRecDepth 100000 in
theorem iBill_notariff (vn vl vp : Value) (ns ls : List Pr) (a b c d : Int) (zs : List Int) (w : World) (hn : RP w vn ns) (hl : RP w vl ls) (hp : RI w vp zs) (h1 : wholeB ns ls = true) (h2 : tariffB a b c d = false) :
    Calls Tryz.prog 11 #[.agg #[vn, vl], .agg #[.int .i64 a, .int .i64 b, .int .i64 c, .int .i64 d], vp] w fun e w' => e = .returned (.int .i64 (-1)) ∧ Below w.heap.size w w' := by
  have hba : Below w.heap.size w ((w.alloc (.cells #[vn, vl] 34)).alloc (.cells #[.int .i64 a, .int .i64 b, .int .i64 c, .int .i64 d] 36)) := by (repeat' (first | (with_reducible exact Below.refl _ _) | (with_reducible assumption) | (with_reducible refine Below.drew ?_) | (with_reducible refine below_drewN ?_ _) | (with_reducible refine Below.alloc ?_ ?_ _) | (with_reducible refine Below.setCell ?_ ?_ _) | (with_reducible refine Below.step (by assumption) ?_ ?_))); all_goals (first | omega | (simp; done) | (simp; omega))
  have hWA : Blk ((w.alloc (.cells #[vn, vl] 34)).alloc (.cells #[.int .i64 a, .int .i64 b, .int .i64 c, .int .i64 d] 36)) w.heap.size 34 #[vn, vl] := (Blk.newAt rfl).alloc _
  have hTA : Blk ((w.alloc (.cells #[vn, vl] 34)).alloc (.cells #[.int .i64 a, .int .i64 b, .int .i64 c, .int .i64 d] 36)) (w.heap.size + 1) 36 #[.int .i64 a, .int .i64 b, .int .i64 c, .int .i64 d] := Blk.newAt (by simp)
  have hfl := facesW_len ns ls
  go_enter Tryz.func11, Tryz.ntmps11
  go_wp2_with fail
  refine (iWhole_at vn vl ns ls _ _ (hn.below hba) (hl.below hba) h1).mono ?_
  rintro e w1 ⟨rfl, hs1⟩
  have hb1 := hba.trans (hs1.mono hba.size)
  have hW1 := hWA.below hs1 hWA.lt
  have hT1 := hTA.below hs1 hTA.lt
  (have x_0 := hW1.cell 0); (have x_1 := hW1.cell 1); simp only [List.getElem?_toArray, List.getElem?_cons_succ, List.getElem?_cons_zero] at x_0 x_1
  (have y_0 := hT1.cell 0); (have y_1 := hT1.cell 1); (have y_2 := hT1.cell 2); (have y_3 := hT1.cell 3); simp only [List.getElem?_toArray, List.getElem?_cons_succ, List.getElem?_cons_zero] at y_0 y_1 y_2 y_3
  have lw1 := hW1.lt
  have lt1 := hT1.lt
  go_wp2_with fail
  refine (iTariff_at a b c d _ _ h2).mono ?_
  rintro e w2 ⟨rfl, hs2⟩
  have hb2 := hb1.trans (hs2.mono hb1.size)
  have hW2 := hW1.below hs2 hW1.lt
  have hT2 := hT1.below hs2 hT1.lt
  clear x_0 x_1 y_0 y_1 y_2 y_3
  (have x_0 := hW2.cell 0); (have x_1 := hW2.cell 1); simp only [List.getElem?_toArray, List.getElem?_cons_succ, List.getElem?_cons_zero] at x_0 x_1
  (have y_0 := hT2.cell 0); (have y_1 := hT2.cell 1); (have y_2 := hT2.cell 2); (have y_3 := hT2.cell 3); simp only [List.getElem?_toArray, List.getElem?_cons_succ, List.getElem?_cons_zero] at y_0 y_1 y_2 y_3
  have lw2 := hW2.lt
  have lt2 := hT2.lt
  go_wp2
  go_ret
  exact ⟨rfl, hb2⟩

set_option maxHeartbeats 8000000 in
set_option maxRecDepth 100000 in
theorem iBill_norise (vn vl vp : Value) (ns ls : List Pr) (a b c d : Int) (zs : List Int) (w : World) (hn : RP w vn ns) (hl : RP w vl ls) (hp : RI w vp zs) (h1 : wholeB ns ls = true) (h2 : tariffB a b c d = true) (h3 : riseB zs (((facesW ns ls).length : Int) - 1) = false) :
    Calls Tryz.prog 11 #[.agg #[vn, vl], .agg #[.int .i64 a, .int .i64 b, .int .i64 c, .int .i64 d], vp] w fun e w' => e = .returned (.int .i64 (-1)) ∧ Below w.heap.size w w' := by
  have hba : Below w.heap.size w ((w.alloc (.cells #[vn, vl] 34)).alloc (.cells #[.int .i64 a, .int .i64 b, .int .i64 c, .int .i64 d] 36)) := by (repeat' (first | (with_reducible exact Below.refl _ _) | (with_reducible assumption) | (with_reducible refine Below.drew ?_) | (with_reducible refine below_drewN ?_ _) | (with_reducible refine Below.alloc ?_ ?_ _) | (with_reducible refine Below.setCell ?_ ?_ _) | (with_reducible refine Below.step (by assumption) ?_ ?_))); all_goals (first | omega | (simp; done) | (simp; omega))
  have hWA : Blk ((w.alloc (.cells #[vn, vl] 34)).alloc (.cells #[.int .i64 a, .int .i64 b, .int .i64 c, .int .i64 d] 36)) w.heap.size 34 #[vn, vl] := (Blk.newAt rfl).alloc _
  have hTA : Blk ((w.alloc (.cells #[vn, vl] 34)).alloc (.cells #[.int .i64 a, .int .i64 b, .int .i64 c, .int .i64 d] 36)) (w.heap.size + 1) 36 #[.int .i64 a, .int .i64 b, .int .i64 c, .int .i64 d] := Blk.newAt (by simp)
  have hfl := facesW_len ns ls
  go_enter Tryz.func11, Tryz.ntmps11
  go_wp2_with fail
  refine (iWhole_at vn vl ns ls _ _ (hn.below hba) (hl.below hba) h1).mono ?_
  rintro e w1 ⟨rfl, hs1⟩
  have hb1 := hba.trans (hs1.mono hba.size)
  have hW1 := hWA.below hs1 hWA.lt
  have hT1 := hTA.below hs1 hTA.lt
  (have x_0 := hW1.cell 0); (have x_1 := hW1.cell 1); simp only [List.getElem?_toArray, List.getElem?_cons_succ, List.getElem?_cons_zero] at x_0 x_1
  (have y_0 := hT1.cell 0); (have y_1 := hT1.cell 1); (have y_2 := hT1.cell 2); (have y_3 := hT1.cell 3); simp only [List.getElem?_toArray, List.getElem?_cons_succ, List.getElem?_cons_zero] at y_0 y_1 y_2 y_3
  have lw1 := hW1.lt
  have lt1 := hT1.lt
  go_wp2_with fail
  refine (iTariff_at a b c d _ _ h2).mono ?_
  rintro e w2 ⟨rfl, hs2⟩
  have hb2 := hb1.trans (hs2.mono hb1.size)
  have hW2 := hW1.below hs2 hW1.lt
  have hT2 := hT1.below hs2 hT1.lt
  clear x_0 x_1 y_0 y_1 y_2 y_3
  (have x_0 := hW2.cell 0); (have x_1 := hW2.cell 1); simp only [List.getElem?_toArray, List.getElem?_cons_succ, List.getElem?_cons_zero] at x_0 x_1
  (have y_0 := hT2.cell 0); (have y_1 := hT2.cell 1); (have y_2 := hT2.cell 2); (have y_3 := hT2.cell 3); simp only [List.getElem?_toArray, List.getElem?_cons_succ, List.getElem?_cons_zero] at y_0 y_1 y_2 y_3
  have lw2 := hW2.lt
  have lt2 := hT2.lt
  go_wp2_with fail
  refine (iFaces_any vn vl ns ls _ (hn.below hb2) (hl.below hb2)).mono ?_
  rintro e w3 ⟨v3, rfl, ho3, hs3⟩
  obtain ⟨A3, c3, rfl⟩ := ho3.form
  have hb3 := hb2.trans (hs3.mono hb2.size)
  have hW3 := hW2.below hs3 hW2.lt
  have hT3 := hT2.below hs3 hT2.lt
  clear x_0 x_1 y_0 y_1 y_2 y_3
  (have x_0 := hW3.cell 0); (have x_1 := hW3.cell 1); simp only [List.getElem?_toArray, List.getElem?_cons_succ, List.getElem?_cons_zero] at x_0 x_1
  (have y_0 := hT3.cell 0); (have y_1 := hT3.cell 1); (have y_2 := hT3.cell 2); (have y_3 := hT3.cell 3); simp only [List.getElem?_toArray, List.getElem?_cons_succ, List.getElem?_cons_zero] at y_0 y_1 y_2 y_3
  have lw3 := hW3.lt
  have lt3 := hT3.lt
  go_wp2_with fail
  refine (iRise_at vp zs _ _ _ (hp.below hb3) (by omega) (by omega) h3).mono ?_
  rintro e w4 ⟨rfl, hs4⟩
  have hb4 := hb3.trans (hs4.mono hb3.size)
  have hW4 := hW3.below hs4 hW3.lt
  have hT4 := hT3.below hs4 hT3.lt
  clear x_0 x_1 y_0 y_1 y_2 y_3
  (have x_0 := hW4.cell 0); (have x_1 := hW4.cell 1); simp only [List.getElem?_toArray, List.getElem?_cons_succ, List.getElem?_cons_zero] at x_0 x_1
  (have y_0 := hT4.cell 0); (have y_1 := hT4.cell 1); (have y_2 := hT4.cell 2); (have y_3 := hT4.cell 3); simp only [List.getElem?_toArray, List.getElem?_cons_succ, List.getElem?_cons_zero] at y_0 y_1 y_2 y_3
  have lw4 := hW4.lt
  have lt4 := hT4.lt
  go_wp2
  go_ret
  exact ⟨rfl, hb4⟩

set_option maxHeartbeats 8000000 in
set_option maxRecDepth 100000 in
theorem iBill_nohas (vn vl vp : Value) (ns ls : List Pr) (a b c d : Int) (zs : List Int) (w : World) (hn : RP w vn ns) (hl : RP w vl ls) (hp : RI w vp zs) (h1 : wholeB ns ls = true) (h2 : tariffB a b c d = true) (h3 : riseB zs (((facesW ns ls).length : Int) - 1) = true) (h4 : decide (outerW ns ls ∈ zs) = true) :
    Calls Tryz.prog 11 #[.agg #[vn, vl], .agg #[.int .i64 a, .int .i64 b, .int .i64 c, .int .i64 d], vp] w fun e w' => e = .returned (.int .i64 (-1)) ∧ Below w.heap.size w w' := by
  have hba : Below w.heap.size w ((w.alloc (.cells #[vn, vl] 34)).alloc (.cells #[.int .i64 a, .int .i64 b, .int .i64 c, .int .i64 d] 36)) := by (repeat' (first | (with_reducible exact Below.refl _ _) | (with_reducible assumption) | (with_reducible refine Below.drew ?_) | (with_reducible refine below_drewN ?_ _) | (with_reducible refine Below.alloc ?_ ?_ _) | (with_reducible refine Below.setCell ?_ ?_ _) | (with_reducible refine Below.step (by assumption) ?_ ?_))); all_goals (first | omega | (simp; done) | (simp; omega))
  have hWA : Blk ((w.alloc (.cells #[vn, vl] 34)).alloc (.cells #[.int .i64 a, .int .i64 b, .int .i64 c, .int .i64 d] 36)) w.heap.size 34 #[vn, vl] := (Blk.newAt rfl).alloc _
  have hTA : Blk ((w.alloc (.cells #[vn, vl] 34)).alloc (.cells #[.int .i64 a, .int .i64 b, .int .i64 c, .int .i64 d] 36)) (w.heap.size + 1) 36 #[.int .i64 a, .int .i64 b, .int .i64 c, .int .i64 d] := Blk.newAt (by simp)
  have hfl := facesW_len ns ls
  go_enter Tryz.func11, Tryz.ntmps11
  go_wp2_with fail
  refine (iWhole_at vn vl ns ls _ _ (hn.below hba) (hl.below hba) h1).mono ?_
  rintro e w1 ⟨rfl, hs1⟩
  have hb1 := hba.trans (hs1.mono hba.size)
  have hW1 := hWA.below hs1 hWA.lt
  have hT1 := hTA.below hs1 hTA.lt
  (have x_0 := hW1.cell 0); (have x_1 := hW1.cell 1); simp only [List.getElem?_toArray, List.getElem?_cons_succ, List.getElem?_cons_zero] at x_0 x_1
  (have y_0 := hT1.cell 0); (have y_1 := hT1.cell 1); (have y_2 := hT1.cell 2); (have y_3 := hT1.cell 3); simp only [List.getElem?_toArray, List.getElem?_cons_succ, List.getElem?_cons_zero] at y_0 y_1 y_2 y_3
  have lw1 := hW1.lt
  have lt1 := hT1.lt
  go_wp2_with fail
  refine (iTariff_at a b c d _ _ h2).mono ?_
  rintro e w2 ⟨rfl, hs2⟩
  have hb2 := hb1.trans (hs2.mono hb1.size)
  have hW2 := hW1.below hs2 hW1.lt
  have hT2 := hT1.below hs2 hT1.lt
  clear x_0 x_1 y_0 y_1 y_2 y_3
  (have x_0 := hW2.cell 0); (have x_1 := hW2.cell 1); simp only [List.getElem?_toArray, List.getElem?_cons_succ, List.getElem?_cons_zero] at x_0 x_1
  (have y_0 := hT2.cell 0); (have y_1 := hT2.cell 1); (have y_2 := hT2.cell 2); (have y_3 := hT2.cell 3); simp only [List.getElem?_toArray, List.getElem?_cons_succ, List.getElem?_cons_zero] at y_0 y_1 y_2 y_3
  have lw2 := hW2.lt
  have lt2 := hT2.lt
  go_wp2_with fail
  refine (iFaces_any vn vl ns ls _ (hn.below hb2) (hl.below hb2)).mono ?_
  rintro e w3 ⟨v3, rfl, ho3, hs3⟩
  obtain ⟨A3, c3, rfl⟩ := ho3.form
  have hb3 := hb2.trans (hs3.mono hb2.size)
  have hW3 := hW2.below hs3 hW2.lt
  have hT3 := hT2.below hs3 hT2.lt
  clear x_0 x_1 y_0 y_1 y_2 y_3
  (have x_0 := hW3.cell 0); (have x_1 := hW3.cell 1); simp only [List.getElem?_toArray, List.getElem?_cons_succ, List.getElem?_cons_zero] at x_0 x_1
  (have y_0 := hT3.cell 0); (have y_1 := hT3.cell 1); (have y_2 := hT3.cell 2); (have y_3 := hT3.cell 3); simp only [List.getElem?_toArray, List.getElem?_cons_succ, List.getElem?_cons_zero] at y_0 y_1 y_2 y_3
  have lw3 := hW3.lt
  have lt3 := hT3.lt
  go_wp2_with fail
  refine (iRise_at vp zs _ _ _ (hp.below hb3) (by omega) (by omega) h3).mono ?_
  rintro e w4 ⟨rfl, hs4⟩
  have hb4 := hb3.trans (hs4.mono hb3.size)
  have hW4 := hW3.below hs4 hW3.lt
  have hT4 := hT3.below hs4 hT3.lt
  clear x_0 x_1 y_0 y_1 y_2 y_3
  (have x_0 := hW4.cell 0); (have x_1 := hW4.cell 1); simp only [List.getElem?_toArray, List.getElem?_cons_succ, List.getElem?_cons_zero] at x_0 x_1
  (have y_0 := hT4.cell 0); (have y_1 := hT4.cell 1); (have y_2 := hT4.cell 2); (have y_3 := hT4.cell 3); simp only [List.getElem?_toArray, List.getElem?_cons_succ, List.getElem?_cons_zero] at y_0 y_1 y_2 y_3
  have lw4 := hW4.lt
  have lt4 := hT4.lt
  go_wp2_with fail
  refine (iOuter_any vn vl ns ls _ (hn.below hb4) (hl.below hb4)).mono ?_
  rintro e w5 ⟨rfl, hs5⟩
  have hb5 := hb4.trans (hs5.mono hb4.size)
  have hW5 := hW4.below hs5 hW4.lt
  have hT5 := hT4.below hs5 hT4.lt
  clear x_0 x_1 y_0 y_1 y_2 y_3
  (have x_0 := hW5.cell 0); (have x_1 := hW5.cell 1); simp only [List.getElem?_toArray, List.getElem?_cons_succ, List.getElem?_cons_zero] at x_0 x_1
  (have y_0 := hT5.cell 0); (have y_1 := hT5.cell 1); (have y_2 := hT5.cell 2); (have y_3 := hT5.cell 3); simp only [List.getElem?_toArray, List.getElem?_cons_succ, List.getElem?_cons_zero] at y_0 y_1 y_2 y_3
  have lw5 := hW5.lt
  have lt5 := hT5.lt
  go_wp2_with fail
  refine (iHas_at vp zs _ _ _ (hp.below hb5) h4).mono ?_
  rintro e w6 ⟨rfl, rfl⟩
  have hb6 := hb5
  have hW6 := hW5
  have hT6 := hT5
  go_wp2
  go_ret
  exact ⟨rfl, hb6⟩

set_option maxHeartbeats 8000000 in
set_option maxRecDepth 100000 in
theorem iBill_yes (vn vl vp : Value) (ns ls : List Pr) (a b c d : Int) (zs : List Int) (w : World) (hn : RP w vn ns) (hl : RP w vl ls) (hp : RI w vp zs) (h1 : wholeB ns ls = true) (h2 : tariffB a b c d = true) (h3 : riseB zs (((facesW ns ls).length : Int) - 1) = true) (h4 : decide (outerW ns ls ∈ zs) = false) :
    Calls Tryz.prog 11 #[.agg #[vn, vl], .agg #[.int .i64 a, .int .i64 b, .int .i64 c, .int .i64 d], vp] w fun e w' => e = .returned (.int .i64 (a * totalW ns ls + b * lenW ns ls + c * jointsI ns ls + d * sumA ns ls zs zs.length)) ∧ Below w.heap.size w w' := by
  have hba : Below w.heap.size w ((w.alloc (.cells #[vn, vl] 34)).alloc (.cells #[.int .i64 a, .int .i64 b, .int .i64 c, .int .i64 d] 36)) := by (repeat' (first | (with_reducible exact Below.refl _ _) | (with_reducible assumption) | (with_reducible refine Below.drew ?_) | (with_reducible refine below_drewN ?_ _) | (with_reducible refine Below.alloc ?_ ?_ _) | (with_reducible refine Below.setCell ?_ ?_ _) | (with_reducible refine Below.step (by assumption) ?_ ?_))); all_goals (first | omega | (simp; done) | (simp; omega))
  have hWA : Blk ((w.alloc (.cells #[vn, vl] 34)).alloc (.cells #[.int .i64 a, .int .i64 b, .int .i64 c, .int .i64 d] 36)) w.heap.size 34 #[vn, vl] := (Blk.newAt rfl).alloc _
  have hTA : Blk ((w.alloc (.cells #[vn, vl] 34)).alloc (.cells #[.int .i64 a, .int .i64 b, .int .i64 c, .int .i64 d] 36)) (w.heap.size + 1) 36 #[.int .i64 a, .int .i64 b, .int .i64 c, .int .i64 d] := Blk.newAt (by simp)
  have hfl := facesW_len ns ls
  have hF1 := facesW_pos h1
  obtain ⟨⟨a0, a1⟩, ⟨b0, b1⟩, ⟨c0, c1⟩, ⟨d0, d1⟩⟩ := tariffB_bd h2
  have hr3 := riseB_true.1 h3
  have hzl : zs.length ≤ 40 := by
    rcases Nat.eq_zero_or_pos zs.length with h | h
    · omega
    · have g1 := rise_len zs.length (Nat.le_refl _) hr3 h
      have g2 := (hr3 (zs.length - 1) (by omega)).1
      omega
  have HSB := Lib.hid (sumA_bd ns ls zs)
  have HAB := Lib.hid (fun f => areaW_bd ns ls f)
  have HS0 : Hid (sumA ns ls zs 0 = 0) := Lib.hid rfl
  have HSS : Hid (∀ k, sumA ns ls zs (k + 1) = sumA ns ls zs k + areaW ns ls (zs.getD k 0)) := Lib.hid (fun _ => rfl)
  have tb := areaW_bd ns ls (outerW ns ls)
  rw [show areaW ns ls (outerW ns ls) = totalW ns ls from rfl] at tb
  have lb := lenW_bd ns ls
  have jb := jointsI_bd ns ls
  obtain ⟨T, hT⟩ : ∃ T, totalW ns ls = T := ⟨_, rfl⟩
  obtain ⟨L, hL⟩ : ∃ L, lenW ns ls = L := ⟨_, rfl⟩
  obtain ⟨J, hJ⟩ : ∃ J, jointsI ns ls = J := ⟨_, rfl⟩
  rw [hT] at tb
  rw [hL] at lb
  rw [hJ] at jb
  obtain ⟨m1, m2⟩ := mulT (a := a) (x := T) (U := 16000) a0 a1 (by omega) (by omega)
  obtain ⟨m3, m4⟩ := mulT (a := b) (x := L) (U := 16000) b0 b1 (by omega) (by omega)
  obtain ⟨m5, m6⟩ := mulT (a := c) (x := J) (U := 16000) c0 c1 (by omega) (by omega)
  have HT := Lib.hid hT
  have HL := Lib.hid hL
  have HJ := Lib.hid hJ
  have HJJ : Hid (Hid (jointsI ns ls = J)) := Lib.hid HJ
  rw [HT.out, HL.out, HJ.out]
  clear hT hL hJ tb lb jb hr3
  have HP := Lib.hid hp
  go_enter Tryz.func11, Tryz.ntmps11
  go_wp2_with fail
  refine (iWhole_at vn vl ns ls _ _ (hn.below hba) (hl.below hba) h1).mono ?_
  rintro e w1 ⟨rfl, hs1⟩
  have hb1 := hba.trans (hs1.mono hba.size)
  have hW1 := hWA.below hs1 hWA.lt
  have hT1 := hTA.below hs1 hTA.lt
  (have x_0 := hW1.cell 0); (have x_1 := hW1.cell 1); simp only [List.getElem?_toArray, List.getElem?_cons_succ, List.getElem?_cons_zero] at x_0 x_1
  (have y_0 := hT1.cell 0); (have y_1 := hT1.cell 1); (have y_2 := hT1.cell 2); (have y_3 := hT1.cell 3); simp only [List.getElem?_toArray, List.getElem?_cons_succ, List.getElem?_cons_zero] at y_0 y_1 y_2 y_3
  have lw1 := hW1.lt
  have lt1 := hT1.lt
  go_wp2_with fail
  refine (iTariff_at a b c d _ _ h2).mono ?_
  rintro e w2 ⟨rfl, hs2⟩
  have hb2 := hb1.trans (hs2.mono hb1.size)
  have hW2 := hW1.below hs2 hW1.lt
  have hT2 := hT1.below hs2 hT1.lt
  clear x_0 x_1 y_0 y_1 y_2 y_3
  (have x_0 := hW2.cell 0); (have x_1 := hW2.cell 1); simp only [List.getElem?_toArray, List.getElem?_cons_succ, List.getElem?_cons_zero] at x_0 x_1
  (have y_0 := hT2.cell 0); (have y_1 := hT2.cell 1); (have y_2 := hT2.cell 2); (have y_3 := hT2.cell 3); simp only [List.getElem?_toArray, List.getElem?_cons_succ, List.getElem?_cons_zero] at y_0 y_1 y_2 y_3
  have lw2 := hW2.lt
  have lt2 := hT2.lt
  go_wp2_with fail
  refine (iFaces_any vn vl ns ls _ (hn.below hb2) (hl.below hb2)).mono ?_
  rintro e w3 ⟨v3, rfl, ho3, hs3⟩
  obtain ⟨A3, c3, rfl⟩ := ho3.form
  have hb3 := hb2.trans (hs3.mono hb2.size)
  have hW3 := hW2.below hs3 hW2.lt
  have hT3 := hT2.below hs3 hT2.lt
  clear x_0 x_1 y_0 y_1 y_2 y_3
  (have x_0 := hW3.cell 0); (have x_1 := hW3.cell 1); simp only [List.getElem?_toArray, List.getElem?_cons_succ, List.getElem?_cons_zero] at x_0 x_1
  (have y_0 := hT3.cell 0); (have y_1 := hT3.cell 1); (have y_2 := hT3.cell 2); (have y_3 := hT3.cell 3); simp only [List.getElem?_toArray, List.getElem?_cons_succ, List.getElem?_cons_zero] at y_0 y_1 y_2 y_3
  have lw3 := hW3.lt
  have lt3 := hT3.lt
  go_wp2_with fail
  refine (iRise_at vp zs _ _ _ (hp.below hb3) (by omega) (by omega) h3).mono ?_
  rintro e w4 ⟨rfl, hs4⟩
  have hb4 := hb3.trans (hs4.mono hb3.size)
  have hW4 := hW3.below hs4 hW3.lt
  have hT4 := hT3.below hs4 hT3.lt
  clear x_0 x_1 y_0 y_1 y_2 y_3
  (have x_0 := hW4.cell 0); (have x_1 := hW4.cell 1); simp only [List.getElem?_toArray, List.getElem?_cons_succ, List.getElem?_cons_zero] at x_0 x_1
  (have y_0 := hT4.cell 0); (have y_1 := hT4.cell 1); (have y_2 := hT4.cell 2); (have y_3 := hT4.cell 3); simp only [List.getElem?_toArray, List.getElem?_cons_succ, List.getElem?_cons_zero] at y_0 y_1 y_2 y_3
  have lw4 := hW4.lt
  have lt4 := hT4.lt
  go_wp2_with fail
  refine (iOuter_any vn vl ns ls _ (hn.below hb4) (hl.below hb4)).mono ?_
  rintro e w5 ⟨rfl, hs5⟩
  have hb5 := hb4.trans (hs5.mono hb4.size)
  have hW5 := hW4.below hs5 hW4.lt
  have hT5 := hT4.below hs5 hT4.lt
  clear x_0 x_1 y_0 y_1 y_2 y_3
  (have x_0 := hW5.cell 0); (have x_1 := hW5.cell 1); simp only [List.getElem?_toArray, List.getElem?_cons_succ, List.getElem?_cons_zero] at x_0 x_1
  (have y_0 := hT5.cell 0); (have y_1 := hT5.cell 1); (have y_2 := hT5.cell 2); (have y_3 := hT5.cell 3); simp only [List.getElem?_toArray, List.getElem?_cons_succ, List.getElem?_cons_zero] at y_0 y_1 y_2 y_3
  have lw5 := hW5.lt
  have lt5 := hT5.lt
  go_wp2_with fail
  refine (iHas_at vp zs _ _ _ (hp.below hb5) h4).mono ?_
  rintro e w6 ⟨rfl, rfl⟩
  have hb6 := hb5
  have hW6 := hW5
  have hT6 := hT5
  clear h1 h2 h3 h4
  obtain ⟨Ap, cp, rfl, hcp, hmp, hcellp⟩ := hp.form
  unfold maxLen at hmp
  have HCP := Lib.hid hcellp
  clear hcellp
  go_wp2
  go_loopw [7, 35] (fun n x wr => ∃ k : Nat, k ≤ zs.length ∧ x = .int .i64 k ∧ n = .int .i64 (sumA ns ls zs k) ∧ Blk wr w.heap.size 34 #[vn, vl] ∧ Blk wr (w.heap.size + 1) 36 #[.int .i64 a, .int .i64 b, .int .i64 c, .int .i64 d] ∧ Below w.heap.size w wr) (fun _ x _ => zs.length - (intOf x).toNat)
  case atStart => exact ⟨0, Nat.zero_le _, rfl, by rw [HS0.out], hW6, hT6, hb6⟩
  case round =>
    clear x_0 x_1 y_0 y_1 y_2 y_3
    obtain ⟨k, hk, rfl, rfl, hW, hTT, hbl⟩ := hrel
    have hsz := hW.lt
    have hst := hTT.lt
    (have x_0 := hW.cell 0); (have x_1 := hW.cell 1); simp only [List.getElem?_toArray, List.getElem?_cons_succ, List.getElem?_cons_zero] at x_0 x_1
    (have y_0 := hTT.cell 0); (have y_1 := hTT.cell 1); (have y_2 := hTT.cell 2); (have y_3 := hTT.cell 3); simp only [List.getElem?_toArray, List.getElem?_cons_succ, List.getElem?_cons_zero] at y_0 y_1 y_2 y_3
    by_cases hlt : k < zs.length
    · have hlt1 : (k : Int) < (zs.length : Int) := by omega
      have ik1 : (0 : Int) ≤ (k : Int) := by omega
      obtain ⟨b4, off4, rfl, hb4, hcl4⟩ := HCP.out (by omega)
      have hx := (hbl.cell (p := ⟨b4, off4 + k, none⟩) hb4).trans (hcl4 k hlt)
      have HS := Lib.hid (HSS.out k)
      have sb := HSB.out k
      have ab := HAB.out (zs.getD k 0)
      generalize zs.getD k 0 = z at *
      obtain ⟨q, hq⟩ : ∃ q, areaW ns ls z = q := ⟨_, rfl⟩
      rw [hq] at ab HS
      have HQ := Lib.hid hq
      clear hq hcl4
      generalize hSK : sumA ns ls zs k = SK at *
      have HSK := Lib.hid hSK
      clear hSK
      go_wp2_with fail
      refine (iArea_at vn vl ns ls z q _ (hn.below hbl) (hl.below hbl) HQ.out).mono ?_
      rintro e w9 ⟨rfl, hs9⟩
      have hb9 := hbl.trans (hs9.mono hbl.size)
      have hW9 := hW.below hs9 hsz
      have hT9 := hTT.below hs9 hst
      clear hW hTT hbl hs9 x_0 x_1 y_0 y_1 y_2 y_3
      go_wp2
      go_roundw
      case rel => exact ⟨k + 1, by omega, by go_num, by rw [HS.out], hW9, hT9, hb9⟩
      case measure => simp [intOf]; omega
    · have hkk : k = zs.length := by omega
      subst hkk
      have sb := HSB.out zs.length
      generalize hSK : sumA ns ls zs zs.length = SK at *
      have HSK := Lib.hid hSK
      clear hSK
      obtain ⟨m7, m8⟩ := mulT (a := d) (x := SK) (U := 640000) d0 d1 (by omega) (by omega)
      go_wp2_with fail
      (refine wp_region_quietG (by kernel_rfl) (by kernel_rfl) (fun hG => ?_))
      repeat (go_big_quiet_step (first | (go_at_call 45; exact quietG (iTotal_at vn vl ns ls T _ (hn.below (hbl.trans (Below.mono (Grw.below _) hbl.size))) (hl.below (hbl.trans (Below.mono (Grw.below _) hbl.size))) HT.out)) | (go_at_call 46; exact quietG (iLen_at vn vl ns ls L _ (hn.below (hbl.trans (Below.mono (Grw.below _) hbl.size))) (hl.below (hbl.trans (Below.mono (Grw.below _) hbl.size))) HL.out)) | (go_at_call 23; exact quietG (iJoints_at vn vl ns ls J _ (hn.below (hbl.trans (Below.mono (Grw.below _) hbl.size))) (hl.below (hbl.trans (Below.mono (Grw.below _) hbl.size))) HJJ.out))))
      refine wpQuiet_nil ?_
      clear hG
      rintro w9 ⟨⟨_, hs9⟩, rfl⟩
      go_wp2
      go_ret
      exact ⟨ret_int (by rw [HSK.out]), hbl.trans (hs9.mono hbl.size)⟩

theorem iBill_any (vn vl vp : Value) (ns ls : List Pr) (a b c d : Int) (zs : List Int) (w : World) (hn : RP w vn ns) (hl : RP w vl ls) (hp : RI w vp zs) :
    Calls Tryz.prog 11 #[.agg #[vn, vl], .agg #[.int .i64 a, .int .i64 b, .int .i64 c, .int .i64 d], vp] w fun e w' => e = .returned (.int .i64 (billI ns ls a b c d zs)) ∧ Below w.heap.size w w' := by
  cases h1 : wholeB ns ls
  · rw [bill_no1 h1]; exact iBill_nowhole vn vl vp ns ls a b c d zs w hn hl hp h1
  cases h2 : tariffB a b c d
  · rw [bill_no2 h2]; exact iBill_notariff vn vl vp ns ls a b c d zs w hn hl hp h1 h2
  cases h3 : riseB zs (((facesW ns ls).length : Int) - 1)
  · rw [bill_no3 h3]; exact iBill_norise vn vl vp ns ls a b c d zs w hn hl hp h1 h2 h3
  cases h4 : decide (outerW ns ls ∈ zs)
  · rw [bill_yes h1 h2 h3 h4]; exact iBill_yes vn vl vp ns ls a b c d zs w hn hl hp h1 h2 h3 h4
  · rw [bill_no4 h4]; exact iBill_nohas vn vl vp ns ls a b c d zs w hn hl hp h1 h2 h3 h4

set_option maxHeartbeats 8000000 in
set_option maxRecDepth 100000 in
theorem sBill_nowhole (vn vl vp : Value) (ns ls : List Pr) (a b c d : Int) (zs : List Int) (w : World) (hn : RP w vn ns) (hl : RP w vl ls) (hp : RI w vp zs) (h1 : wholeB ns ls = false) :
    Calls Tryz.prog 7 #[.agg #[vn, vl], .agg #[.int .i64 a, .int .i64 b, .int .i64 c, .int .i64 d], vp] w fun e w' => e = .returned (.int .i64 (-1)) ∧ Below w.heap.size w w' := by
  have hba : Below w.heap.size w ((w.alloc (.cells #[vn, vl] 34)).alloc (.cells #[.int .i64 a, .int .i64 b, .int .i64 c, .int .i64 d] 36)) := by (repeat' (first | (with_reducible exact Below.refl _ _) | (with_reducible assumption) | (with_reducible refine Below.drew ?_) | (with_reducible refine below_drewN ?_ _) | (with_reducible refine Below.alloc ?_ ?_ _) | (with_reducible refine Below.setCell ?_ ?_ _) | (with_reducible refine Below.step (by assumption) ?_ ?_))); all_goals (first | omega | (simp; done) | (simp; omega))
  have hWA : Blk ((w.alloc (.cells #[vn, vl] 34)).alloc (.cells #[.int .i64 a, .int .i64 b, .int .i64 c, .int .i64 d] 36)) w.heap.size 34 #[vn, vl] := (Blk.newAt rfl).alloc _
  have hTA : Blk ((w.alloc (.cells #[vn, vl] 34)).alloc (.cells #[.int .i64 a, .int .i64 b, .int .i64 c, .int .i64 d] 36)) (w.heap.size + 1) 36 #[.int .i64 a, .int .i64 b, .int .i64 c, .int .i64 d] := Blk.newAt (by simp)
  have hfl := facesW_len ns ls
  have hF0 : ((facesW ns ls).length : Int) = 0 := by rw [facesW_zero h1]; rfl
  have e0 : (((facesW ns ls).length : Int) == 0) = true := by rw [hF0]; rfl
  go_enter Tryz.func7, Tryz.ntmps7
  go_wp2_with fail
  refine (sFaces_any vn vl ns ls _ (hn.below hba) (hl.below hba)).mono ?_
  rintro e w1 ⟨v1, rfl, ho1, hs1⟩
  rw [facesW_zero h1] at ho1
  obtain ⟨A1, c1, rfl⟩ := ho1.form
  go_wp2
  go_ret
  exact ⟨rfl, hba.trans (hs1.mono hba.size)⟩

set_option maxHeartbeats 8000000 in
set_option maxRecDepth 100000 in
theorem sBill_notariff (vn vl vp : Value) (ns ls : List Pr) (a b c d : Int) (zs : List Int) (w : World) (hn : RP w vn ns) (hl : RP w vl ls) (hp : RI w vp zs) (h1 : wholeB ns ls = true) (h2 : tariffB a b c d = false) :
    Calls Tryz.prog 7 #[.agg #[vn, vl], .agg #[.int .i64 a, .int .i64 b, .int .i64 c, .int .i64 d], vp] w fun e w' => e = .returned (.int .i64 (-1)) ∧ Below w.heap.size w w' := by
  have hba : Below w.heap.size w ((w.alloc (.cells #[vn, vl] 34)).alloc (.cells #[.int .i64 a, .int .i64 b, .int .i64 c, .int .i64 d] 36)) := by (repeat' (first | (with_reducible exact Below.refl _ _) | (with_reducible assumption) | (with_reducible refine Below.drew ?_) | (with_reducible refine below_drewN ?_ _) | (with_reducible refine Below.alloc ?_ ?_ _) | (with_reducible refine Below.setCell ?_ ?_ _) | (with_reducible refine Below.step (by assumption) ?_ ?_))); all_goals (first | omega | (simp; done) | (simp; omega))
  have hWA : Blk ((w.alloc (.cells #[vn, vl] 34)).alloc (.cells #[.int .i64 a, .int .i64 b, .int .i64 c, .int .i64 d] 36)) w.heap.size 34 #[vn, vl] := (Blk.newAt rfl).alloc _
  have hTA : Blk ((w.alloc (.cells #[vn, vl] 34)).alloc (.cells #[.int .i64 a, .int .i64 b, .int .i64 c, .int .i64 d] 36)) (w.heap.size + 1) 36 #[.int .i64 a, .int .i64 b, .int .i64 c, .int .i64 d] := Blk.newAt (by simp)
  have hfl := facesW_len ns ls
  have hF1 := facesW_pos h1
  have e0 : (((facesW ns ls).length : Int) == 0) = false := beq_eq_false_iff_ne.2 (by omega)
  go_enter Tryz.func7, Tryz.ntmps7
  go_wp2_with fail
  refine (sFaces_any vn vl ns ls _ (hn.below hba) (hl.below hba)).mono ?_
  rintro e w1 ⟨v1, rfl, ho1, hs1⟩
  obtain ⟨A1, c1, rfl⟩ := ho1.form
  have hb1 := hba.trans (hs1.mono hba.size)
  have hW1 := hWA.below hs1 hWA.lt
  have hT1 := hTA.below hs1 hTA.lt
  (have x_0 := hW1.cell 0); (have x_1 := hW1.cell 1); simp only [List.getElem?_toArray, List.getElem?_cons_succ, List.getElem?_cons_zero] at x_0 x_1
  (have y_0 := hT1.cell 0); (have y_1 := hT1.cell 1); (have y_2 := hT1.cell 2); (have y_3 := hT1.cell 3); simp only [List.getElem?_toArray, List.getElem?_cons_succ, List.getElem?_cons_zero] at y_0 y_1 y_2 y_3
  have lw1 := hW1.lt
  have lt1 := hT1.lt
  go_wp2_with fail
  refine (sTariff_at a b c d _ _ h2).mono ?_
  rintro e w2 ⟨rfl, hs2⟩
  have hb2 := hb1.trans (hs2.mono hb1.size)
  have hW2 := hW1.below hs2 hW1.lt
  have hT2 := hT1.below hs2 hT1.lt
  clear x_0 x_1 y_0 y_1 y_2 y_3
  (have x_0 := hW2.cell 0); (have x_1 := hW2.cell 1); simp only [List.getElem?_toArray, List.getElem?_cons_succ, List.getElem?_cons_zero] at x_0 x_1
  (have y_0 := hT2.cell 0); (have y_1 := hT2.cell 1); (have y_2 := hT2.cell 2); (have y_3 := hT2.cell 3); simp only [List.getElem?_toArray, List.getElem?_cons_succ, List.getElem?_cons_zero] at y_0 y_1 y_2 y_3
  have lw2 := hW2.lt
  have lt2 := hT2.lt
  go_wp2
  go_ret
  exact ⟨rfl, hb2⟩

set_option maxHeartbeats 8000000 in
set_option maxRecDepth 100000 in
theorem sBill_norise (vn vl vp : Value) (ns ls : List Pr) (a b c d : Int) (zs : List Int) (w : World) (hn : RP w vn ns) (hl : RP w vl ls) (hp : RI w vp zs) (h1 : wholeB ns ls = true) (h2 : tariffB a b c d = true) (h3 : riseB zs (((facesW ns ls).length : Int) - 1) = false) :
    Calls Tryz.prog 7 #[.agg #[vn, vl], .agg #[.int .i64 a, .int .i64 b, .int .i64 c, .int .i64 d], vp] w fun e w' => e = .returned (.int .i64 (-1)) ∧ Below w.heap.size w w' := by
  have hba : Below w.heap.size w ((w.alloc (.cells #[vn, vl] 34)).alloc (.cells #[.int .i64 a, .int .i64 b, .int .i64 c, .int .i64 d] 36)) := by (repeat' (first | (with_reducible exact Below.refl _ _) | (with_reducible assumption) | (with_reducible refine Below.drew ?_) | (with_reducible refine below_drewN ?_ _) | (with_reducible refine Below.alloc ?_ ?_ _) | (with_reducible refine Below.setCell ?_ ?_ _) | (with_reducible refine Below.step (by assumption) ?_ ?_))); all_goals (first | omega | (simp; done) | (simp; omega))
  have hWA : Blk ((w.alloc (.cells #[vn, vl] 34)).alloc (.cells #[.int .i64 a, .int .i64 b, .int .i64 c, .int .i64 d] 36)) w.heap.size 34 #[vn, vl] := (Blk.newAt rfl).alloc _
  have hTA : Blk ((w.alloc (.cells #[vn, vl] 34)).alloc (.cells #[.int .i64 a, .int .i64 b, .int .i64 c, .int .i64 d] 36)) (w.heap.size + 1) 36 #[.int .i64 a, .int .i64 b, .int .i64 c, .int .i64 d] := Blk.newAt (by simp)
  have hfl := facesW_len ns ls
  have hF1 := facesW_pos h1
  have e0 : (((facesW ns ls).length : Int) == 0) = false := beq_eq_false_iff_ne.2 (by omega)
  go_enter Tryz.func7, Tryz.ntmps7
  go_wp2_with fail
  refine (sFaces_any vn vl ns ls _ (hn.below hba) (hl.below hba)).mono ?_
  rintro e w1 ⟨v1, rfl, ho1, hs1⟩
  obtain ⟨A1, c1, rfl⟩ := ho1.form
  have hb1 := hba.trans (hs1.mono hba.size)
  have hW1 := hWA.below hs1 hWA.lt
  have hT1 := hTA.below hs1 hTA.lt
  (have x_0 := hW1.cell 0); (have x_1 := hW1.cell 1); simp only [List.getElem?_toArray, List.getElem?_cons_succ, List.getElem?_cons_zero] at x_0 x_1
  (have y_0 := hT1.cell 0); (have y_1 := hT1.cell 1); (have y_2 := hT1.cell 2); (have y_3 := hT1.cell 3); simp only [List.getElem?_toArray, List.getElem?_cons_succ, List.getElem?_cons_zero] at y_0 y_1 y_2 y_3
  have lw1 := hW1.lt
  have lt1 := hT1.lt
  go_wp2_with fail
  refine (sTariff_at a b c d _ _ h2).mono ?_
  rintro e w2 ⟨rfl, hs2⟩
  have hb2 := hb1.trans (hs2.mono hb1.size)
  have hW2 := hW1.below hs2 hW1.lt
  have hT2 := hT1.below hs2 hT1.lt
  clear x_0 x_1 y_0 y_1 y_2 y_3
  (have x_0 := hW2.cell 0); (have x_1 := hW2.cell 1); simp only [List.getElem?_toArray, List.getElem?_cons_succ, List.getElem?_cons_zero] at x_0 x_1
  (have y_0 := hT2.cell 0); (have y_1 := hT2.cell 1); (have y_2 := hT2.cell 2); (have y_3 := hT2.cell 3); simp only [List.getElem?_toArray, List.getElem?_cons_succ, List.getElem?_cons_zero] at y_0 y_1 y_2 y_3
  have lw2 := hW2.lt
  have lt2 := hT2.lt
  go_wp2_with fail
  refine (sRise_at vp zs _ _ _ (hp.below hb2) (by omega) (by omega) h3).mono ?_
  rintro e w3 ⟨rfl, hs3⟩
  have hb3 := hb2.trans (hs3.mono hb2.size)
  have hW3 := hW2.below hs3 hW2.lt
  have hT3 := hT2.below hs3 hT2.lt
  clear x_0 x_1 y_0 y_1 y_2 y_3
  (have x_0 := hW3.cell 0); (have x_1 := hW3.cell 1); simp only [List.getElem?_toArray, List.getElem?_cons_succ, List.getElem?_cons_zero] at x_0 x_1
  (have y_0 := hT3.cell 0); (have y_1 := hT3.cell 1); (have y_2 := hT3.cell 2); (have y_3 := hT3.cell 3); simp only [List.getElem?_toArray, List.getElem?_cons_succ, List.getElem?_cons_zero] at y_0 y_1 y_2 y_3
  have lw3 := hW3.lt
  have lt3 := hT3.lt
  go_wp2
  go_ret
  exact ⟨rfl, hb3⟩

set_option maxHeartbeats 8000000 in
set_option maxRecDepth 100000 in
theorem sBill_nohas (vn vl vp : Value) (ns ls : List Pr) (a b c d : Int) (zs : List Int) (w : World) (hn : RP w vn ns) (hl : RP w vl ls) (hp : RI w vp zs) (h1 : wholeB ns ls = true) (h2 : tariffB a b c d = true) (h3 : riseB zs (((facesW ns ls).length : Int) - 1) = true) (h4 : decide (outerW ns ls ∈ zs) = true) :
    Calls Tryz.prog 7 #[.agg #[vn, vl], .agg #[.int .i64 a, .int .i64 b, .int .i64 c, .int .i64 d], vp] w fun e w' => e = .returned (.int .i64 (-1)) ∧ Below w.heap.size w w' := by
  have hba : Below w.heap.size w ((w.alloc (.cells #[vn, vl] 34)).alloc (.cells #[.int .i64 a, .int .i64 b, .int .i64 c, .int .i64 d] 36)) := by (repeat' (first | (with_reducible exact Below.refl _ _) | (with_reducible assumption) | (with_reducible refine Below.drew ?_) | (with_reducible refine below_drewN ?_ _) | (with_reducible refine Below.alloc ?_ ?_ _) | (with_reducible refine Below.setCell ?_ ?_ _) | (with_reducible refine Below.step (by assumption) ?_ ?_))); all_goals (first | omega | (simp; done) | (simp; omega))
  have hWA : Blk ((w.alloc (.cells #[vn, vl] 34)).alloc (.cells #[.int .i64 a, .int .i64 b, .int .i64 c, .int .i64 d] 36)) w.heap.size 34 #[vn, vl] := (Blk.newAt rfl).alloc _
  have hTA : Blk ((w.alloc (.cells #[vn, vl] 34)).alloc (.cells #[.int .i64 a, .int .i64 b, .int .i64 c, .int .i64 d] 36)) (w.heap.size + 1) 36 #[.int .i64 a, .int .i64 b, .int .i64 c, .int .i64 d] := Blk.newAt (by simp)
  have hfl := facesW_len ns ls
  have hF1 := facesW_pos h1
  have e0 : (((facesW ns ls).length : Int) == 0) = false := beq_eq_false_iff_ne.2 (by omega)
  go_enter Tryz.func7, Tryz.ntmps7
  go_wp2_with fail
  refine (sFaces_any vn vl ns ls _ (hn.below hba) (hl.below hba)).mono ?_
  rintro e w1 ⟨v1, rfl, ho1, hs1⟩
  obtain ⟨A1, c1, rfl⟩ := ho1.form
  have hb1 := hba.trans (hs1.mono hba.size)
  have hW1 := hWA.below hs1 hWA.lt
  have hT1 := hTA.below hs1 hTA.lt
  (have x_0 := hW1.cell 0); (have x_1 := hW1.cell 1); simp only [List.getElem?_toArray, List.getElem?_cons_succ, List.getElem?_cons_zero] at x_0 x_1
  (have y_0 := hT1.cell 0); (have y_1 := hT1.cell 1); (have y_2 := hT1.cell 2); (have y_3 := hT1.cell 3); simp only [List.getElem?_toArray, List.getElem?_cons_succ, List.getElem?_cons_zero] at y_0 y_1 y_2 y_3
  have lw1 := hW1.lt
  have lt1 := hT1.lt
  go_wp2_with fail
  refine (sTariff_at a b c d _ _ h2).mono ?_
  rintro e w2 ⟨rfl, hs2⟩
  have hb2 := hb1.trans (hs2.mono hb1.size)
  have hW2 := hW1.below hs2 hW1.lt
  have hT2 := hT1.below hs2 hT1.lt
  clear x_0 x_1 y_0 y_1 y_2 y_3
  (have x_0 := hW2.cell 0); (have x_1 := hW2.cell 1); simp only [List.getElem?_toArray, List.getElem?_cons_succ, List.getElem?_cons_zero] at x_0 x_1
  (have y_0 := hT2.cell 0); (have y_1 := hT2.cell 1); (have y_2 := hT2.cell 2); (have y_3 := hT2.cell 3); simp only [List.getElem?_toArray, List.getElem?_cons_succ, List.getElem?_cons_zero] at y_0 y_1 y_2 y_3
  have lw2 := hW2.lt
  have lt2 := hT2.lt
  go_wp2_with fail
  refine (sRise_at vp zs _ _ _ (hp.below hb2) (by omega) (by omega) h3).mono ?_
  rintro e w3 ⟨rfl, hs3⟩
  have hb3 := hb2.trans (hs3.mono hb2.size)
  have hW3 := hW2.below hs3 hW2.lt
  have hT3 := hT2.below hs3 hT2.lt
  clear x_0 x_1 y_0 y_1 y_2 y_3
  (have x_0 := hW3.cell 0); (have x_1 := hW3.cell 1); simp only [List.getElem?_toArray, List.getElem?_cons_succ, List.getElem?_cons_zero] at x_0 x_1
  (have y_0 := hT3.cell 0); (have y_1 := hT3.cell 1); (have y_2 := hT3.cell 2); (have y_3 := hT3.cell 3); simp only [List.getElem?_toArray, List.getElem?_cons_succ, List.getElem?_cons_zero] at y_0 y_1 y_2 y_3
  have lw3 := hW3.lt
  have lt3 := hT3.lt
  go_wp2_with fail
  refine (sOuter_any vn vl ns ls _ (hn.below hb3) (hl.below hb3)).mono ?_
  rintro e w4 ⟨rfl, hs4⟩
  have hb4 := hb3.trans (hs4.mono hb3.size)
  have hW4 := hW3.below hs4 hW3.lt
  have hT4 := hT3.below hs4 hT3.lt
  clear x_0 x_1 y_0 y_1 y_2 y_3
  (have x_0 := hW4.cell 0); (have x_1 := hW4.cell 1); simp only [List.getElem?_toArray, List.getElem?_cons_succ, List.getElem?_cons_zero] at x_0 x_1
  (have y_0 := hT4.cell 0); (have y_1 := hT4.cell 1); (have y_2 := hT4.cell 2); (have y_3 := hT4.cell 3); simp only [List.getElem?_toArray, List.getElem?_cons_succ, List.getElem?_cons_zero] at y_0 y_1 y_2 y_3
  have lw4 := hW4.lt
  have lt4 := hT4.lt
  go_wp2_with fail
  refine (sHas_at vp zs _ _ _ (hp.below hb4) h4).mono ?_
  rintro e w5 ⟨rfl, rfl⟩
  have hb5 := hb4
  have hW5 := hW4
  have hT5 := hT4
  go_wp2
  go_ret
  exact ⟨rfl, hb5⟩

set_option maxHeartbeats 8000000 in
set_option maxRecDepth 100000 in
theorem sBill_yes (vn vl vp : Value) (ns ls : List Pr) (a b c d : Int) (zs : List Int) (w : World) (hn : RP w vn ns) (hl : RP w vl ls) (hp : RI w vp zs) (h1 : wholeB ns ls = true) (h2 : tariffB a b c d = true) (h3 : riseB zs (((facesW ns ls).length : Int) - 1) = true) (h4 : decide (outerW ns ls ∈ zs) = false) :
    Calls Tryz.prog 7 #[.agg #[vn, vl], .agg #[.int .i64 a, .int .i64 b, .int .i64 c, .int .i64 d], vp] w fun e w' => e = .returned (.int .i64 (a * totalW ns ls + b * lenW ns ls + c * jointsI ns ls + d * sumA ns ls zs zs.length)) ∧ Below w.heap.size w w' := by
  have hba : Below w.heap.size w ((w.alloc (.cells #[vn, vl] 34)).alloc (.cells #[.int .i64 a, .int .i64 b, .int .i64 c, .int .i64 d] 36)) := by (repeat' (first | (with_reducible exact Below.refl _ _) | (with_reducible assumption) | (with_reducible refine Below.drew ?_) | (with_reducible refine below_drewN ?_ _) | (with_reducible refine Below.alloc ?_ ?_ _) | (with_reducible refine Below.setCell ?_ ?_ _) | (with_reducible refine Below.step (by assumption) ?_ ?_))); all_goals (first | omega | (simp; done) | (simp; omega))
  have hWA : Blk ((w.alloc (.cells #[vn, vl] 34)).alloc (.cells #[.int .i64 a, .int .i64 b, .int .i64 c, .int .i64 d] 36)) w.heap.size 34 #[vn, vl] := (Blk.newAt rfl).alloc _
  have hTA : Blk ((w.alloc (.cells #[vn, vl] 34)).alloc (.cells #[.int .i64 a, .int .i64 b, .int .i64 c, .int .i64 d] 36)) (w.heap.size + 1) 36 #[.int .i64 a, .int .i64 b, .int .i64 c, .int .i64 d] := Blk.newAt (by simp)
  have hfl := facesW_len ns ls
  have hF1 := facesW_pos h1
  have e0 : (((facesW ns ls).length : Int) == 0) = false := beq_eq_false_iff_ne.2 (by omega)
  obtain ⟨⟨a0, a1⟩, ⟨b0, b1⟩, ⟨c0, c1⟩, ⟨d0, d1⟩⟩ := tariffB_bd h2
  have hr3 := riseB_true.1 h3
  have hzl : zs.length ≤ 40 := by
    rcases Nat.eq_zero_or_pos zs.length with h | h
    · omega
    · have g1 := rise_len zs.length (Nat.le_refl _) hr3 h
      have g2 := (hr3 (zs.length - 1) (by omega)).1
      omega
  have HSB := Lib.hid (sumA_bd ns ls zs)
  have HAB := Lib.hid (fun f => areaW_bd ns ls f)
  have HS0 : Hid (sumA ns ls zs 0 = 0) := Lib.hid rfl
  have HSS : Hid (∀ k, sumA ns ls zs (k + 1) = sumA ns ls zs k + areaW ns ls (zs.getD k 0)) := Lib.hid (fun _ => rfl)
  have tb := areaW_bd ns ls (outerW ns ls)
  rw [show areaW ns ls (outerW ns ls) = totalW ns ls from rfl] at tb
  have lb := lenW_bd ns ls
  have jb := jointsI_bd ns ls
  obtain ⟨T, hT⟩ : ∃ T, totalW ns ls = T := ⟨_, rfl⟩
  obtain ⟨L, hL⟩ : ∃ L, lenW ns ls = L := ⟨_, rfl⟩
  obtain ⟨J, hJ⟩ : ∃ J, jointsI ns ls = J := ⟨_, rfl⟩
  rw [hT] at tb
  rw [hL] at lb
  rw [hJ] at jb
  obtain ⟨m1, m2⟩ := mulT (a := a) (x := T) (U := 16000) a0 a1 (by omega) (by omega)
  obtain ⟨m3, m4⟩ := mulT (a := b) (x := L) (U := 16000) b0 b1 (by omega) (by omega)
  obtain ⟨m5, m6⟩ := mulT (a := c) (x := J) (U := 16000) c0 c1 (by omega) (by omega)
  have HT := Lib.hid hT
  have HL := Lib.hid hL
  have HJ := Lib.hid hJ
  have HJJ : Hid (Hid (jointsI ns ls = J)) := Lib.hid HJ
  rw [HT.out, HL.out, HJ.out]
  clear hT hL hJ tb lb jb hr3
  have HP := Lib.hid hp
  go_enter Tryz.func7, Tryz.ntmps7
  go_wp2_with fail
  refine (sFaces_any vn vl ns ls _ (hn.below hba) (hl.below hba)).mono ?_
  rintro e w1 ⟨v1, rfl, ho1, hs1⟩
  obtain ⟨A1, c1, rfl⟩ := ho1.form
  have hb1 := hba.trans (hs1.mono hba.size)
  have hW1 := hWA.below hs1 hWA.lt
  have hT1 := hTA.below hs1 hTA.lt
  (have x_0 := hW1.cell 0); (have x_1 := hW1.cell 1); simp only [List.getElem?_toArray, List.getElem?_cons_succ, List.getElem?_cons_zero] at x_0 x_1
  (have y_0 := hT1.cell 0); (have y_1 := hT1.cell 1); (have y_2 := hT1.cell 2); (have y_3 := hT1.cell 3); simp only [List.getElem?_toArray, List.getElem?_cons_succ, List.getElem?_cons_zero] at y_0 y_1 y_2 y_3
  have lw1 := hW1.lt
  have lt1 := hT1.lt
  go_wp2_with fail
  refine (sTariff_at a b c d _ _ h2).mono ?_
  rintro e w2 ⟨rfl, hs2⟩
  have hb2 := hb1.trans (hs2.mono hb1.size)
  have hW2 := hW1.below hs2 hW1.lt
  have hT2 := hT1.below hs2 hT1.lt
  clear x_0 x_1 y_0 y_1 y_2 y_3
  (have x_0 := hW2.cell 0); (have x_1 := hW2.cell 1); simp only [List.getElem?_toArray, List.getElem?_cons_succ, List.getElem?_cons_zero] at x_0 x_1
  (have y_0 := hT2.cell 0); (have y_1 := hT2.cell 1); (have y_2 := hT2.cell 2); (have y_3 := hT2.cell 3); simp only [List.getElem?_toArray, List.getElem?_cons_succ, List.getElem?_cons_zero] at y_0 y_1 y_2 y_3
  have lw2 := hW2.lt
  have lt2 := hT2.lt
  go_wp2_with fail
  refine (sRise_at vp zs _ _ _ (hp.below hb2) (by omega) (by omega) h3).mono ?_
  rintro e w3 ⟨rfl, hs3⟩
  have hb3 := hb2.trans (hs3.mono hb2.size)
  have hW3 := hW2.below hs3 hW2.lt
  have hT3 := hT2.below hs3 hT2.lt
  clear x_0 x_1 y_0 y_1 y_2 y_3
  (have x_0 := hW3.cell 0); (have x_1 := hW3.cell 1); simp only [List.getElem?_toArray, List.getElem?_cons_succ, List.getElem?_cons_zero] at x_0 x_1
  (have y_0 := hT3.cell 0); (have y_1 := hT3.cell 1); (have y_2 := hT3.cell 2); (have y_3 := hT3.cell 3); simp only [List.getElem?_toArray, List.getElem?_cons_succ, List.getElem?_cons_zero] at y_0 y_1 y_2 y_3
  have lw3 := hW3.lt
  have lt3 := hT3.lt
  go_wp2_with fail
  refine (sOuter_any vn vl ns ls _ (hn.below hb3) (hl.below hb3)).mono ?_
  rintro e w4 ⟨rfl, hs4⟩
  have hb4 := hb3.trans (hs4.mono hb3.size)
  have hW4 := hW3.below hs4 hW3.lt
  have hT4 := hT3.below hs4 hT3.lt
  clear x_0 x_1 y_0 y_1 y_2 y_3
  (have x_0 := hW4.cell 0); (have x_1 := hW4.cell 1); simp only [List.getElem?_toArray, List.getElem?_cons_succ, List.getElem?_cons_zero] at x_0 x_1
  (have y_0 := hT4.cell 0); (have y_1 := hT4.cell 1); (have y_2 := hT4.cell 2); (have y_3 := hT4.cell 3); simp only [List.getElem?_toArray, List.getElem?_cons_succ, List.getElem?_cons_zero] at y_0 y_1 y_2 y_3
  have lw4 := hW4.lt
  have lt4 := hT4.lt
  go_wp2_with fail
  refine (sHas_at vp zs _ _ _ (hp.below hb4) h4).mono ?_
  rintro e w5 ⟨rfl, rfl⟩
  have hb5 := hb4
  have hW5 := hW4
  have hT5 := hT4
  clear h1 h2 h3 h4
  obtain ⟨Ap, cp, rfl, hcp, hmp, hcellp⟩ := hp.form
  unfold maxLen at hmp
  have HCP := Lib.hid hcellp
  clear hcellp
  go_wp2_with fail
  (refine wp_region_quietG (by kernel_rfl) (by kernel_rfl) (fun hG => ?_))
  repeat (go_big_quiet_step (first | (go_at_call 21; exact quietG (sTotal_at vn vl ns ls T _ (hn.below (hb5.trans (Below.mono (Grw.below _) hb5.size))) (hl.below (hb5.trans (Below.mono (Grw.below _) hb5.size))) HT.out)) | (go_at_call 22; exact quietG (sLen_at vn vl ns ls L _ (hn.below (hb5.trans (Below.mono (Grw.below _) hb5.size))) (hl.below (hb5.trans (Below.mono (Grw.below _) hb5.size))) HL.out)) | (go_at_call 36; exact quietG (sJoints_at vn vl ns ls J _ (hn.below (hb5.trans (Below.mono (Grw.below _) hb5.size))) (hl.below (hb5.trans (Below.mono (Grw.below _) hb5.size))) HJJ.out))))
  refine wpQuiet_nil ?_
  clear hG
  rintro w8 ⟨⟨_, hs8⟩, rfl⟩
  have hb8 := hb5.trans (hs8.mono hb5.size)
  have hW8 := hW5.below hs8 hW5.lt
  have hT8 := hT5.below hs8 hT5.lt
  obtain ⟨P, hP⟩ : ∃ P, a * T + b * L + c * J = P := ⟨_, rfl⟩
  have p1 : -48000000 ≤ P := by omega
  have p2 : P ≤ 48000000 := by omega
  have HP2 := Lib.hid hP
  go_wp2
  go_loopw [8, 9] (fun n x wr => ∃ k : Nat, k ≤ zs.length ∧ x = .int .i64 k ∧ n = .int .i64 (P + d * sumA ns ls zs k) ∧ Blk wr w.heap.size 34 #[vn, vl] ∧ Blk wr (w.heap.size + 1) 36 #[.int .i64 a, .int .i64 b, .int .i64 c, .int .i64 d] ∧ Below w.heap.size w wr) (fun _ x _ => zs.length - (intOf x).toNat)
  case atStart => exact ⟨0, Nat.zero_le _, rfl, by first | (rw [HS0.out, Int.mul_zero, Int.add_zero]; done) | (rw [HS0.out, Int.mul_zero, Int.add_zero, ← HP2.out]), hW8, hT8, hb8⟩
  case round =>
    clear x_0 x_1 y_0 y_1 y_2 y_3 hW8 hT8 hb8 hs8 hP
    obtain ⟨k, hk, rfl, rfl, hW, hTT, hbl⟩ := hrel
    have hsz := hW.lt
    have hst := hTT.lt
    (have x_0 := hW.cell 0); (have x_1 := hW.cell 1); simp only [List.getElem?_toArray, List.getElem?_cons_succ, List.getElem?_cons_zero] at x_0 x_1
    (have y_0 := hTT.cell 0); (have y_1 := hTT.cell 1); (have y_2 := hTT.cell 2); (have y_3 := hTT.cell 3); simp only [List.getElem?_toArray, List.getElem?_cons_succ, List.getElem?_cons_zero] at y_0 y_1 y_2 y_3
    by_cases hlt : k < zs.length
    · have hlt1 : (k : Int) < (zs.length : Int) := by omega
      have ik1 : (0 : Int) ≤ (k : Int) := by omega
      obtain ⟨b4, off4, rfl, hb4, hcl4⟩ := HCP.out (by omega)
      have hx := (hbl.cell (p := ⟨b4, off4 + k, none⟩) hb4).trans (hcl4 k hlt)
      have hb42 : b4 < wr.heap.size := Nat.lt_of_lt_of_le hb4 hbl.size
      have HS := Lib.hid (HSS.out k)
      have sb := HSB.out k
      have ab := HAB.out (zs.getD k 0)
      generalize zs.getD k 0 = z at *
      obtain ⟨q, hq⟩ : ∃ q, areaW ns ls z = q := ⟨_, rfl⟩
      rw [hq] at ab HS
      have HQ := Lib.hid hq
      clear hq hcl4
      generalize hSK : sumA ns ls zs k = SK at *
      have HSK := Lib.hid hSK
      clear hSK
      obtain ⟨m7, m8⟩ := mulT (a := d) (x := SK) (U := 640000) d0 d1 (by omega) (by omega)
      obtain ⟨m9, m10⟩ := mulT (a := d) (x := q) (U := 16000) d0 d1 (by omega) (by omega)
      go_wp2_with fail
      (refine wp_region_quietG (by kernel_rfl) (by kernel_rfl) (fun hG => ?_))
      repeat (go_big_quiet_step ((go_at_call 20; exact quietG (sArea_at vn vl ns ls z q _ (hn.below (hbl.trans (Below.mono (Grw.below _) hbl.size))) (hl.below (hbl.trans (Below.mono (Grw.below _) hbl.size))) HQ.out))))
      refine wpQuiet_nil ?_
      clear hG
      rintro w9 ⟨⟨_, hs9⟩, rfl⟩
      have hb9 := hbl.trans (hs9.mono hbl.size)
      have hW9 := hW.below hs9 hsz
      have hT9 := hTT.below hs9 hst
      clear hW hTT hbl hs9 x_0 x_1 y_0 y_1 y_2 y_3 hx
      go_wp2
      go_roundw
      case rel => exact ⟨k + 1, by omega, by go_num, by rw [HS.out, Int.mul_add]; congr 1; omega, hW9, hT9, hb9⟩
      case measure => simp [intOf]; omega
    · have hkk : k = zs.length := by omega
      subst hkk
      go_wp2
      go_ret
      exact ⟨ret_int (by rw [HP2.out]), hbl⟩

theorem sBill_any (vn vl vp : Value) (ns ls : List Pr) (a b c d : Int) (zs : List Int) (w : World) (hn : RP w vn ns) (hl : RP w vl ls) (hp : RI w vp zs) :
    Calls Tryz.prog 7 #[.agg #[vn, vl], .agg #[.int .i64 a, .int .i64 b, .int .i64 c, .int .i64 d], vp] w fun e w' => e = .returned (.int .i64 (billI ns ls a b c d zs)) ∧ Below w.heap.size w w' := by
  cases h1 : wholeB ns ls
  · rw [bill_no1 h1]; exact sBill_nowhole vn vl vp ns ls a b c d zs w hn hl hp h1
  cases h2 : tariffB a b c d
  · rw [bill_no2 h2]; exact sBill_notariff vn vl vp ns ls a b c d zs w hn hl hp h1 h2
  cases h3 : riseB zs (((facesW ns ls).length : Int) - 1)
  · rw [bill_no3 h3]; exact sBill_norise vn vl vp ns ls a b c d zs w hn hl hp h1 h2 h3
  cases h4 : decide (outerW ns ls ∈ zs)
  · rw [bill_yes h1 h2 h3 h4]; exact sBill_yes vn vl vp ns ls a b c d zs w hn hl hp h1 h2 h3 h4
  · rw [bill_no4 h4]; exact sBill_nohas vn vl vp ns ls a b c d zs w hn hl hp h1 h2 h3 h4

end Go.Proofs.YtognjdappchpkaaGreat

namespace Go.Proofs.YtognjdappchpkaaGreat
open Go.RowKit

/-- The first k filled in. -/
def fillI (zs : List Int) (k : Nat) : List Int := zs.take k ++ List.replicate (zs.length - k) 0
theorem fillI_len (zs : List Int) (k : Nat) (h : k ≤ zs.length) : (fillI zs k).length = zs.length := by simp [fillI]; omega
theorem fillI_zero (zs : List Int) : fillI zs 0 = List.replicate zs.length 0 := by simp [fillI]
theorem fillI_all (zs : List Int) : fillI zs zs.length = zs := by simp [fillI]
theorem fillI_succ (zs : List Int) (k : Nat) (h : k < zs.length) : (fillI zs k).set k (zs.getD k 0) = fillI zs (k + 1) := by
  unfold fillI
  have e : (zs.take k).length = k := by simp; omega
  rw [List.set_append, if_neg (by omega), e, Nat.sub_self, show zs.length - k = (zs.length - (k + 1)) + 1 by omega, List.replicate_succ, List.set_cons_zero, List.take_succ_eq_append_getElem h, List.append_assoc]
  simp [List.getD, h]

set_option maxHeartbeats 4000000 in
set_option maxRecDepth 100000 in
theorem toIntS_any (v : Value) (zs : List Int) (w : World) (h : RI w v zs) (hle : zs.length ≤ 1048576) :
    Calls Tryz.prog 10 #[v] w (RetI zs w) := by
  obtain ⟨A, c, rfl, hc, hm, hcell⟩ := h.form
  unfold maxLen at hm
  clear h
  obtain ⟨i0, hi, iz0, iz1, iz2⟩ := info_parts infoInt
  go_enter Tryz.func10, Tryz.ntmps10
  go_wp2_with (at_make; refine wpList_make_full _ rfl _ _ 28 rfl w.heap.size 3 i0 (.int .i64 0) 1 Tryz.underlying28 hi iz0 iz1 .i64 .i64 _ _ zs.length rfl rfl rfl rfl (by rw [iz2]; omega) (by unfold maxLen; omega) (by omega) ?_)
  intro w1 hown1 hgr1
  have hb1 : Below w.heap.size w w1 := (Below.refl _ _).grown hgr1 (Nat.le_refl _) (by intro k hk; cases hk)
  have hown : OwnI w.heap.size w1 (.slice (some ⟨w.heap.size, 0, none⟩) zs.length zs.length) (fillI zs 0) := by
    have e : ∀ n : Nat, (madeCells #[.int .i64 0] n).toList = (List.replicate n (0 : Int)).map vI := by
      intro n
      apply List.ext_getElem?
      intro j
      by_cases hj : j < n
      · simp only [madeCells, Array.toList_map, List.getElem?_map, Array.toList_range, List.getElem?_range hj, List.getElem?_replicate, if_pos hj, Option.map_some]
        congr 1
        show #[Value.int .i64 0][j % 1]! = _
        rw [Nat.mod_one]; rfl
      · simp [madeCells, hj]
    unfold OwnI
    rw [fillI_zero, List.length_replicate, ← e]
    exact hown1
  have hw1 : w.heap.size ≤ w1.heap.size := hb1.size
  clear hown1 hgr1 iz0 iz1 iz2 hi
  go_wp2
  go_loopw [4] (fun i wr => ∃ k : Nat, k ≤ zs.length ∧ i = .int .i64 k ∧ OwnI w.heap.size wr (.slice (some ⟨w.heap.size, 0, none⟩) zs.length zs.length) (fillI zs k) ∧ Below w.heap.size w wr) (fun i _ => zs.length - (intOf i).toNat)
  case atStart => exact ⟨0, Nat.zero_le _, rfl, hown, hb1⟩
  case round =>
    obtain ⟨k, hk, rfl, ho, hbl⟩ := hrel
    clear hown hb1 hw1
    have hfl := fillI_len zs k hk
    by_cases hlt : k < zs.length
    · obtain ⟨b, off, rfl, hb, hcl⟩ := hcell (by omega)
      have hx := (hbl.cell (p := ⟨b, off + k, none⟩) hb).trans (hcl k hlt)
      have hlt1 : (k : Int) < (zs.length : Int) := by omega
      have ik1 : (0 : Int) ≤ (k : Int) := by omega
      have xp := ho.cell (q := k) (by omega)
      obtain ⟨z, hz⟩ : ∃ z, wr.cell? ⟨w.heap.size, k, none⟩ = some z := ⟨_, xp⟩
      have fp := ho.frz k
      have HO : Hid (OwnI w.heap.size (wr.setCell ⟨w.heap.size, k, none⟩ (.int .i64 (zs.getD k 0))) (.slice (some ⟨w.heap.size, 0, none⟩) zs.length zs.length) (fillI zs (k + 1))) := Lib.hid (by
        rw [← fillI_succ zs k hlt]; exact ho.set_ k _)
      have HB := Lib.hid (hbl.setCell (p := ⟨w.heap.size, k, none⟩) (Nat.le_refl _) (.int .i64 (zs.getD k 0)))
      generalize zs.getD k 0 = y at *
      clear ho hbl hcl hcell xp
      go_wp2
      go_roundw
      case rel => exact ⟨k + 1, by omega, by go_num, HO.out, HB.out⟩
      case measure => simp [intOf]; omega
    · have hkk : k = zs.length := by omega
      subst hkk
      rw [fillI_all] at ho
      clear hcell
      go_wp2
      go_ret
      exact ⟨_, rfl, ho, hbl⟩

theorem below_drew0 {w w' : World} (h : Below w.drew.heap.size w.drew w') : Below w.heap.size w w' := ⟨h.os, h.tape, h.output, h.size, h.block⟩

theorem eqIntS_yes2 (v u : Value) (zs : List Int) (w : World) (hv : RI w v zs) (hu : RI w u zs) :
    Calls Tryz.prog 13 #[v, u] w fun e w' => e = .returned (.bool true) ∧ Below w.heap.size w w' :=
  (eqIntS_any v u zs zs w hv hu).mono fun e w' ⟨he, hw⟩ => ⟨he.trans (ret_bool (by simp)), hw⟩

set_option maxHeartbeats 8000000 in
set_option maxRecDepth 100000 in
theorem billLaw_any (vn vl vp : Value) (ns ls : List Pr) (a b c d : Int) (zs : List Int) (w : World) (hn : RP w vn ns) (hl : RP w vl ls) (hp : RI w vp zs) :
    Calls Tryz.prog 3 #[.agg #[vn, vl], .agg #[.int .i64 a, .int .i64 b, .int .i64 c, .int .i64 d], vp] w fun e w' => e = .returned (.bool true) ∧ Below w.heap.size w w' := by
  obtain ⟨x, hx⟩ : ∃ x, szW 1048576 ns.length ls.length = x := ⟨_, rfl⟩
  have HX := Lib.hid hx
  obtain ⟨Ap, cp, rfl, hcp, hmp, _⟩ := hp.form
  unfold maxLen at hmp
  have hba : Below w.heap.size w ((w.alloc (.cells #[vn, vl] 25)).alloc (.cells #[.int .i64 a, .int .i64 b, .int .i64 c, .int .i64 d] 27)) := by (repeat' (first | (with_reducible exact Below.refl _ _) | (with_reducible assumption) | (with_reducible refine Below.drew ?_) | (with_reducible refine below_drewN ?_ _) | (with_reducible refine Below.alloc ?_ ?_ _) | (with_reducible refine Below.setCell ?_ ?_ _) | (with_reducible refine Below.step (by assumption) ?_ ?_))); all_goals (first | omega | (simp; done) | (simp; omega))
  have hVA : Blk ((w.alloc (.cells #[vn, vl] 25)).alloc (.cells #[.int .i64 a, .int .i64 b, .int .i64 c, .int .i64 d] 27)) w.heap.size 25 #[vn, vl] := (Blk.newAt rfl).alloc _
  have hTA : Blk ((w.alloc (.cells #[vn, vl] 25)).alloc (.cells #[.int .i64 a, .int .i64 b, .int .i64 c, .int .i64 d] 27)) (w.heap.size + 1) 27 #[.int .i64 a, .int .i64 b, .int .i64 c, .int .i64 d] := Blk.newAt (by simp)
  by_cases hz : (1048576 : Int) < (zs.length : Int)
  · clear hx
    go_enter Tryz.func3, Tryz.ntmps3
    go_wp2
    go_ret
    exact ⟨rfl, hba⟩
  by_cases hx0 : x < 0
  · clear hx
    go_enter Tryz.func3, Tryz.ntmps3
    go_wp2_with fail
    refine (szWindow_at _ _ ns ls _ x _ (hn.below hba) (hl.below hba) (by omega) (by omega) HX).mono ?_
    rintro e w1 ⟨rfl, hb1⟩; (first | (with_reducible have hcf1 := bcell_drew hb1) | have hcf1 := bcell hb1); obtain ⟨hc1, hf1⟩ := hcf1; have hz1 := hb1.size; (try simp at hz1); (try have hp1_0 : w.heap.size < w1.heap.size := by omega); (try have hp1_1 : w.heap.size + 1 < w1.heap.size := by omega); (try have hp1_2 : w.heap.size + 1 + 1 < w1.heap.size := by omega); (try have hp1_3 : w.heap.size + 1 + 1 + 1 < w1.heap.size := by omega)
    go_wp2
    go_ret
    exact ⟨rfl, by (repeat' (first | (with_reducible exact Below.refl _ _) | (with_reducible assumption) | (with_reducible refine Below.drew ?_) | (with_reducible refine below_drewN ?_ _) | (with_reducible refine Below.alloc ?_ ?_ _) | (with_reducible refine Below.setCell ?_ ?_ _) | (with_reducible refine Below.step (by assumption) ?_ ?_))); all_goals (first | omega | (simp; done) | (simp; omega))⟩
  · obtain ⟨s1, s2, s3, s4⟩ := szW_le (by rw [hx]; exact hx0)
    clear s3 s4 hx
    have hzs : zs.length ≤ 1048576 := by omega
    obtain ⟨J, hJ⟩ : ∃ J, billI ns ls a b c d zs = J := ⟨_, rfl⟩
    have HSB := Lib.hid (fun (u : World) (un ul up : Value) (h1 : RP u un ns) (h2 : RP u ul ls) (h3 : RI u up zs) => sBill_any un ul up ns ls a b c d zs u h1 h2 h3)
    have HIB := Lib.hid (fun (u : World) (un ul up : Value) (h1 : RP u un ns) (h2 : RP u ul ls) (h3 : RI u up zs) => iBill_any un ul up ns ls a b c d zs u h1 h2 h3)
    rw [hJ] at HSB HIB
    clear hJ
    go_enter Tryz.func3, Tryz.ntmps3
    go_wp2_with fail
    refine (szWindow_at _ _ ns ls _ x _ (hn.below hba) (hl.below hba) (by omega) (by omega) HX).mono ?_
    rintro e w1 ⟨rfl, hb1⟩
    have hbw1 : Below w.heap.size w w1 := hba.trans (hb1.mono hba.size)
    have hV1 := hVA.below hb1 hVA.lt
    have hT1 := hTA.below hb1 hTA.lt
    clear hb1 HX hba hVA hTA
    (have a_0 := hV1.cell 0); (have a_1 := hV1.cell 1); simp only [List.getElem?_toArray, List.getElem?_cons_succ, List.getElem?_cons_zero] at a_0 a_1
    (have t_0 := hT1.cell 0); (have t_1 := hT1.cell 1); (have t_2 := hT1.cell 2); (have t_3 := hT1.cell 3); simp only [List.getElem?_toArray, List.getElem?_cons_succ, List.getElem?_cons_zero] at t_0 t_1 t_2 t_3
    have z1 := hV1.lt
    have z2 := hT1.lt
    go_wp2_with fail
    go_region_held3 (fun w' => w'.cell? ⟨w.heap.size, 0, none⟩ = some vn ∧ w'.cell? ⟨w.heap.size, 1, none⟩ = some vl ∧ w'.cell? ⟨w.heap.size + 1, 0, none⟩ = some (.int .i64 a) ∧ w'.cell? ⟨w.heap.size + 1, 1, none⟩ = some (.int .i64 b) ∧ w'.cell? ⟨w.heap.size + 1, 2, none⟩ = some (.int .i64 c) ∧ w'.cell? ⟨w.heap.size + 1, 3, none⟩ = some (.int .i64 d))
      (go_keep)
      (first | (go_at_call 8; refine Calls.mono (toWindow_any vn vl ns ls _ (hn.below ?c1) (hl.below ?c1) s1 s2) ?_; (case c1 => (repeat' (first | (with_reducible exact Below.refl _ _) | (with_reducible assumption) | (with_reducible refine Below.drew ?_) | (with_reducible refine below_drewN ?_ _) | (with_reducible refine Below.alloc ?_ ?_ _) | (with_reducible refine Below.setCell ?_ ?_ _) | (with_reducible refine Below.step (by assumption) ?_ ?_))); all_goals (first | omega | (simp; done) | (simp; omega))); rintro e w2 ⟨An2, cn2, Al2, cl2, rfl, ho2, hb2⟩; (first | (with_reducible have hcf2 := bcell_drew hb2) | have hcf2 := bcell hb2); obtain ⟨hc2, hf2⟩ := hcf2; have hz2 := hb2.size; (try simp at hz2); (try have hp2_0 : w.heap.size < w2.heap.size := by omega); (try have hp2_1 : w.heap.size + 1 < w2.heap.size := by omega); (try have hp2_2 : w.heap.size + 1 + 1 < w2.heap.size := by omega); (try have hp2_3 : w.heap.size + 1 + 1 + 1 < w2.heap.size := by omega); (have hbw2 : Below w.heap.size w w2 := by (repeat' (first | (with_reducible exact Below.refl _ _) | (with_reducible assumption) | (with_reducible refine Below.drew ?_) | (with_reducible refine below_drewN ?_ _) | (with_reducible refine Below.alloc ?_ ?_ _) | (with_reducible refine Below.setCell ?_ ?_ _) | (with_reducible refine Below.step (by assumption) ?_ ?_))); all_goals (first | omega | (simp; done) | (simp; omega))); (have z12 : w.heap.size < w2.heap.size := by omega); (have z22 : w.heap.size + 1 < w2.heap.size := by omega)) | (go_at_call 9; refine (toTariff_any _ _ _ _ _).mono ?_; rintro e w3 ⟨rfl, hb3⟩; (first | (with_reducible have hcf3 := bcell_drew hb3) | have hcf3 := bcell hb3); obtain ⟨hc3, hf3⟩ := hcf3; have hz3 := hb3.size; (try simp at hz3); (try have hp3_0 : w.heap.size < w3.heap.size := by omega); (try have hp3_1 : w.heap.size + 1 < w3.heap.size := by omega); (try have hp3_2 : w.heap.size + 1 + 1 < w3.heap.size := by omega); (try have hp3_3 : w.heap.size + 1 + 1 + 1 < w3.heap.size := by omega); (have hbw3 : Below w.heap.size w w3 := by (repeat' (first | (with_reducible exact Below.refl _ _) | (with_reducible assumption) | (with_reducible refine Below.drew ?_) | (with_reducible refine below_drewN ?_ _) | (with_reducible refine Below.alloc ?_ ?_ _) | (with_reducible refine Below.setCell ?_ ?_ _) | (with_reducible refine Below.step (by assumption) ?_ ?_))); all_goals (first | omega | (simp; done) | (simp; omega))); (have z13 : w.heap.size < w3.heap.size := by omega); (have z23 : w.heap.size + 1 < w3.heap.size := by omega)) | (go_at_call 10; refine Calls.mono (toIntS_any _ zs _ (hp.below ?c2) hzs) ?_; (case c2 => (repeat' (first | (with_reducible exact Below.refl _ _) | (with_reducible assumption) | (with_reducible refine Below.drew ?_) | (with_reducible refine below_drewN ?_ _) | (with_reducible refine Below.alloc ?_ ?_ _) | (with_reducible refine Below.setCell ?_ ?_ _) | (with_reducible refine Below.step (by assumption) ?_ ?_))); all_goals (first | omega | (simp; done) | (simp; omega))); rintro e w4 ⟨v4, rfl, ho4, hb4⟩; (first | (with_reducible have hcf4 := bcell_drew hb4) | have hcf4 := bcell hb4); obtain ⟨hc4, hf4⟩ := hcf4; have hz4 := hb4.size; (try simp at hz4); (try have hp4_0 : w.heap.size < w4.heap.size := by omega); (try have hp4_1 : w.heap.size + 1 < w4.heap.size := by omega); (try have hp4_2 : w.heap.size + 1 + 1 < w4.heap.size := by omega); (try have hp4_3 : w.heap.size + 1 + 1 + 1 < w4.heap.size := by omega); (have hbw4 : Below w.heap.size w w4 := by (repeat' (first | (with_reducible exact Below.refl _ _) | (with_reducible assumption) | (with_reducible refine Below.drew ?_) | (with_reducible refine below_drewN ?_ _) | (with_reducible refine Below.alloc ?_ ?_ _) | (with_reducible refine Below.setCell ?_ ?_ _) | (with_reducible refine Below.step (by assumption) ?_ ?_))); all_goals (first | omega | (simp; done) | (simp; omega))); (have z14 : w.heap.size < w4.heap.size := by omega); (have z24 : w.heap.size + 1 < w4.heap.size := by omega)) | (go_at_call 7; have hb24 : Below w2.heap.size w2 w4 := hb3.trans (hb4.mono hb3.size); refine Calls.mono (HSB.out _ _ _ _ (ho2.1.reads.below hb24) (ho2.2.1.reads.below hb24) ho4.reads) ?_; rintro e w5 ⟨rfl, hb5⟩; (first | (with_reducible have hcf5 := bcell_drew hb5) | have hcf5 := bcell hb5); obtain ⟨hc5, hf5⟩ := hcf5; have hz5 := hb5.size; (try simp at hz5); (try have hp5_0 : w.heap.size < w5.heap.size := by omega); (try have hp5_1 : w.heap.size + 1 < w5.heap.size := by omega); (try have hp5_2 : w.heap.size + 1 + 1 < w5.heap.size := by omega); (try have hp5_3 : w.heap.size + 1 + 1 + 1 < w5.heap.size := by omega); (have hbw5 : Below w.heap.size w w5 := hbw4.trans (hb5.mono hbw4.size)); (have hb15 : Below w1.heap.size w1 w5 := ((below_drew0 hb2).trans (hb24.mono (below_drew0 hb2).size)).trans (hb5.mono (Nat.le_trans (below_drew0 hb2).size hb24.size)))))
    have hV5 : Blk w5 w.heap.size 25 #[vn, vl] := by
      exact Blk.below (B := w1.heap.size) (w := w1) hV1 hb15 z1
    have hT5 : Blk w5 (w.heap.size + 1) 27 #[.int .i64 a, .int .i64 b, .int .i64 c, .int .i64 d] := by
      exact Blk.below (B := w1.heap.size) (w := w1) hT1 hb15 z2
    clear hV1 hT1 a_0 a_1 t_0 t_1 t_2 t_3 hb2 hb3 hb4 hb5 hc2 hc3 hc4 hc5 hf2 hf3 hf4 hf5 ho2 ho4 hbw1 hbw2 hbw3 hbw4
    (have a_0 := hV5.cell 0); (have a_1 := hV5.cell 1); simp only [List.getElem?_toArray, List.getElem?_cons_succ, List.getElem?_cons_zero] at a_0 a_1
    go_wp2_with fail
    refine (toWindow_any vn vl ns ls _ (hn.below hbw5) (hl.below hbw5) s1 s2).mono ?_
    rintro e w6 ⟨An6, cn6, Al6, cl6, rfl, ho6, hb6⟩
    have hV6 := hV5.below hb6 hV5.lt
    have hT6 := hT5.below hb6 hT5.lt
    have hbw6 : Below w.heap.size w w6 := hbw5.trans (hb6.mono hbw5.size)
    clear hb6 hV5 hT5 hbw5 a_0 a_1
    have hbX : Below w6.heap.size w6 (w6.alloc (.cells #[.slice An6 ns.length cn6, .slice Al6 ls.length cl6] 34)) := by (repeat' (first | (with_reducible exact Below.refl _ _) | (with_reducible assumption) | (with_reducible refine Below.drew ?_) | (with_reducible refine below_drewN ?_ _) | (with_reducible refine Below.alloc ?_ ?_ _) | (with_reducible refine Below.setCell ?_ ?_ _) | (with_reducible refine Below.step (by assumption) ?_ ?_))); all_goals (first | omega | (simp; done) | (simp; omega))
    have hbwX := hbw6.trans (hbX.mono hbw6.size)
    go_wp2_with fail
    refine (toIntS_any _ zs _ (hp.below hbwX) hzs).mono ?_
    rintro e w7 ⟨v7, rfl, ho7, hb7⟩
    have hX7 : Blk w7 w6.heap.size 34 #[.slice An6 ns.length cn6, .slice Al6 ls.length cl6] := Blk.below (Blk.newAt rfl) hb7 (by first | omega | (simp; done) | (simp; omega))
    have hV7 := (hV6.alloc (.cells #[.slice An6 ns.length cn6, .slice Al6 ls.length cl6] 34)).below hb7 (Nat.lt_succ_of_lt hV6.lt |> fun h => by simpa using h)
    have hT7 := (hT6.alloc (.cells #[.slice An6 ns.length cn6, .slice Al6 ls.length cl6] 34)).below hb7 (Nat.lt_succ_of_lt hT6.lt |> fun h => by simpa using h)
    have hb67 : Below w6.heap.size w6 w7 := hbX.trans (hb7.mono hbX.size)
    have r7n := ho6.1.reads.below hb67
    have r7l := ho6.2.1.reads.below hb67
    have r7p := ho7.reads
    have hbw7 : Below w.heap.size w w7 := hbw6.trans (hb67.mono hbw6.size)
    have n1 := hV7.lt
    have n2 := hX7.lt
    have n3 := hT7.lt
    clear hb7 hb67 hbX hbwX hV6 hT6 hbw6 ho6 ho7
    generalize w6.heap.size = B6 at *
    (have a_0 := hV7.cell 0); (have a_1 := hV7.cell 1); simp only [List.getElem?_toArray, List.getElem?_cons_succ, List.getElem?_cons_zero] at a_0 a_1
    (have x_0 := hX7.cell 0); (have x_1 := hX7.cell 1); simp only [List.getElem?_toArray, List.getElem?_cons_succ, List.getElem?_cons_zero] at x_0 x_1
    (have t_0 := hT7.cell 0); (have t_1 := hT7.cell 1); (have t_2 := hT7.cell 2); (have t_3 := hT7.cell 3); simp only [List.getElem?_toArray, List.getElem?_cons_succ, List.getElem?_cons_zero] at t_0 t_1 t_2 t_3
    go_wp2_with fail
    go_region_held3 (fun w' => w'.cell? ⟨B6, 0, none⟩ = some (.slice An6 ns.length cn6) ∧ w'.cell? ⟨B6, 1, none⟩ = some (.slice Al6 ls.length cl6) ∧ w'.cell? ⟨w.heap.size + 1, 0, none⟩ = some (.int .i64 a) ∧ w'.cell? ⟨w.heap.size + 1, 1, none⟩ = some (.int .i64 b) ∧ w'.cell? ⟨w.heap.size + 1, 2, none⟩ = some (.int .i64 c) ∧ w'.cell? ⟨w.heap.size + 1, 3, none⟩ = some (.int .i64 d))
      (go_keep)
      (first | (go_at_call 9; refine (toTariff_any _ _ _ _ _).mono ?_; rintro e w8 ⟨rfl, hb8⟩; (first | (with_reducible have hcf8 := bcell_drew hb8) | have hcf8 := bcell hb8); obtain ⟨hc8, hf8⟩ := hcf8; have hz8 := hb8.size; (try simp at hz8); (try have hp8_0 : w.heap.size < w8.heap.size := by omega); (try have hp8_1 : w.heap.size + 1 < w8.heap.size := by omega); (try have hp8_2 : w.heap.size + 1 + 1 < w8.heap.size := by omega); (try have hp8_3 : w.heap.size + 1 + 1 + 1 < w8.heap.size := by omega); (have m18 : B6 < w8.heap.size := by omega); (have m28 : w.heap.size + 1 < w8.heap.size := by omega)) | (go_at_call 11; refine Calls.mono (HIB.out _ _ _ _ (r7n.below ?c3) (r7l.below ?c3) (r7p.below ?c3)) ?_; (case c3 => (repeat' (first | (with_reducible exact Below.refl _ _) | (with_reducible assumption) | (with_reducible refine Below.drew ?_) | (with_reducible refine below_drewN ?_ _) | (with_reducible refine Below.alloc ?_ ?_ _) | (with_reducible refine Below.setCell ?_ ?_ _) | (with_reducible refine Below.step (by assumption) ?_ ?_))); all_goals (first | omega | (simp; done) | (simp; omega))); rintro e w9 ⟨rfl, hb9⟩; (first | (with_reducible have hcf9 := bcell_drew hb9) | have hcf9 := bcell hb9); obtain ⟨hc9, hf9⟩ := hcf9; have hz9 := hb9.size; (try simp at hz9); (try have hp9_0 : w.heap.size < w9.heap.size := by omega); (try have hp9_1 : w.heap.size + 1 < w9.heap.size := by omega); (try have hp9_2 : w.heap.size + 1 + 1 < w9.heap.size := by omega); (try have hp9_3 : w.heap.size + 1 + 1 + 1 < w9.heap.size := by omega); (have m19 : B6 < w9.heap.size := by omega); (have m29 : w.heap.size + 1 < w9.heap.size := by omega)))
    have hb79 : Below w7.heap.size w7 w9 := by (repeat' (first | (with_reducible exact Below.refl _ _) | (with_reducible assumption) | (with_reducible refine Below.drew ?_) | (with_reducible refine below_drewN ?_ _) | (with_reducible refine Below.alloc ?_ ?_ _) | (with_reducible refine Below.setCell ?_ ?_ _) | (with_reducible refine Below.step (by assumption) ?_ ?_))); all_goals (first | omega | (simp; done) | (simp; omega))
    have hV9 := hV7.below hb79 n1
    have hX9 := hX7.below hb79 n2
    have r9n := r7n.below hb79
    have r9l := r7l.below hb79
    have r9p := r7p.below hb79
    have hbw9 := hbw7.trans (hb79.mono hbw7.size)
    have p1 := hV9.lt
    have p2 := hX9.lt
    clear hb79 hV7 hX7 hT7 r7n r7l r7p hbw7 a_0 a_1 x_0 x_1 t_0 t_1 t_2 t_3 hb8 hb9 hc8 hc9 hf8 hf9
    (have a_0 := hV9.cell 0); (have a_1 := hV9.cell 1); simp only [List.getElem?_toArray, List.getElem?_cons_succ, List.getElem?_cons_zero] at a_0 a_1
    (have x_0 := hX9.cell 0); (have x_1 := hX9.cell 1); simp only [List.getElem?_toArray, List.getElem?_cons_succ, List.getElem?_cons_zero] at x_0 x_1
    go_wp2_with fail
    go_region_held3 (fun w' => w'.cell? ⟨w.heap.size, 0, none⟩ = some vn ∧ w'.cell? ⟨w.heap.size, 1, none⟩ = some vl ∧ w'.cell? ⟨B6, 0, none⟩ = some (.slice An6 ns.length cn6) ∧ w'.cell? ⟨B6, 1, none⟩ = some (.slice Al6 ls.length cl6))
      (go_keep)
      (first | (go_at_call 8; refine Calls.mono (toWindow_any vn vl ns ls _ (hn.below ?c1) (hl.below ?c1) s1 s2) ?_; (case c1 => (repeat' (first | (with_reducible exact Below.refl _ _) | (with_reducible assumption) | (with_reducible refine Below.drew ?_) | (with_reducible refine below_drewN ?_ _) | (with_reducible refine Below.alloc ?_ ?_ _) | (with_reducible refine Below.setCell ?_ ?_ _) | (with_reducible refine Below.step (by assumption) ?_ ?_))); all_goals (first | omega | (simp; done) | (simp; omega))); rintro e w10 ⟨An10, cn10, Al10, cl10, rfl, ho10, hb10⟩; (first | (with_reducible have hcf10 := bcell_drew hb10) | have hcf10 := bcell hb10); obtain ⟨hc10, hf10⟩ := hcf10; have hz10 := hb10.size; (try simp at hz10); (try have hp10_0 : w.heap.size < w10.heap.size := by omega); (try have hp10_1 : w.heap.size + 1 < w10.heap.size := by omega); (try have hp10_2 : w.heap.size + 1 + 1 < w10.heap.size := by omega); (try have hp10_3 : w.heap.size + 1 + 1 + 1 < w10.heap.size := by omega); (have o10 : w.heap.size < w10.heap.size := by omega); (have mm10 : B6 < w10.heap.size := by omega)) | (go_at_call 12; refine (eqWindow_any _ _ _ _ ns ls _ (r9n.below ?c2) (r9l.below ?c2) (ho10.1.reads) (ho10.2.1.reads)).mono ?_; (case c2 => (repeat' (first | (with_reducible exact Below.refl _ _) | (with_reducible assumption) | (with_reducible refine Below.drew ?_) | (with_reducible refine below_drewN ?_ _) | (with_reducible refine Below.alloc ?_ ?_ _) | (with_reducible refine Below.setCell ?_ ?_ _) | (with_reducible refine Below.step (by assumption) ?_ ?_))); all_goals (first | omega | (simp; done) | (simp; omega))); rintro e w11 ⟨rfl, hb11⟩; (first | (with_reducible have hcf11 := bcell_drew hb11) | have hcf11 := bcell hb11); obtain ⟨hc11, hf11⟩ := hcf11; have hz11 := hb11.size; (try simp at hz11); (try have hp11_0 : w.heap.size < w11.heap.size := by omega); (try have hp11_1 : w.heap.size + 1 < w11.heap.size := by omega); (try have hp11_2 : w.heap.size + 1 + 1 < w11.heap.size := by omega); (try have hp11_3 : w.heap.size + 1 + 1 + 1 < w11.heap.size := by omega)))
    have hb911 : Below w9.heap.size w9 w11 := by (repeat' (first | (with_reducible exact Below.refl _ _) | (with_reducible assumption) | (with_reducible refine Below.drew ?_) | (with_reducible refine below_drewN ?_ _) | (with_reducible refine Below.alloc ?_ ?_ _) | (with_reducible refine Below.setCell ?_ ?_ _) | (with_reducible refine Below.step (by assumption) ?_ ?_))); all_goals (first | omega | (simp; done) | (simp; omega))
    have hbw11 := hbw9.trans (hb911.mono hbw9.size)
    have r11p := r9p.below hb911
    clear hb10 hb11 hc10 hc11 hf10 hf11 ho10 hV9 hX9 a_0 a_1 x_0 x_1 r9n r9l r9p hb911
    go_wp2_with fail
    refine (toIntS_any _ zs _ (hp.below hbw11) hzs).mono ?_
    rintro e w12 ⟨v12, rfl, ho12, hb12⟩
    have hbw12 := hbw11.trans (hb12.mono hbw11.size)
    go_wp2_with fail
    refine (eqIntS_yes2 _ _ zs _ (r11p.below hb12) ho12.reads).mono ?_
    rintro e w13 ⟨rfl, hb13⟩
    go_wp2
    go_ret
    exact ⟨rfl, hbw12.trans (hb13.mono hbw12.size)⟩

end Go.Proofs.YtognjdappchpkaaGreat

namespace Go.Proofs.YtognjdappchpkaaGreat
open Go.RowKit

/-- How two bills compare. -/
def cheapI (x y : Int) : Int := if x < 0 ∨ y < 0 then 0 else if x < y then -1 else if y < x then 1 else 0

set_option maxHeartbeats 400000 in
theorem isNaN_any (x : Int) (w : World) :
    Calls Tryz.prog 76 #[.int .i64 x] w fun e w' => e = .returned (.bool false) ∧ w = w' := by
  go_enter Tryz.func76, Tryz.ntmps76
  go_wp2
  go_ret
  exact ⟨ret_bool (by simp), rfl⟩

set_option maxHeartbeats 1000000 in
theorem compare_any (x y : Int) (w : World) :
    Calls Tryz.prog 49 #[.int .i64 x, .int .i64 y] w fun e w' => e = .returned (.int .i64 (if x < y then -1 else if y < x then 1 else 0)) ∧ w = w' := by
  go_enter Tryz.func49, Tryz.ntmps49
  go_wp2_with (go_at_call 76; refine (isNaN_any _ _).mono ?_; rintro e w' ⟨rfl, rfl⟩)
  all_goals go_ret
  all_goals refine ⟨ret_int ?_, rfl⟩
  all_goals first | rfl | (rw [if_pos (by omega)]; done) | (rw [if_neg (by omega), if_pos (by omega)]; done) | (rw [if_neg (by omega), if_neg (by omega)]; done)

theorem totalW_pos {ns ls : List Pr} (h : wholeB ns ls = true) : 0 ≤ totalW ns ls := by
  have hwin := (whole_win h).1
  have hpos := (whole_win h).2
  have hld : ∀ j : Nat, j < ls.length → leadB ns (ndI ls j) = true := fun j hj => (hwin.2.2.2.2.2 j hj).1
  have hF : facesW ns ls = facesD ns ls := by simp [facesW, h]
  obtain ⟨k, hk, ha⟩ := outer_is hld hpos
  obtain ⟨q, h1, h2, h3, h4⟩ := outerK_spec ns ls (facesD ns ls) (facesD ns ls).length 0 ⟨k, by omega, by omega, ha⟩
  have ho : outerW ns ls = q := by unfold outerW outerF; rw [hF]; exact h1
  unfold totalW areaW
  rw [ho, if_pos (inB_true.2 (by rw [hF]; omega))]
  omega
theorem lenW_pos {ns ls : List Pr} (h : wholeB ns ls = true) : 0 ≤ lenW ns ls := by
  have hwin := winB_true.2 (whole_win h).1
  unfold lenW
  rw [hwin]
  simp only [if_true]
  omega
theorem jointsI_pos {ns ls : List Pr} (h : wholeB ns ls = true) : 0 ≤ jointsI ns ls := by
  have hwin := winB_true.2 (whole_win h).1
  unfold jointsI
  rw [hwin]
  simp only [if_true]
  omega

theorem billI_bd (ns ls : List Pr) (a b c d : Int) : -1 ≤ billI ns ls a b c d [] ∧ billI ns ls a b c d [] ≤ 100000000 := by
  unfold billI
  cases h : billB ns ls a b c d []
  · simp
  · have h2 : tariffB a b c d = true := by
      unfold billB at h
      rw [Bool.and_eq_true, Bool.and_eq_true] at h
      exact h.2.1
    have hw : wholeB ns ls = true := by
      unfold billB at h
      rw [Bool.and_eq_true] at h
      exact h.1
    obtain ⟨⟨a0, a1⟩, ⟨b0, b1⟩, ⟨c0, c1⟩, ⟨d0, d1⟩⟩ := tariffB_bd h2
    have tb := totalW_pos hw
    have lb := lenW_pos hw
    have jb := jointsI_pos hw
    have tb2 := areaW_bd ns ls (outerW ns ls)
    rw [show areaW ns ls (outerW ns ls) = totalW ns ls from rfl] at tb2
    have lb2 := lenW_bd ns ls
    have jb2 := jointsI_bd ns ls
    obtain ⟨m1, m2⟩ := mulT (a := a) (x := totalW ns ls) (U := 16000) a0 a1 (by omega) (by omega)
    obtain ⟨m3, m4⟩ := mulT (a := b) (x := lenW ns ls) (U := 16000) b0 b1 (by omega) (by omega)
    obtain ⟨m5, m6⟩ := mulT (a := c) (x := jointsI ns ls) (U := 16000) c0 c1 (by omega) (by omega)
    have p1 := Int.mul_nonneg a0 tb
    have p2 := Int.mul_nonneg b0 lb
    have p3 := Int.mul_nonneg c0 jb
    simp only [if_true]
    rw [show sumA ns ls [] ([] : List Int).length = 0 from rfl, Int.mul_zero]
    omega

set_option maxHeartbeats 4000000 in
set_option maxRecDepth 100000 in
theorem iCheap_any (vn vl : Value) (ns ls : List Pr) (a b c d a' b' c' d' : Int) (w : World) (hn : RP w vn ns) (hl : RP w vl ls) :
    Calls Tryz.prog 15 #[.agg #[vn, vl], .agg #[.int .i64 a, .int .i64 b, .int .i64 c, .int .i64 d], .agg #[.int .i64 a', .int .i64 b', .int .i64 c', .int .i64 d']] w fun e w' => e = .returned (.int .i64 (cheapI (billI ns ls a b c d []) (billI ns ls a' b' c' d' []))) ∧ Below w.heap.size w w' := by
  have hba : Below w.heap.size w (((w.alloc (.cells #[vn, vl] 34)).alloc (.cells #[.int .i64 a, .int .i64 b, .int .i64 c, .int .i64 d] 36)).alloc (.cells #[.int .i64 a', .int .i64 b', .int .i64 c', .int .i64 d'] 36)) := by (repeat' (first | (with_reducible exact Below.refl _ _) | (with_reducible assumption) | (with_reducible refine Below.drew ?_) | (with_reducible refine below_drewN ?_ _) | (with_reducible refine Below.alloc ?_ ?_ _) | (with_reducible refine Below.setCell ?_ ?_ _) | (with_reducible refine Below.step (by assumption) ?_ ?_))); all_goals (first | omega | (simp; done) | (simp; omega))
  have hWA : Blk (((w.alloc (.cells #[vn, vl] 34)).alloc (.cells #[.int .i64 a, .int .i64 b, .int .i64 c, .int .i64 d] 36)).alloc (.cells #[.int .i64 a', .int .i64 b', .int .i64 c', .int .i64 d'] 36)) w.heap.size 34 #[vn, vl] := ((Blk.newAt rfl).alloc _).alloc _
  have hTA : Blk (((w.alloc (.cells #[vn, vl] 34)).alloc (.cells #[.int .i64 a, .int .i64 b, .int .i64 c, .int .i64 d] 36)).alloc (.cells #[.int .i64 a', .int .i64 b', .int .i64 c', .int .i64 d'] 36)) (w.heap.size + 1) 36 #[.int .i64 a, .int .i64 b, .int .i64 c, .int .i64 d] := (Blk.newAt (by simp)).alloc _
  have hUA : Blk (((w.alloc (.cells #[vn, vl] 34)).alloc (.cells #[.int .i64 a, .int .i64 b, .int .i64 c, .int .i64 d] 36)).alloc (.cells #[.int .i64 a', .int .i64 b', .int .i64 c', .int .i64 d'] 36)) (w.heap.size + 1 + 1) 36 #[.int .i64 a', .int .i64 b', .int .i64 c', .int .i64 d'] := Blk.newAt (by simp)
  have xb := billI_bd ns ls a b c d
  have yb := billI_bd ns ls a' b' c' d'
  have HX := Lib.hid (fun (v : World) (vp : Value) (hb : Below w.heap.size w v) (h3 : RI v vp []) => iBill_any vn vl vp ns ls a b c d [] v (hn.below hb) (hl.below hb) h3)
  have HY := Lib.hid (fun (v : World) (vp : Value) (hb : Below w.heap.size w v) (h3 : RI v vp []) => iBill_any vn vl vp ns ls a' b' c' d' [] v (hn.below hb) (hl.below hb) h3)
  generalize billI ns ls a b c d [] = x at *
  generalize billI ns ls a' b' c' d' [] = y at *
  have z1 : w.heap.size < w.heap.size + 1 + 1 + 1 := by omega
  have z2 : w.heap.size + 1 < w.heap.size + 1 + 1 + 1 := by omega
  have z3 : w.heap.size + 1 + 1 < w.heap.size + 1 + 1 + 1 := by omega
  have e3 : (((w.alloc (.cells #[vn, vl] 34)).alloc (.cells #[.int .i64 a, .int .i64 b, .int .i64 c, .int .i64 d] 36)).alloc (.cells #[.int .i64 a', .int .i64 b', .int .i64 c', .int .i64 d'] 36)).heap.size = w.heap.size + 1 + 1 + 1 := by simp
  have z1' := hWA.lt
  have z2' := hTA.lt
  have z3' := hUA.lt
  (have p_0 := hWA.cell 0); (have p_1 := hWA.cell 1); simp only [List.getElem?_toArray, List.getElem?_cons_succ, List.getElem?_cons_zero] at p_0 p_1
  (have q_0 := hTA.cell 0); (have q_1 := hTA.cell 1); (have q_2 := hTA.cell 2); (have q_3 := hTA.cell 3); simp only [List.getElem?_toArray, List.getElem?_cons_succ, List.getElem?_cons_zero] at q_0 q_1 q_2 q_3
  (have r_0 := hUA.cell 0); (have r_1 := hUA.cell 1); (have r_2 := hUA.cell 2); (have r_3 := hUA.cell 3); simp only [List.getElem?_toArray, List.getElem?_cons_succ, List.getElem?_cons_zero] at r_0 r_1 r_2 r_3
  go_enter Tryz.func15, Tryz.ntmps15
  go_wp2_with fail
  generalize hwA : ((w.alloc (.cells #[vn, vl] 34)).alloc (.cells #[.int .i64 a, .int .i64 b, .int .i64 c, .int .i64 d] 36)).alloc (.cells #[.int .i64 a', .int .i64 b', .int .i64 c', .int .i64 d'] 36) = wA at *
  clear hwA e3
  (refine wp_region_quietG (by kernel_rfl) (by kernel_rfl) (fun hG => ?_))
  go_big_quiet_step (fail)
  go_big_quiet_step (fail)
  go_big_quiet_step ((go_at_call 11; exact quietG (HX.out _ _ (hba.trans (Below.mono (Grw.below _) hba.size)) (RS.nil _ 1))))
  go_big_quiet_step (fail)
  go_big_quiet_step (fail)
  go_big_quiet_step ((go_at_call 11; exact quietG (HY.out _ _ (hba.trans (Below.mono (Grw.below _) hba.size)) (RS.nil _ 1))))
  go_big_quiet_step (fail)
  go_big_quiet_step (fail)
  refine wpQuiet_nil ?_
  clear hG
  rintro w1 ⟨⟨_, hb1⟩, rfl⟩
  have hbw1 := hba.trans (hb1.mono hba.size)
  clear hb1
  go_wp2_with (go_at_call 49; refine (compare_any _ _ _).mono ?_; rintro e w' ⟨rfl, rfl⟩)
  all_goals go_ret
  all_goals refine ⟨ret_int ?_, hbw1⟩
  all_goals unfold cheapI
  all_goals (repeat' split)
  all_goals first | rfl | omega

set_option maxHeartbeats 4000000 in
set_option maxRecDepth 100000 in
theorem sCheap_any (vn vl : Value) (ns ls : List Pr) (a b c d a' b' c' d' : Int) (w : World) (hn : RP w vn ns) (hl : RP w vl ls) :
    Calls Tryz.prog 14 #[.agg #[vn, vl], .agg #[.int .i64 a, .int .i64 b, .int .i64 c, .int .i64 d], .agg #[.int .i64 a', .int .i64 b', .int .i64 c', .int .i64 d']] w fun e w' => e = .returned (.int .i64 (cheapI (billI ns ls a b c d []) (billI ns ls a' b' c' d' []))) ∧ Below w.heap.size w w' := by
  have hba : Below w.heap.size w (((w.alloc (.cells #[vn, vl] 34)).alloc (.cells #[.int .i64 a, .int .i64 b, .int .i64 c, .int .i64 d] 36)).alloc (.cells #[.int .i64 a', .int .i64 b', .int .i64 c', .int .i64 d'] 36)) := by (repeat' (first | (with_reducible exact Below.refl _ _) | (with_reducible assumption) | (with_reducible refine Below.drew ?_) | (with_reducible refine below_drewN ?_ _) | (with_reducible refine Below.alloc ?_ ?_ _) | (with_reducible refine Below.setCell ?_ ?_ _) | (with_reducible refine Below.step (by assumption) ?_ ?_))); all_goals (first | omega | (simp; done) | (simp; omega))
  have hWA : Blk (((w.alloc (.cells #[vn, vl] 34)).alloc (.cells #[.int .i64 a, .int .i64 b, .int .i64 c, .int .i64 d] 36)).alloc (.cells #[.int .i64 a', .int .i64 b', .int .i64 c', .int .i64 d'] 36)) w.heap.size 34 #[vn, vl] := ((Blk.newAt rfl).alloc _).alloc _
  have hTA : Blk (((w.alloc (.cells #[vn, vl] 34)).alloc (.cells #[.int .i64 a, .int .i64 b, .int .i64 c, .int .i64 d] 36)).alloc (.cells #[.int .i64 a', .int .i64 b', .int .i64 c', .int .i64 d'] 36)) (w.heap.size + 1) 36 #[.int .i64 a, .int .i64 b, .int .i64 c, .int .i64 d] := (Blk.newAt (by simp)).alloc _
  have hUA : Blk (((w.alloc (.cells #[vn, vl] 34)).alloc (.cells #[.int .i64 a, .int .i64 b, .int .i64 c, .int .i64 d] 36)).alloc (.cells #[.int .i64 a', .int .i64 b', .int .i64 c', .int .i64 d'] 36)) (w.heap.size + 1 + 1) 36 #[.int .i64 a', .int .i64 b', .int .i64 c', .int .i64 d'] := Blk.newAt (by simp)
  have xb := billI_bd ns ls a b c d
  have yb := billI_bd ns ls a' b' c' d'
  have HX := Lib.hid (fun (v : World) (vp : Value) (hb : Below w.heap.size w v) (h3 : RI v vp []) => sBill_any vn vl vp ns ls a b c d [] v (hn.below hb) (hl.below hb) h3)
  have HY := Lib.hid (fun (v : World) (vp : Value) (hb : Below w.heap.size w v) (h3 : RI v vp []) => sBill_any vn vl vp ns ls a' b' c' d' [] v (hn.below hb) (hl.below hb) h3)
  generalize billI ns ls a b c d [] = x at *
  generalize billI ns ls a' b' c' d' [] = y at *
  go_enter Tryz.func14, Tryz.ntmps14
  go_wp2_with fail
  have hb1 : Below (((w.alloc (.cells #[vn, vl] 34)).alloc (.cells #[.int .i64 a, .int .i64 b, .int .i64 c, .int .i64 d] 36)).alloc (.cells #[.int .i64 a', .int .i64 b', .int .i64 c', .int .i64 d'] 36)).heap.size (((w.alloc (.cells #[vn, vl] 34)).alloc (.cells #[.int .i64 a, .int .i64 b, .int .i64 c, .int .i64 d] 36)).alloc (.cells #[.int .i64 a', .int .i64 b', .int .i64 c', .int .i64 d'] 36)) ((((w.alloc (.cells #[vn, vl] 34)).alloc (.cells #[.int .i64 a, .int .i64 b, .int .i64 c, .int .i64 d] 36)).alloc (.cells #[.int .i64 a', .int .i64 b', .int .i64 c', .int .i64 d'] 36)).alloc (.cells #[] 3)) := by (repeat' (first | (with_reducible exact Below.refl _ _) | (with_reducible assumption) | (with_reducible refine Below.drew ?_) | (with_reducible refine below_drewN ?_ _) | (with_reducible refine Below.alloc ?_ ?_ _) | (with_reducible refine Below.setCell ?_ ?_ _) | (with_reducible refine Below.step (by assumption) ?_ ?_))); all_goals (first | omega | (simp; done) | (simp; omega))
  have hbb1 := hba.trans (hb1.mono hba.size)
  have e3 : (((w.alloc (.cells #[vn, vl] 34)).alloc (.cells #[.int .i64 a, .int .i64 b, .int .i64 c, .int .i64 d] 36)).alloc (.cells #[.int .i64 a', .int .i64 b', .int .i64 c', .int .i64 d'] 36)).heap.size = w.heap.size + 1 + 1 + 1 := by simp
  refine (HX.out _ _ hbb1 (RI_lit (by simp) rfl rfl rfl (by simp [maxLen]))).mono ?_
  rintro e w2 ⟨rfl, hb2⟩
  have hbw2 := hbb1.trans (hb2.mono hbb1.size)
  have hW2 := (hWA.below hb1 hWA.lt).below hb2 (hWA.below hb1 hWA.lt).lt
  have hU2 := (hUA.below hb1 hUA.lt).below hb2 (hUA.below hb1 hUA.lt).lt
  clear hba hWA hTA hUA hb1 hbb1 hb2 e3
  (have p_0 := hW2.cell 0); (have p_1 := hW2.cell 1); simp only [List.getElem?_toArray, List.getElem?_cons_succ, List.getElem?_cons_zero] at p_0 p_1
  (have r_0 := hU2.cell 0); (have r_1 := hU2.cell 1); (have r_2 := hU2.cell 2); (have r_3 := hU2.cell 3); simp only [List.getElem?_toArray, List.getElem?_cons_succ, List.getElem?_cons_zero] at r_0 r_1 r_2 r_3
  have hb3 : Below w2.heap.size w2 (w2.alloc (.cells #[] 3)) := by (repeat' (first | (with_reducible exact Below.refl _ _) | (with_reducible assumption) | (with_reducible refine Below.drew ?_) | (with_reducible refine below_drewN ?_ _) | (with_reducible refine Below.alloc ?_ ?_ _) | (with_reducible refine Below.setCell ?_ ?_ _) | (with_reducible refine Below.step (by assumption) ?_ ?_))); all_goals (first | omega | (simp; done) | (simp; omega))
  have hbw3 := hbw2.trans (hb3.mono hbw2.size)
  go_wp2_with fail
  refine (HY.out _ _ hbw3 (RI_lit (by simp) rfl rfl rfl (by simp [maxLen]))).mono ?_
  rintro e w4 ⟨rfl, hb4⟩
  have hbw4 := hbw3.trans (hb4.mono hbw3.size)
  go_wp2
  all_goals go_ret
  all_goals refine ⟨ret_int ?_, hbw4⟩
  all_goals unfold cheapI
  all_goals first | (rw [if_pos (by omega)]; done) | (rw [if_neg (by omega), if_pos (by omega)]; done) | (rw [if_neg (by omega), if_neg (by omega), if_pos (by omega)]; done) | (rw [if_neg (by omega), if_neg (by omega), if_neg (by omega)]; done)

set_option maxHeartbeats 8000000 in
set_option maxRecDepth 100000 in
theorem cheapLaw_any (vn vl : Value) (ns ls : List Pr) (a b c d a' b' c' d' : Int) (w : World) (hn : RP w vn ns) (hl : RP w vl ls) :
    Calls Tryz.prog 4 #[.agg #[vn, vl], .agg #[.int .i64 a, .int .i64 b, .int .i64 c, .int .i64 d], .agg #[.int .i64 a', .int .i64 b', .int .i64 c', .int .i64 d']] w fun e w' => e = .returned (.bool true) ∧ Below w.heap.size w w' := by
  obtain ⟨x, hx⟩ : ∃ x, szW 1048576 ns.length ls.length = x := ⟨_, rfl⟩
  have HX := Lib.hid hx
  have hba : Below w.heap.size w (((w.alloc (.cells #[vn, vl] 25)).alloc (.cells #[.int .i64 a, .int .i64 b, .int .i64 c, .int .i64 d] 27)).alloc (.cells #[.int .i64 a', .int .i64 b', .int .i64 c', .int .i64 d'] 27)) := by (repeat' (first | (with_reducible exact Below.refl _ _) | (with_reducible assumption) | (with_reducible refine Below.drew ?_) | (with_reducible refine below_drewN ?_ _) | (with_reducible refine Below.alloc ?_ ?_ _) | (with_reducible refine Below.setCell ?_ ?_ _) | (with_reducible refine Below.step (by assumption) ?_ ?_))); all_goals (first | omega | (simp; done) | (simp; omega))
  have hVA : Blk (((w.alloc (.cells #[vn, vl] 25)).alloc (.cells #[.int .i64 a, .int .i64 b, .int .i64 c, .int .i64 d] 27)).alloc (.cells #[.int .i64 a', .int .i64 b', .int .i64 c', .int .i64 d'] 27)) w.heap.size 25 #[vn, vl] := ((Blk.newAt rfl).alloc _).alloc _
  have hTA : Blk (((w.alloc (.cells #[vn, vl] 25)).alloc (.cells #[.int .i64 a, .int .i64 b, .int .i64 c, .int .i64 d] 27)).alloc (.cells #[.int .i64 a', .int .i64 b', .int .i64 c', .int .i64 d'] 27)) (w.heap.size + 1) 27 #[.int .i64 a, .int .i64 b, .int .i64 c, .int .i64 d] := (Blk.newAt (by simp)).alloc _
  have hUA : Blk (((w.alloc (.cells #[vn, vl] 25)).alloc (.cells #[.int .i64 a, .int .i64 b, .int .i64 c, .int .i64 d] 27)).alloc (.cells #[.int .i64 a', .int .i64 b', .int .i64 c', .int .i64 d'] 27)) (w.heap.size + 1 + 1) 27 #[.int .i64 a', .int .i64 b', .int .i64 c', .int .i64 d'] := Blk.newAt (by simp)
  by_cases hx0 : x < 0
  · clear hx
    go_enter Tryz.func4, Tryz.ntmps4
    go_wp2_with fail
    refine (szWindow_at _ _ ns ls _ x _ (hn.below hba) (hl.below hba) (by omega) (by omega) HX).mono ?_
    rintro e w1 ⟨rfl, hb1⟩; (first | (with_reducible have hcf1 := bcell_drew hb1) | have hcf1 := bcell hb1); obtain ⟨hc1, hf1⟩ := hcf1; have hz1 := hb1.size; (try simp at hz1); (try have hp1_0 : w.heap.size < w1.heap.size := by omega); (try have hp1_1 : w.heap.size + 1 < w1.heap.size := by omega); (try have hp1_2 : w.heap.size + 1 + 1 < w1.heap.size := by omega); (try have hp1_3 : w.heap.size + 1 + 1 + 1 < w1.heap.size := by omega)
    go_wp2
    go_ret
    exact ⟨rfl, by (repeat' (first | (with_reducible exact Below.refl _ _) | (with_reducible assumption) | (with_reducible refine Below.drew ?_) | (with_reducible refine below_drewN ?_ _) | (with_reducible refine Below.alloc ?_ ?_ _) | (with_reducible refine Below.setCell ?_ ?_ _) | (with_reducible refine Below.step (by assumption) ?_ ?_))); all_goals (first | omega | (simp; done) | (simp; omega))⟩
  · obtain ⟨s1, s2, s3, s4⟩ := szW_le (by rw [hx]; exact hx0)
    clear s3 s4 hx
    obtain ⟨J, hJ⟩ : ∃ J, cheapI (billI ns ls a b c d []) (billI ns ls a' b' c' d' []) = J := ⟨_, rfl⟩
    have HSB := Lib.hid (fun (u : World) (un ul : Value) (h1 : RP u un ns) (h2 : RP u ul ls) => sCheap_any un ul ns ls a b c d a' b' c' d' u h1 h2)
    have HIB := Lib.hid (fun (u : World) (un ul : Value) (h1 : RP u un ns) (h2 : RP u ul ls) => iCheap_any un ul ns ls a b c d a' b' c' d' u h1 h2)
    rw [hJ] at HSB HIB
    clear hJ
    go_enter Tryz.func4, Tryz.ntmps4
    go_wp2_with fail
    refine (szWindow_at _ _ ns ls _ x _ (hn.below hba) (hl.below hba) (by omega) (by omega) HX).mono ?_
    rintro e w1 ⟨rfl, hb1⟩
    have hbw1 : Below w.heap.size w w1 := hba.trans (hb1.mono hba.size)
    have hV1 := hVA.below hb1 hVA.lt
    have hT1 := hTA.below hb1 hTA.lt
    have hU1 := hUA.below hb1 hUA.lt
    clear hb1 HX hba hVA hTA hUA
    (have a_0 := hV1.cell 0); (have a_1 := hV1.cell 1); simp only [List.getElem?_toArray, List.getElem?_cons_succ, List.getElem?_cons_zero] at a_0 a_1
    (have t_0 := hT1.cell 0); (have t_1 := hT1.cell 1); (have t_2 := hT1.cell 2); (have t_3 := hT1.cell 3); simp only [List.getElem?_toArray, List.getElem?_cons_succ, List.getElem?_cons_zero] at t_0 t_1 t_2 t_3
    (have u_0 := hU1.cell 0); (have u_1 := hU1.cell 1); (have u_2 := hU1.cell 2); (have u_3 := hU1.cell 3); simp only [List.getElem?_toArray, List.getElem?_cons_succ, List.getElem?_cons_zero] at u_0 u_1 u_2 u_3
    have z1 := hV1.lt
    have z2 := hT1.lt
    have z3 := hU1.lt
    go_wp2_with fail
    go_region_held3 (fun w' => w'.cell? ⟨w.heap.size, 0, none⟩ = some vn ∧ w'.cell? ⟨w.heap.size, 1, none⟩ = some vl ∧ w'.cell? ⟨w.heap.size + 1, 0, none⟩ = some (.int .i64 a) ∧ w'.cell? ⟨w.heap.size + 1, 1, none⟩ = some (.int .i64 b) ∧ w'.cell? ⟨w.heap.size + 1, 2, none⟩ = some (.int .i64 c) ∧ w'.cell? ⟨w.heap.size + 1, 3, none⟩ = some (.int .i64 d) ∧ w'.cell? ⟨w.heap.size + 1 + 1, 0, none⟩ = some (.int .i64 a') ∧ w'.cell? ⟨w.heap.size + 1 + 1, 1, none⟩ = some (.int .i64 b') ∧ w'.cell? ⟨w.heap.size + 1 + 1, 2, none⟩ = some (.int .i64 c') ∧ w'.cell? ⟨w.heap.size + 1 + 1, 3, none⟩ = some (.int .i64 d'))
      (go_keep)
      (first | (go_at_call 8; refine Calls.mono (toWindow_any vn vl ns ls _ (hn.below ?c1) (hl.below ?c1) s1 s2) ?_; (case c1 => (repeat' (first | (with_reducible exact Below.refl _ _) | (with_reducible assumption) | (with_reducible refine Below.drew ?_) | (with_reducible refine below_drewN ?_ _) | (with_reducible refine Below.alloc ?_ ?_ _) | (with_reducible refine Below.setCell ?_ ?_ _) | (with_reducible refine Below.step (by assumption) ?_ ?_))); all_goals (first | omega | (simp; done) | (simp; omega))); rintro e w2 ⟨An2, cn2, Al2, cl2, rfl, ho2, hb2⟩; (first | (with_reducible have hcf2 := bcell_drew hb2) | have hcf2 := bcell hb2); obtain ⟨hc2, hf2⟩ := hcf2; have hz2 := hb2.size; (try simp at hz2); (try have hp2_0 : w.heap.size < w2.heap.size := by omega); (try have hp2_1 : w.heap.size + 1 < w2.heap.size := by omega); (try have hp2_2 : w.heap.size + 1 + 1 < w2.heap.size := by omega); (try have hp2_3 : w.heap.size + 1 + 1 + 1 < w2.heap.size := by omega); (have hbw2 : Below w.heap.size w w2 := by (repeat' (first | (with_reducible exact Below.refl _ _) | (with_reducible assumption) | (with_reducible refine Below.drew ?_) | (with_reducible refine below_drewN ?_ _) | (with_reducible refine Below.alloc ?_ ?_ _) | (with_reducible refine Below.setCell ?_ ?_ _) | (with_reducible refine Below.step (by assumption) ?_ ?_))); all_goals (first | omega | (simp; done) | (simp; omega))); (have z12 : w.heap.size < w2.heap.size := by omega); (have z22 : w.heap.size + 1 < w2.heap.size := by omega); (have z32 : w.heap.size + 1 + 1 < w2.heap.size := by omega)) | (go_at_call_of 9 a; refine (toTariff_any a b c d _).mono ?_; rintro e w3 ⟨rfl, hb3⟩; (first | (with_reducible have hcf3 := bcell_drew hb3) | have hcf3 := bcell hb3); obtain ⟨hc3, hf3⟩ := hcf3; have hz3 := hb3.size; (try simp at hz3); (try have hp3_0 : w.heap.size < w3.heap.size := by omega); (try have hp3_1 : w.heap.size + 1 < w3.heap.size := by omega); (try have hp3_2 : w.heap.size + 1 + 1 < w3.heap.size := by omega); (try have hp3_3 : w.heap.size + 1 + 1 + 1 < w3.heap.size := by omega); (have hbw3 : Below w.heap.size w w3 := by (repeat' (first | (with_reducible exact Below.refl _ _) | (with_reducible assumption) | (with_reducible refine Below.drew ?_) | (with_reducible refine below_drewN ?_ _) | (with_reducible refine Below.alloc ?_ ?_ _) | (with_reducible refine Below.setCell ?_ ?_ _) | (with_reducible refine Below.step (by assumption) ?_ ?_))); all_goals (first | omega | (simp; done) | (simp; omega))); (have z13 : w.heap.size < w3.heap.size := by omega); (have z23 : w.heap.size + 1 < w3.heap.size := by omega); (have z33 : w.heap.size + 1 + 1 < w3.heap.size := by omega)) | (go_at_call_of 9 a'; refine (toTariff_any a' b' c' d' _).mono ?_; rintro e w4 ⟨rfl, hb4⟩; (first | (with_reducible have hcf4 := bcell_drew hb4) | have hcf4 := bcell hb4); obtain ⟨hc4, hf4⟩ := hcf4; have hz4 := hb4.size; (try simp at hz4); (try have hp4_0 : w.heap.size < w4.heap.size := by omega); (try have hp4_1 : w.heap.size + 1 < w4.heap.size := by omega); (try have hp4_2 : w.heap.size + 1 + 1 < w4.heap.size := by omega); (try have hp4_3 : w.heap.size + 1 + 1 + 1 < w4.heap.size := by omega); (have hbw4 : Below w.heap.size w w4 := by (repeat' (first | (with_reducible exact Below.refl _ _) | (with_reducible assumption) | (with_reducible refine Below.drew ?_) | (with_reducible refine below_drewN ?_ _) | (with_reducible refine Below.alloc ?_ ?_ _) | (with_reducible refine Below.setCell ?_ ?_ _) | (with_reducible refine Below.step (by assumption) ?_ ?_))); all_goals (first | omega | (simp; done) | (simp; omega))); (have z14 : w.heap.size < w4.heap.size := by omega); (have z24 : w.heap.size + 1 < w4.heap.size := by omega); (have z34 : w.heap.size + 1 + 1 < w4.heap.size := by omega)) | (go_at_call 14; have hb24 : Below w2.heap.size w2 w4 := hb3.trans (hb4.mono hb3.size); refine Calls.mono (HSB.out _ _ _ (ho2.1.reads.below hb24) (ho2.2.1.reads.below hb24)) ?_; rintro e w5 ⟨rfl, hb5⟩; (first | (with_reducible have hcf5 := bcell_drew hb5) | have hcf5 := bcell hb5); obtain ⟨hc5, hf5⟩ := hcf5; have hz5 := hb5.size; (try simp at hz5); (try have hp5_0 : w.heap.size < w5.heap.size := by omega); (try have hp5_1 : w.heap.size + 1 < w5.heap.size := by omega); (try have hp5_2 : w.heap.size + 1 + 1 < w5.heap.size := by omega); (try have hp5_3 : w.heap.size + 1 + 1 + 1 < w5.heap.size := by omega); (have hbw5 : Below w.heap.size w w5 := hbw4.trans (hb5.mono hbw4.size)); (have hb15 : Below w1.heap.size w1 w5 := ((below_drew0 hb2).trans (hb24.mono (below_drew0 hb2).size)).trans (hb5.mono (Nat.le_trans (below_drew0 hb2).size hb24.size)))))
    have hV5 := hV1.below hb15 z1
    have hT5 := hT1.below hb15 z2
    have hU5 := hU1.below hb15 z3
    clear hV1 hT1 hU1 a_0 a_1 t_0 t_1 t_2 t_3 u_0 u_1 u_2 u_3 hb2 hb3 hb4 hb5 hc2 hc3 hc4 hc5 hf2 hf3 hf4 hf5 ho2 hbw1 hbw2 hbw3 hbw4 hb15 hb24
    (have a_0 := hV5.cell 0); (have a_1 := hV5.cell 1); simp only [List.getElem?_toArray, List.getElem?_cons_succ, List.getElem?_cons_zero] at a_0 a_1
    go_wp2_with fail
    refine (toWindow_any vn vl ns ls _ (hn.below hbw5) (hl.below hbw5) s1 s2).mono ?_
    rintro e w6 ⟨An6, cn6, Al6, cl6, rfl, ho6, hb6⟩
    have hbX : Below w6.heap.size w6 (w6.alloc (.cells #[.slice An6 ns.length cn6, .slice Al6 ls.length cl6] 34)) := by (repeat' (first | (with_reducible exact Below.refl _ _) | (with_reducible assumption) | (with_reducible refine Below.drew ?_) | (with_reducible refine below_drewN ?_ _) | (with_reducible refine Below.alloc ?_ ?_ _) | (with_reducible refine Below.setCell ?_ ?_ _) | (with_reducible refine Below.step (by assumption) ?_ ?_))); all_goals (first | omega | (simp; done) | (simp; omega))
    have hV7 := (hV5.below hb6 hV5.lt).alloc (.cells #[.slice An6 ns.length cn6, .slice Al6 ls.length cl6] 34)
    have hT7 := (hT5.below hb6 hT5.lt).alloc (.cells #[.slice An6 ns.length cn6, .slice Al6 ls.length cl6] 34)
    have hU7 := (hU5.below hb6 hU5.lt).alloc (.cells #[.slice An6 ns.length cn6, .slice Al6 ls.length cl6] 34)
    have hX7 : Blk (w6.alloc (.cells #[.slice An6 ns.length cn6, .slice Al6 ls.length cl6] 34)) w6.heap.size 34 #[.slice An6 ns.length cn6, .slice Al6 ls.length cl6] := Blk.newAt rfl
    have hbw6 : Below w.heap.size w w6 := hbw5.trans (hb6.mono hbw5.size)
    have hbw7 := hbw6.trans (hbX.mono hbw6.size)
    have r7n := ho6.1.reads.below hbX
    have r7l := ho6.2.1.reads.below hbX
    have n1 := hV7.lt
    have n2 := hX7.lt
    have n3 := hT7.lt
    have n4 := hU7.lt
    clear hb6 hV5 hT5 hU5 hbw5 hbw6 a_0 a_1 hbX ho6
    (have a_0 := hV7.cell 0); (have a_1 := hV7.cell 1); simp only [List.getElem?_toArray, List.getElem?_cons_succ, List.getElem?_cons_zero] at a_0 a_1
    (have x_0 := hX7.cell 0); (have x_1 := hX7.cell 1); simp only [List.getElem?_toArray, List.getElem?_cons_succ, List.getElem?_cons_zero] at x_0 x_1
    (have t_0 := hT7.cell 0); (have t_1 := hT7.cell 1); (have t_2 := hT7.cell 2); (have t_3 := hT7.cell 3); simp only [List.getElem?_toArray, List.getElem?_cons_succ, List.getElem?_cons_zero] at t_0 t_1 t_2 t_3
    (have u_0 := hU7.cell 0); (have u_1 := hU7.cell 1); (have u_2 := hU7.cell 2); (have u_3 := hU7.cell 3); simp only [List.getElem?_toArray, List.getElem?_cons_succ, List.getElem?_cons_zero] at u_0 u_1 u_2 u_3
    go_wp2_with fail
    generalize hB6 : w6.heap.size = B6 at *
    generalize hw7 : w6.alloc (.cells #[.slice An6 ns.length cn6, .slice Al6 ls.length cl6] 34) = w7 at *
    clear hB6 hw7
    go_region_held3 (fun w' => w'.cell? ⟨B6, 0, none⟩ = some (.slice An6 ns.length cn6) ∧ w'.cell? ⟨B6, 1, none⟩ = some (.slice Al6 ls.length cl6) ∧ w'.cell? ⟨w.heap.size + 1, 0, none⟩ = some (.int .i64 a) ∧ w'.cell? ⟨w.heap.size + 1, 1, none⟩ = some (.int .i64 b) ∧ w'.cell? ⟨w.heap.size + 1, 2, none⟩ = some (.int .i64 c) ∧ w'.cell? ⟨w.heap.size + 1, 3, none⟩ = some (.int .i64 d) ∧ w'.cell? ⟨w.heap.size + 1 + 1, 0, none⟩ = some (.int .i64 a') ∧ w'.cell? ⟨w.heap.size + 1 + 1, 1, none⟩ = some (.int .i64 b') ∧ w'.cell? ⟨w.heap.size + 1 + 1, 2, none⟩ = some (.int .i64 c') ∧ w'.cell? ⟨w.heap.size + 1 + 1, 3, none⟩ = some (.int .i64 d'))
      (go_keep)
      (first | (go_at_call_of 9 a; refine (toTariff_any a b c d _).mono ?_; rintro e w8 ⟨rfl, hb8⟩; (first | (with_reducible have hcf8 := bcell_drew hb8) | have hcf8 := bcell hb8); obtain ⟨hc8, hf8⟩ := hcf8; have hz8 := hb8.size; (try simp at hz8); (try have hp8_0 : w.heap.size < w8.heap.size := by omega); (try have hp8_1 : w.heap.size + 1 < w8.heap.size := by omega); (try have hp8_2 : w.heap.size + 1 + 1 < w8.heap.size := by omega); (try have hp8_3 : w.heap.size + 1 + 1 + 1 < w8.heap.size := by omega); (have m18 : B6 < w8.heap.size := by omega); (have m28 : w.heap.size + 1 < w8.heap.size := by omega); (have m38 : w.heap.size + 1 + 1 < w8.heap.size := by omega); (have hb78 : Below w7.heap.size w7 w8 := below_drew0 hb8)) | (go_at_call_of 9 a'; refine (toTariff_any a' b' c' d' _).mono ?_; rintro e w9 ⟨rfl, hb9⟩; (first | (with_reducible have hcf9 := bcell_drew hb9) | have hcf9 := bcell hb9); obtain ⟨hc9, hf9⟩ := hcf9; have hz9 := hb9.size; (try simp at hz9); (try have hp9_0 : w.heap.size < w9.heap.size := by omega); (try have hp9_1 : w.heap.size + 1 < w9.heap.size := by omega); (try have hp9_2 : w.heap.size + 1 + 1 < w9.heap.size := by omega); (try have hp9_3 : w.heap.size + 1 + 1 + 1 < w9.heap.size := by omega); (have m19 : B6 < w9.heap.size := by omega); (have m29 : w.heap.size + 1 < w9.heap.size := by omega); (have m39 : w.heap.size + 1 + 1 < w9.heap.size := by omega); (have hb79 : Below w7.heap.size w7 w9 := hb78.trans (hb9.mono hb78.size))) | (go_at_call 15; refine Calls.mono (HIB.out _ _ _ (r7n.below hb79) (r7l.below hb79)) ?_; rintro e w10 ⟨rfl, hb10⟩; (first | (with_reducible have hcf10 := bcell_drew hb10) | have hcf10 := bcell hb10); obtain ⟨hc10, hf10⟩ := hcf10; have hz10 := hb10.size; (try simp at hz10); (try have hp10_0 : w.heap.size < w10.heap.size := by omega); (try have hp10_1 : w.heap.size + 1 < w10.heap.size := by omega); (try have hp10_2 : w.heap.size + 1 + 1 < w10.heap.size := by omega); (try have hp10_3 : w.heap.size + 1 + 1 + 1 < w10.heap.size := by omega); (have hb710 : Below w7.heap.size w7 w10 := hb79.trans (hb10.mono hb79.size))))
    have hV9 := hV7.below hb710 n1
    have hX9 := hX7.below hb710 n2
    have r9n := r7n.below hb710
    have r9l := r7l.below hb710
    have hbw9 := hbw7.trans (hb710.mono hbw7.size)
    have p1 := hV9.lt
    have p2 := hX9.lt
    clear hb710 hb78 hb79 hV7 hX7 hT7 hU7 r7n r7l hbw7 a_0 a_1 x_0 x_1 t_0 t_1 t_2 t_3 u_0 u_1 u_2 u_3 hb8 hb9 hb10 hc8 hc9 hc10 hf8 hf9 hf10
    (have a_0 := hV9.cell 0); (have a_1 := hV9.cell 1); simp only [List.getElem?_toArray, List.getElem?_cons_succ, List.getElem?_cons_zero] at a_0 a_1
    (have x_0 := hX9.cell 0); (have x_1 := hX9.cell 1); simp only [List.getElem?_toArray, List.getElem?_cons_succ, List.getElem?_cons_zero] at x_0 x_1
    go_wp2_with fail
    go_region_held3 (fun w' => w'.cell? ⟨w.heap.size, 0, none⟩ = some vn ∧ w'.cell? ⟨w.heap.size, 1, none⟩ = some vl ∧ w'.cell? ⟨B6, 0, none⟩ = some (.slice An6 ns.length cn6) ∧ w'.cell? ⟨B6, 1, none⟩ = some (.slice Al6 ls.length cl6))
      (go_keep)
      (first | (go_at_call 8; refine Calls.mono (toWindow_any vn vl ns ls _ (hn.below ?c1) (hl.below ?c1) s1 s2) ?_; (case c1 => (repeat' (first | (with_reducible exact Below.refl _ _) | (with_reducible assumption) | (with_reducible refine Below.drew ?_) | (with_reducible refine below_drewN ?_ _) | (with_reducible refine Below.alloc ?_ ?_ _) | (with_reducible refine Below.setCell ?_ ?_ _) | (with_reducible refine Below.step (by assumption) ?_ ?_))); all_goals (first | omega | (simp; done) | (simp; omega))); rintro e w11 ⟨An11, cn11, Al11, cl11, rfl, ho11, hb11⟩; (first | (with_reducible have hcf11 := bcell_drew hb11) | have hcf11 := bcell hb11); obtain ⟨hc11, hf11⟩ := hcf11; have hz11 := hb11.size; (try simp at hz11); (try have hp11_0 : w.heap.size < w11.heap.size := by omega); (try have hp11_1 : w.heap.size + 1 < w11.heap.size := by omega); (try have hp11_2 : w.heap.size + 1 + 1 < w11.heap.size := by omega); (try have hp11_3 : w.heap.size + 1 + 1 + 1 < w11.heap.size := by omega); (have o10 : w.heap.size < w11.heap.size := by omega); (have mm10 : B6 < w11.heap.size := by omega)) | (go_at_call 12; refine (eqWindow_any _ _ _ _ ns ls _ (r9n.below ?c2) (r9l.below ?c2) (ho11.1.reads) (ho11.2.1.reads)).mono ?_; (case c2 => (repeat' (first | (with_reducible exact Below.refl _ _) | (with_reducible assumption) | (with_reducible refine Below.drew ?_) | (with_reducible refine below_drewN ?_ _) | (with_reducible refine Below.alloc ?_ ?_ _) | (with_reducible refine Below.setCell ?_ ?_ _) | (with_reducible refine Below.step (by assumption) ?_ ?_))); all_goals (first | omega | (simp; done) | (simp; omega))); rintro e w12 ⟨rfl, hb12⟩; (first | (with_reducible have hcf12 := bcell_drew hb12) | have hcf12 := bcell hb12); obtain ⟨hc12, hf12⟩ := hcf12; have hz12 := hb12.size; (try simp at hz12); (try have hp12_0 : w.heap.size < w12.heap.size := by omega); (try have hp12_1 : w.heap.size + 1 < w12.heap.size := by omega); (try have hp12_2 : w.heap.size + 1 + 1 < w12.heap.size := by omega); (try have hp12_3 : w.heap.size + 1 + 1 + 1 < w12.heap.size := by omega)))
    go_wp2
    go_ret
    exact ⟨rfl, by (repeat' (first | (with_reducible exact Below.refl _ _) | (with_reducible assumption) | (with_reducible refine Below.drew ?_) | (with_reducible refine below_drewN ?_ _) | (with_reducible refine Below.alloc ?_ ?_ _) | (with_reducible refine Below.setCell ?_ ?_ _) | (with_reducible refine Below.step (by assumption) ?_ ?_))); all_goals (first | omega | (simp; done) | (simp; omega))⟩

end Go.Proofs.YtognjdappchpkaaGreat

namespace Go.Proofs.YtognjdappchpkaaGreat
open Go.RowKit

def partF (total n : Int) (k : Nat) : Int := total / n + if (k : Int) < total % n then 1 else 0

theorem partF_yes {total n : Int} {k : Nat} (h : (k : Int) < total % n) : partF total n k = total / n + 1 := by simp [partF, h]

theorem partF_no {total n : Int} {k : Nat} (h : ¬ (k : Int) < total % n) : partF total n k = total / n := by simp [partF, h]

def instF (total n : Int) (k : Nat) : List Int := (List.range k).map (partF total n)

theorem instF_succ (total n : Int) (k : Nat) : instF total n (k + 1) = instF total n k ++ [partF total n k] := by simp [instF, List.range_succ]

theorem instF_length (total n : Int) (k : Nat) : (instF total n k).length = k := by simp [instF]

def instAll (total n : Int) : List Int := if inB total 0 100000000 && inB n 1 24 then instF total n n.toNat else []

set_option maxHeartbeats 2000000 in
set_option maxRecDepth 100000 in
theorem iInst_any (total n : Int) (w : World) :
    Calls Tryz.prog 28 #[.int .i64 total, .int .i64 n] w (RetI (instAll total n) w) := by
  cases h1 : inB total 0 100000000
  · have hr : instAll total n = [] := by simp [instAll, h1]
    rw [hr]
    have H1 := Lib.hid h1
    clear h1 hr
    go_enter Tryz.func28, Tryz.ntmps28
    go_wp2_with (go_at_call 63; refine (within_any _ _ _ _).mono ?_; rintro e w' ⟨rfl, rfl⟩; rw [H1.out])
    go_ret
    exact ⟨_, rfl, OwnI.nil _ _, Below.refl _ _⟩
  · cases h2 : inB n 1 24
    · have hr : instAll total n = [] := by simp [instAll, h2]
      rw [hr]
      have H1 := Lib.hid h1
      have H2 := Lib.hid h2
      clear h1 h2 hr
      go_enter Tryz.func28, Tryz.ntmps28
      go_wp2_with fail
      refine (within_any _ _ _ _).mono ?_
      rintro e w' ⟨rfl, rfl⟩
      rw [H1.out]
      go_wp2_with fail
      refine (within_any _ _ _ _).mono ?_
      rintro e w' ⟨rfl, rfl⟩
      rw [H2.out]
      go_wp2
      go_ret
      exact ⟨_, rfl, OwnI.nil _ _, Below.refl _ _⟩
    · have hr : instAll total n = instF total n n.toNat := by simp [instAll, h1, h2]
      rw [hr]
      obtain ⟨b1, b2⟩ := inB_true.1 h1
      obtain ⟨b3, b4⟩ := inB_true.1 h2
      have H1 := Lib.hid h1
      have H2 := Lib.hid h2
      clear h1 h2 hr
      obtain ⟨i0, hi, hz0, hz1, hz2⟩ := info_parts infoInt
      obtain ⟨m, rfl⟩ := Int.eq_ofNat_of_zero_le (show 0 ≤ n by omega)
      have q1 : 0 ≤ total / (m : Int) := Int.ediv_nonneg b1 (by omega)
      have q2 : total / (m : Int) ≤ 100000000 := Int.le_trans (Int.ediv_le_self _ b1) b2
      have q3 : 0 ≤ total % (m : Int) := Int.emod_nonneg _ (by omega)
      have q4 : total % (m : Int) < m := Int.emod_lt_of_pos _ (by omega)
      have hne : ¬ (m : Int) = 0 := by omega
      go_enter Tryz.func28, Tryz.ntmps28
      go_wp2_with fail
      refine (within_any _ _ _ _).mono ?_
      rintro e w' ⟨rfl, rfl⟩
      rw [H1.out]
      go_wp2_with fail
      refine (within_any _ _ _ _).mono ?_
      rintro e w' ⟨rfl, rfl⟩
      rw [H2.out]
      go_wp2
      go_loopw [5, 6] (fun v i wr => ∃ k : Nat, k ≤ m ∧ i = .int .i64 k ∧ OwnI w.heap.size wr v (instF total m k) ∧ Below w.heap.size w wr) (fun _ i _ => m - (intOf i).toNat)
      case atStart => exact ⟨0, Nat.zero_le _, rfl, OwnI.nil _ _, Below.refl _ _⟩
      case round =>
        obtain ⟨k, hk, rfl, hown, hbl⟩ := hrel
        have hsz := hbl.size
        have hlen := instF_length total m k
        by_cases hlt : k < m
        · have HS := Lib.hid (instF_succ total m k)
          have HL := Lib.hid hlen
          clear hlen
          go_wp2_with (at_builtin; refine wpList_append_own _ rfl _ _ 28 rfl w.heap.size 3 i0 (.int .i64 0) 1 8 Tryz.underlying28 hi hz0 hz1 hz2 rfl (by decide) _ _ _ rfl (World.ownsRow.alloc hown _) ⟨wr.heap.size, 0, none⟩ 1 1 [.int .i64 _] rfl rfl (cell_one_new _ _ _) (by intro u hu; simp at hu; subst hu; rfl) (by rw [HL.out]; unfold maxLen; omega) (by rw [HL.out]; omega) (by simp; omega) ?_)
          all_goals
            intro v' w1 hown1 hg1 _
            have hbl1 : Below w.heap.size w w1 := (hbl.alloc hsz _).grown hg1 (by simp; omega) (fun k hk => (hown.lt k hk).1)
            have HO : OwnI w.heap.size w1 v' (instF total m (k + 1)) := by
              rw [HS.out]
              refine OwnI.snoc ?_
              first
                | (rw [partF_yes (show (k : Int) < total % m by assumption)]; exact hown1)
                | (rw [partF_no (show ¬ (k : Int) < total % m by omega)]; exact hown1)
            clear hown1 hg1 hown hbl
            go_wp2
            go_roundw
            case rel => exact ⟨k + 1, by omega, by go_num, HO, hbl1⟩
            case measure => simp [intOf]; omega
        · have hkm : k = m := by omega
          subst hkm
          have HO := Lib.hid hown
          have HB := Lib.hid hbl
          clear hown hbl hlen
          go_wp2
          go_ret
          exact ⟨_, rfl, by simpa using HO.out, HB.out⟩



end Go.Proofs.YtognjdappchpkaaGreat

namespace Go.Proofs.YtognjdappchpkaaGreat
open Go.RowKit

/-- A list of bytes in memory. -/
def RB (w : World) (v : Value) (zs : List Int) : Prop := RS w 1 v zs.length (zs.map (Value.int .u8)) ∧ ∀ z ∈ zs, 0 ≤ z ∧ z ≤ 255

theorem RB.below {w w' : World} {v : Value} {zs : List Int} (h : RB w v zs) (hb : Below w.heap.size w w') : RB w' v zs := ⟨RS.below h.1 hb, h.2⟩

theorem RB.form {w : World} {v : Value} {zs : List Int} (h : RB w v zs) : ∃ A c, v = .slice A zs.length c ∧ zs.length ≤ c ∧ zs.length ≤ maxLen ∧
    (0 < zs.length → ∃ b off, A = some ⟨b, off, none⟩ ∧ b < w.heap.size ∧ ∀ k, k < zs.length → ∃ z : Int, w.cell? ⟨b, off + k, none⟩ = some (.int .u8 z) ∧ 0 ≤ z ∧ z ≤ 255) := by
  obtain ⟨⟨_, A, c, hv, h1, h2, h3⟩, hz⟩ := h
  refine ⟨A, c, hv, h1, h2, fun hn => ?_⟩
  obtain ⟨b, off, hA, hlt, hc⟩ := h3 hn
  refine ⟨b, off, hA, hlt, fun k hk => ⟨zs[k], hc k _ ?_, hz _ (List.getElem_mem hk)⟩⟩
  rw [List.getElem?_map, List.getElem?_eq_getElem hk]
  rfl

/-- The cursor lies in block g over the bytes v; what was there at W0 is as it was. -/
def CurOk (W0 : World) (v : Value) (g : Nat) (w : World) : Prop :=
  W0.heap.size ≤ g ∧ Below W0.heap.size W0 w ∧ ∃ i h : Int, 0 ≤ i ∧ Blk w g 93 #[v, .int .i64 i, .int .i64 h]

/-- A draw: a number below n, and only the cursor has turned. -/
def Drawn (W0 : World) (v : Value) (g : Nat) (w : World) (n : Int) (e : Ending) (w' : World) : Prop :=
  ∃ x : Int, e = .returned (.int .i64 x) ∧ 0 ≤ x ∧ x < n ∧ CurOk W0 v g w' ∧ w.grownBy w' (some g)

theorem and_255 (a : Int) : 0 ≤ bits .and .i64 a 255 ∧ bits .and .i64 a 255 < 256 := by
  have e : bits .and .i64 a 255 = IntKind.i64.wrap ((BitVec.ofInt 64 a &&& BitVec.ofInt 64 255).toNat : Int) := rfl
  have h : (BitVec.ofInt 64 a &&& BitVec.ofInt 64 255).toNat ≤ 255 := by
    rw [BitVec.toNat_and]
    exact Nat.and_le_right
  rw [e, IntKind.wrap_i64]
  omega

set_option maxRecDepth 100000 in
theorem new_any (v : Value) (zs : List Int) (w : World) (h : RB w v zs) (hle : zs.length ≤ 1048576) :
    Calls Tryz.prog 51 #[v] w fun e w' => e = .returned (.pointer (some ⟨w.heap.size, 0, none⟩)) ∧ CurOk w v w.heap.size w' := by
  obtain ⟨A, c, rfl, hc, hm, hcell⟩ := h.form
  clear h hm
  go_enter Tryz.func51, Tryz.ntmps51
  go_wp2
  go_loop [3, 4] (fun x i => ∃ k : Nat, ∃ h : Int, k ≤ zs.length ∧ i = .int .i64 k ∧ x = .int .i64 h) (fun _ i => zs.length - (intOf i).toNat)
  case atStart => exact ⟨0, _, Nat.zero_le _, rfl, rfl⟩
  case round =>
    obtain ⟨k, h, hk, rfl, rfl⟩ := hrel
    by_cases hlt : k < zs.length
    · by_cases h4 : k < 4000
      · obtain ⟨b, off, rfl, hb, hcl⟩ := hcell (by omega)
        obtain ⟨z, hz, hz0, hz1⟩ := hcl k hlt
        clear hcl hcell
        go_wp2
        go_round
        case rel => exact ⟨k + 1, _, by omega, by go_num, rfl⟩
        case measure => simp [intOf]; omega
      · clear hcell
        go_wp2
        go_ret
        exact ⟨rfl, Nat.le_refl _, (Below.refl _ _).alloc (Nat.le_refl _) _, 0, h, by omega, Blk.new _ _ _⟩
    · have hkk : k = zs.length := by omega
      subst hkk
      clear hcell
      go_wp2
      go_ret
      exact ⟨rfl, Nat.le_refl _, (Below.refl _ _).alloc (Nat.le_refl _) _, 0, h, by omega, Blk.new _ _ _⟩

theorem drawn_of {W0 w w1 : World} {v : Value} {g : Nat} {n x : Int} (h0 : 0 ≤ x) (h1 : x < n) (hc : CurOk W0 v g w1) (hg : w.grownBy w1 (some g)) : Drawn W0 v g w n (.returned (.int .i64 x)) w1 := ⟨x, rfl, h0, h1, hc, hg⟩

theorem CurOk.set1 {W0 w : World} {v : Value} {g : Nat} (h : CurOk W0 v g w) {x : Int} (hx : 0 ≤ x) : CurOk W0 v g (w.setCell ⟨g, 1, none⟩ (.int .i64 x)) := by
  obtain ⟨hg, hbl, i, s, hi, hB⟩ := h
  exact ⟨hg, hbl.setCell (p := ⟨g, 1, none⟩) hg _, x, s, hx, hB.set_ 1 _⟩

theorem CurOk.set2 {W0 w : World} {v : Value} {g : Nat} (h : CurOk W0 v g w) (x : Int) : CurOk W0 v g (w.setCell ⟨g, 2, none⟩ (.int .i64 x)) := by
  obtain ⟨hg, hbl, i, s, hi, hB⟩ := h
  exact ⟨hg, hbl.setCell (p := ⟨g, 2, none⟩) hg _, i, x, hi, hB.set_ 2 _⟩

theorem CurOk.drewN {W0 w : World} {v : Value} {g : Nat} (h : CurOk W0 v g w) (n : Nat) : CurOk W0 v g (w.drewN n) := by
  obtain ⟨hg, hbl, i, s, hi, hB⟩ := h
  exact ⟨hg, below_drewN hbl n, i, s, hi, hB.drewN n⟩

set_option maxHeartbeats 1000000 in
set_option maxRecDepth 100000 in
theorem byte_any (W0 : World) (v : Value) (zs : List Int) (g : Nat) (w : World) (h : RB W0 v zs) (hle : zs.length ≤ 1048576) (hc : CurOk W0 v g w) :
    Calls Tryz.prog 105 #[.pointer (some ⟨g, 0, none⟩)] w (Drawn W0 v g w 256) := by
  have HC := Lib.hid hc
  obtain ⟨hg, hbl, i, s, hi, hB⟩ := hc
  obtain ⟨A, c, rfl, hcc, hm, hcell⟩ := h.form
  clear h hm
  have c0 := hB.cell 0
  have c1 := hB.cell 1
  have c2 := hB.cell 2
  have f0 := hB.frozen 0
  have f1 := hB.frozen 1
  have f2 := hB.frozen 2
  simp only [List.getElem?_toArray, List.getElem?_cons_succ, List.getElem?_cons_zero] at c0 c1 c2
  clear hB
  by_cases hlt : i < zs.length
  · obtain ⟨k, rfl⟩ := Int.eq_ofNat_of_zero_le hi
    obtain ⟨b, off, rfl, hb, hcl⟩ := hcell (by omega)
    obtain ⟨z, hz, hz0, hz1⟩ := hcl k (by omega)
    have hzw := (hbl.cell (p := ⟨b, off + k, none⟩) hb).trans hz
    have hne : ¬ b = g := by omega
    have hne2 : ¬ g = b := by omega
    clear hcl hcell hz hbl
    go_enter Tryz.func105, Tryz.ntmps105
    go_wp2
    go_quiet (fail)
    go_wp2
    go_quiet (fail)
    go_wp2
    go_quiet (fail)
    go_wp2
    go_ret
    exact drawn_of (and_255 _).1 (and_255 _).2 (((HC.out.set2 _).drewN _).set1 (by omega)) (grownBy_set (only_drewN (grownBy_set (World.grownBy.refl _ _) _ _) _) _ _)
  · clear hcell hbl
    go_enter Tryz.func105, Tryz.ntmps105
    go_wp2
    go_quiet (fail)
    go_wp2
    go_quiet (fail)
    go_wp2
    go_ret
    exact drawn_of (and_255 _).1 (and_255 _).2 (((HC.out.set2 _).drewN _).drewN _) (only_drewN (only_drewN (grownBy_set (World.grownBy.refl _ _) _ _) _) _)

theorem CurOk.size {W0 w : World} {v : Value} {g : Nat} (h : CurOk W0 v g w) : W0.heap.size ≤ w.heap.size := h.2.1.size

set_option maxHeartbeats 1000000 in
set_option maxRecDepth 100000 in
theorem below_any (W0 : World) (v : Value) (zs : List Int) (g : Nat) (n : Int) (w : World) (h : RB W0 v zs) (hle : zs.length ≤ 1048576) (hn : 0 < n) (hc : CurOk W0 v g w) :
    Calls Tryz.prog 79 #[.pointer (some ⟨g, 0, none⟩), .int .i64 n] w (Drawn W0 v g w n) := by
  by_cases h2 : n ≤ 256
  · go_enter Tryz.func79, Tryz.ntmps79
    go_wp2_with fail
    refine (byte_any W0 v zs g _ h hle hc).mono ?_
    rintro e w1 ⟨x, rfl, x0, x1, hc1, hg1⟩
    have hne : ¬ n = 0 := by omega
    go_wp2
    go_ret
    exact drawn_of (Int.emod_nonneg _ (by omega)) (Int.emod_lt_of_pos _ hn) hc1 hg1
  · go_enter Tryz.func79, Tryz.ntmps79
    go_wp2_with fail
    refine (byte_any W0 v zs g _ h hle hc).mono ?_
    rintro e w1 ⟨x, rfl, x0, x1, hc1, hg1⟩
    go_wp2_with fail
    refine (byte_any W0 v zs g _ h hle hc1).mono ?_
    rintro e w2 ⟨y, rfl, y0, y1, hc2, hg2⟩
    go_wp2_with fail
    refine (byte_any W0 v zs g _ h hle hc2).mono ?_
    rintro e w3 ⟨z, rfl, z0, z1, hc3, hg3⟩
    go_wp2_with fail
    refine (byte_any W0 v zs g _ h hle hc3).mono ?_
    rintro e w4 ⟨u, rfl, u0, u1, hc4, hg4⟩
    have hne : ¬ n = 0 := by omega
    go_wp2
    go_ret
    exact drawn_of (Int.emod_nonneg _ (by omega)) (Int.emod_lt_of_pos _ hn) hc4 (grownBy_trans (grownBy_trans (grownBy_trans hg1 hg2) hg3) hg4)

end Go.Proofs.YtognjdappchpkaaGreat

namespace Go.Proofs.YtognjdappchpkaaGreat
open Go.RowKit

def recipeB (a b c d : Int) : Bool := inB a 0 1000 && inB b 0 1000 && inB c 0 1000 && inB d 0 1000 && (a + b + c + d == 1000)

theorem recipeB_bd {a b c d : Int} (h : recipeB a b c d = true) : (0 ≤ a ∧ a ≤ 1000) ∧ (0 ≤ b ∧ b ≤ 1000) ∧ (0 ≤ c ∧ c ≤ 1000) ∧ (0 ≤ d ∧ d ≤ 1000) ∧ a + b + c + d = 1000 := by
  simp [recipeB, inB] at h; omega

def distB (a b c d a' b' c' d' : Int) : Int :=
  if recipeB a b c d && recipeB a' b' c' d' then ((a - a').natAbs : Int) + ((b - b').natAbs : Int) + ((c - c').natAbs : Int) + ((d - d').natAbs : Int) else -1









end Go.Proofs.YtognjdappchpkaaGreat

namespace Go.Proofs.YtognjdappchpkaaGreat
open Go.RowKit



theorem size_q (n : Int) (w : World) (h0 : -1000 ≤ n) (h1 : n ≤ 1000) :
    Calls Tryz.prog 72 #[.int .i64 n] w fun e w' => e = .returned (.int .i64 (n.natAbs : Int)) ∧ w' = w :=
  (size_any n w (by omega) (by omega)).mono fun _ _ ⟨h, h'⟩ => ⟨h, h'.symm⟩

theorem dist_no1 {a b c d a' b' c' d' : Int} (h : recipeB a b c d = false) : distB a b c d a' b' c' d' = -1 := by simp [distB, h]

theorem dist_no2 {a b c d a' b' c' d' : Int} (h : recipeB a' b' c' d' = false) : distB a b c d a' b' c' d' = -1 := by simp [distB, h]

theorem dist_yes {a b c d a' b' c' d' : Int} (h : recipeB a b c d = true) (h' : recipeB a' b' c' d' = true) :
    distB a b c d a' b' c' d' = ((a - a').natAbs : Int) + ((b - b').natAbs : Int) + ((c - c').natAbs : Int) + ((d - d').natAbs : Int) := by simp [distB, h, h']






theorem keepCell {w' w1 : World} (hb : Below w'.heap.size w' w1) {g o : Nat} {v : Value} (hg : g < w'.heap.size) (h : w'.cell? ⟨g, o, none⟩ = some v) : w1.cell? ⟨g, o, none⟩ = some v :=
  (hb.cell (p := ⟨g, o, none⟩) hg).trans h



end Go.Proofs.YtognjdappchpkaaGreat

namespace Go.Proofs.YtognjdappchpkaaGreat
open Go.RowKit

/-- A recipe. -/
structure Rc where
  s : Int
  a : Int
  l : Int
  m : Int

def Rc.v (r : Rc) : Value := .agg #[.int .i64 r.s, .int .i64 r.a, .int .i64 r.l, .int .i64 r.m]

def Rc.cs (r : Rc) : List Value := [.int .i64 r.s, .int .i64 r.a, .int .i64 r.l, .int .i64 r.m]

def Rc.ok (r : Rc) : Bool := recipeB r.s r.a r.l r.m

def Rc.dist (r t : Rc) : Int := distB r.s r.a r.l r.m t.s t.a t.l t.m

/-- v reads as the list of recipes. -/
def RR (w : World) (v : Value) (l : List Rc) : Prop := RS w 4 v l.length (l.flatMap Rc.cs)

theorem RR.below {w w' : World} {v : Value} {l : List Rc} (h : RR w v l) (hb : Below w.heap.size w w') : RR w' v l := RS.below h hb

theorem RR.form {w : World} {v : Value} {l : List Rc} (h : RR w v l) : ∃ A c, v = .slice A l.length c ∧ l.length ≤ c ∧ l.length ≤ maxLen ∧
    (0 < l.length → ∃ b off, A = some ⟨b, off, none⟩ ∧ b < w.heap.size ∧ ∀ k (hk : k < l.length), w.cell? ⟨b, off + k * 4, none⟩ = some (.int .i64 l[k].s) ∧ w.cell? ⟨b, off + k * 4 + 1, none⟩ = some (.int .i64 l[k].a) ∧
      w.cell? ⟨b, off + k * 4 + 2, none⟩ = some (.int .i64 l[k].l) ∧ w.cell? ⟨b, off + k * 4 + 3, none⟩ = some (.int .i64 l[k].m)) := by
  obtain ⟨_, A, c, hv, h1, h2, h3⟩ := h
  refine ⟨A, c, hv, h1, h2, fun hn => ?_⟩
  obtain ⟨b, off, hA, hlt, hc⟩ := h3 hn
  refine ⟨b, off, hA, hlt, fun k hk => ?_⟩
  have g := fun j hj => flat_get Rc.cs 4 (fun _ => rfl) l k j hk hj
  refine ⟨?_, ?_, ?_, ?_⟩
  · exact hc (k * 4 + 0) _ (by rw [g 0 (by omega)]; rfl)
  · have := hc (k * 4 + 1) _ (by rw [g 1 (by omega)]; rfl); rwa [← Nat.add_assoc] at this
  · have := hc (k * 4 + 2) _ (by rw [g 2 (by omega)]; rfl); rwa [← Nat.add_assoc] at this
  · have := hc (k * 4 + 3) _ (by rw [g 3 (by omega)]; rfl); rwa [← Nat.add_assoc] at this

def recipesB (l : List Rc) : Bool := l.all Rc.ok && decide (l.length ≤ 20)





end Go.Proofs.YtognjdappchpkaaGreat

namespace Go.Proofs.YtognjdappchpkaaGreat
open Go.RowKit







/-- The first k recipes are there, the rest is zero. -/
def fillR (l : List Rc) (k : Nat) : List Value := (l.take k).flatMap Rc.cs ++ List.replicate ((l.length - k) * 4) (.int .i64 0)

theorem fillR_length (l : List Rc) (k : Nat) (h : k ≤ l.length) : (fillR l k).length = l.length * 4 := by
  unfold fillR
  rw [List.length_append, flat_len Rc.cs 4 (fun _ => rfl), List.length_replicate, List.length_take, Nat.min_eq_left h, ← Nat.add_mul]
  congr 1; omega

theorem fillR_all (l : List Rc) : fillR l l.length = l.flatMap Rc.cs := by simp [fillR]

theorem fillR_get (l : List Rc) (k j : Nat) (h : k < l.length) (hj : j < 4) : (fillR l k)[k * 4 + j]? = some (.int .i64 0) := by
  unfold fillR
  have hl : ((l.take k).flatMap Rc.cs).length = k * 4 := by rw [flat_len Rc.cs 4 (fun _ => rfl), List.length_take, Nat.min_eq_left (by omega)]
  rw [List.getElem?_append_right (by omega), hl, Nat.add_sub_cancel_left, List.getElem?_replicate, if_pos]
  have : 1 * 4 ≤ (l.length - k) * 4 := Nat.mul_le_mul_right _ (by omega)
  omega

theorem fillR_succ (l : List Rc) (k : Nat) (h : k < l.length) :
    fillR l (k + 1) = (((((fillR l k).set (k * 4) (.int .i64 l[k].s)).set (k * 4 + 1) (.int .i64 l[k].a)).set (k * 4 + 2) (.int .i64 l[k].l)).set (k * 4 + 3) (.int .i64 l[k].m)) := by
  unfold fillR
  have hl : ((l.take k).flatMap Rc.cs).length = k * 4 := by rw [flat_len Rc.cs 4 (fun _ => rfl), List.length_take, Nat.min_eq_left (by omega)]
  have hr : (l.length - k) * 4 = (l.length - (k + 1)) * 4 + 1 + 1 + 1 + 1 := by
    have : l.length - k = (l.length - (k + 1)) + 1 := by omega
    rw [this, Nat.add_mul]
  rw [List.take_succ_eq_append_getElem h, List.flatMap_append, hr]
  have e0 : ∀ (x : List Value) (y : List Value) (n j : Nat) (u : Value), x.length = n → (x ++ y).set (n + j) u = x ++ y.set j u := by
    intro x y n j u hx
    rw [List.set_append, if_neg (by omega), hx, Nat.add_sub_cancel_left]
  rw [show k * 4 = k * 4 + 0 from rfl, e0 _ _ _ 0 _ hl, Nat.add_zero, e0 _ _ _ 1 _ hl, e0 _ _ _ 2 _ hl, e0 _ _ _ 3 _ hl]
  simp [List.replicate_succ, Rc.cs]

end Go.Proofs.YtognjdappchpkaaGreat

namespace Go.Proofs.YtognjdappchpkaaGreat
open Go.RowKit

/-- A drawn recipe. -/
def DrR (r : Rc) : Prop := 100 ≤ r.a ∧ r.a ≤ 210 ∧ 150 ≤ r.l ∧ r.l ≤ 220 ∧ 0 ≤ r.m ∧ r.m ≤ 19 ∧ r.s = 1000 - r.a - r.l - r.m

theorem CurOk.alloc {W0 w : World} {v : Value} {g : Nat} (h : CurOk W0 v g w) (o : Obj) : CurOk W0 v g (w.alloc o) := by
  obtain ⟨hg, hbl, i, s, hi, hB⟩ := h
  exact ⟨hg, hbl.alloc hbl.size o, i, s, hi, hB.alloc o⟩

theorem CurOk.lt {W0 w : World} {v : Value} {g : Nat} (h : CurOk W0 v g w) : g < w.heap.size := by
  obtain ⟨hg, hbl, i, s, hi, hB⟩ := h
  exact hB.lt

theorem CurOk.far {W0 w : World} {v : Value} {g : Nat} (h : CurOk W0 v g w) {p : Addr} (hp : g < p.block) (x : Value) : CurOk W0 v g (w.setCell p x) := by
  obtain ⟨hg, hbl, i, s, hi, hB⟩ := h
  exact ⟨hg, hbl.setCell (by omega) _, i, s, hi, hB.far (by omega) x⟩

def DrawnR (W0 : World) (v : Value) (g : Nat) (w : World) (e : Ending) (w' : World) : Prop :=
  ∃ s a l m : Int, e = .returned (.agg #[.int .i64 s, .int .i64 a, .int .i64 l, .int .i64 m]) ∧ DrR ⟨s, a, l, m⟩ ∧ CurOk W0 v g w' ∧ w.grownBy w' (some g)



end Go.Proofs.YtognjdappchpkaaGreat

namespace Go.Proofs.YtognjdappchpkaaGreat
open Go.RowKit

theorem CurOk.drew {W0 w : World} {v : Value} {g : Nat} (h : CurOk W0 v g w) : CurOk W0 v g w.drew := by
  obtain ⟨hg, hbl, i, s, hi, hB⟩ := h
  exact ⟨hg, hbl.drew, i, s, hi, hB.drew⟩

def DrawnRs (W0 : World) (e : Ending) (w' : World) : Prop :=
  ∃ r0 r1 r2 r3 s0 s1 s2 s3 t0 t1 t2 t3 : Int, e = .returned (.tuple #[.agg #[.int .i64 r0, .int .i64 r1, .int .i64 r2, .int .i64 r3], .agg #[.int .i64 s0, .int .i64 s1, .int .i64 s2, .int .i64 s3], .agg #[.int .i64 t0, .int .i64 t1, .int .i64 t2, .int .i64 t3]]) ∧
    DrR ⟨r0, r1, r2, r3⟩ ∧ DrR ⟨s0, s1, s2, s3⟩ ∧ DrR ⟨t0, t1, t2, t3⟩ ∧ Below W0.heap.size W0 w'

/-- A new cursor, its block a letter. -/
def NewCur (v : Value) (w : World) (e : Ending) (w' : World) : Prop := ∃ g : Nat, e = .returned (.pointer (some ⟨g, 0, none⟩)) ∧ CurOk w v g w'

theorem new_at (v : Value) (zs : List Int) (w : World) (h : RB w v zs) (hle : zs.length ≤ 1048576) :
    Calls Tryz.prog 51 #[v] w (NewCur v w) :=
  (new_any v zs w h hle).mono fun e w' ⟨he, hc⟩ => ⟨_, he, hc⟩

theorem Below.cur {W0 w : World} {v : Value} {g : Nat} (h : CurOk W0 v g w) : Below W0.heap.size W0 w := h.2.1



end Go.Proofs.YtognjdappchpkaaGreat

namespace Go.Proofs.YtognjdappchpkaaGreat
open Go.RowKit

attribute [local go_sem ↓] run_eqNode run_neNode run_mn2 run_mx2

set_option maxHeartbeats 1000000 in
theorem once_any (W0 : World) (v : Value) (zs : List Int) (g : Nat) (n : Int) (w : World) (h : RB W0 v zs) (hle : zs.length ≤ 1048576) (hn : 0 < n) (hc : CurOk W0 v g w) :
    Calls Tryz.prog 99 #[.pointer (some ⟨g, 0, none⟩), .int .i64 n] w fun e w' => ∃ b : Bool, e = .returned (.bool b) ∧ CurOk W0 v g w' ∧ w.grownBy w' (some g) := by
  go_enter Tryz.func99, Tryz.ntmps99
  go_wp2_with fail
  refine (below_any W0 v zs g n _ h hle hn hc).mono ?_
  rintro e w1 ⟨x, rfl, x0, x1, hc1, hg1⟩
  go_wp2
  go_ret
  exact ⟨_, rfl, hc1, hg1⟩

theorem only_far {a w : World} {row : Option Nat} (h : a.grownBy w row) {p : Addr} (hp : a.heap.size ≤ p.block) (u : Value) : a.grownBy (w.setCell p u) row :=
  ⟨h.os, h.tape, h.output, by simpa [World.setCell] using h.size, fun i hi hne => (Below.heap_setCell w p u i (fun e => by omega)).trans (h.block i hi hne)⟩

set_option maxHeartbeats 1000000 in
theorem node_any (W0 : World) (v : Value) (zs : List Int) (g : Nat) (w : World) (h : RB W0 v zs) (hle : zs.length ≤ 1048576) (hc : CurOk W0 v g w) :
    Calls Tryz.prog 103 #[.pointer (some ⟨g, 0, none⟩)] w fun e w' => ∃ x y : Int, e = .returned (.agg #[.int .i64 x, .int .i64 y]) ∧ CurOk W0 v g w' ∧ w.grownBy w' (some g) := by
  have hlt := hc.lt
  go_enter Tryz.func103, Tryz.ntmps103
  go_wp2_with fail
  refine (below_any W0 v zs g 13 _ h hle (by omega) (hc.alloc _)).mono ?_
  rintro e w1 ⟨x, rfl, x0, x1, hc1, hg1⟩
  go_wp2_with fail
  refine (below_any W0 v zs g 13 _ h hle (by omega) hc1).mono ?_
  rintro e w2 ⟨y, rfl, y0, y1, hc2, hg2⟩
  have hR : Blk w2 w.heap.size 78 #[.int .i64 0, .int .i64 0] := (((Blk.new w _ _).grown hg1 (by omega)).grown hg2 (by omega))
  (have r_0 := hR.cell 0); (have r_1 := hR.cell 1); simp only [List.getElem?_toArray, List.getElem?_cons_succ, List.getElem?_cons_zero] at r_0 r_1; (have r_f0 := hR.frozen 0); (have r_f1 := hR.frozen 1)
  have hl2 := hR.lt
  have HC := Lib.hid (((hc2.far (p := ⟨w.heap.size, 0, none⟩) hlt (.int .i64 x))).far (p := ⟨w.heap.size, 1, none⟩) hlt (.int .i64 y))
  have HG := Lib.hid (grownBy_trans (grownBy_trans (only_alloc (World.grownBy.refl w (some g)) (.cells #[.int .i64 0, .int .i64 0] 78)) hg1) hg2)
  clear hg1 hg2 hR
  go_wp2
  refine bodyPost_ret (v := .agg #[.int .i64 x, .int .i64 y]) (by simp [results, Tryz.results103, go_sem, r_0, r_1, hl2]) rfl ⟨_, _, rfl, HC.out, only_far (p := ⟨w.heap.size, 1, none⟩) (only_far (p := ⟨w.heap.size, 0, none⟩) HG.out (Nat.le_refl _) (.int .i64 x)) (Nat.le_refl _) (.int .i64 y)⟩

theorem win_dropL {ns ls : List Pr} (h : WinOk ns ls) (k : Int) : WinOk ns (dropL ns ls k) := by
  unfold dropL
  split
  · rename_i hk
    obtain ⟨_, m, rfl, hm⟩ := hasL_win hk
    have := win_drop h hm
    simpa using this
  · exact h

theorem win_addL {ns ls : List Pr} (h : WinOk ns ls) (a b : Int) : WinOk ns (addL ns ls a b) := by
  unfold addL
  split
  · rename_i hk
    unfold addB at hk
    rw [Bool.and_eq_true] at hk
    exact winB_true.1 hk.2
  · exact h

set_option maxHeartbeats 1000000 in
set_option maxRecDepth 100000 in
/-- A byte of the code. -/
theorem at_any (v : Value) (zs : List Int) (i : Int) (w : World) (h : RB w v zs) (hle : zs.length ≤ 1048576) (h0 : 0 ≤ i) (h1 : i ≤ 100) :
    Calls Tryz.prog 27 #[v, .int .i64 i] w fun e w' => ∃ x : Int, e = .returned (.int .i64 x) ∧ 0 ≤ x ∧ x ≤ 255 ∧ w = w' := by
  obtain ⟨A, c, rfl, hc, hm, hcell⟩ := h.form
  unfold maxLen at hm
  by_cases hz : zs.length = 0
  · have e1 : ((zs.length : Int) == 0) = true := by simp [hz]
    have e2 : (zs.length == 0) = true := by simp [hz]
    go_enter Tryz.func27, Tryz.ntmps27
    go_wp2
    go_ret
    exact ⟨0, rfl, by omega, by omega, rfl⟩
  · obtain ⟨b, off, rfl, hb, hcl⟩ := hcell (by omega)
    have e1 : ((zs.length : Int) == 0) = false := beq_eq_false_iff_ne.2 (by omega)
    have e2 : (zs.length == 0) = false := by simp [hz]
    have k0 : 0 ≤ (i * 5 + 1) % (zs.length : Int) := Int.emod_nonneg _ (by omega)
    have k1 : (i * 5 + 1) % (zs.length : Int) < (zs.length : Int) := Int.emod_lt_of_pos _ (by omega)
    obtain ⟨k, hk⟩ : ∃ k : Nat, (i * 5 + 1) % (zs.length : Int) = (k : Int) := ⟨((i * 5 + 1) % (zs.length : Int)).toNat, (Int.toNat_of_nonneg k0).symm⟩
    rw [hk] at k1
    have hkl : k < zs.length := by omega
    clear k0
    obtain ⟨z, q0, z0, z1⟩ := hcl k hkl
    have i0 : (0 : Int) ≤ (k : Int) := by omega
    have i1 : (k : Int) < (zs.length : Int) := by omega
    clear hcl hcell
    go_enter Tryz.func27, Tryz.ntmps27
    go_wp2
    go_ret
    exact ⟨z, rfl, z0, z1, rfl⟩

end Go.Proofs.YtognjdappchpkaaGreat

namespace Go.Proofs.YtognjdappchpkaaGreat
open Go.RowKit

attribute [local go_sem ↓] run_eqNode run_neNode run_mn2 run_mx2

theorem CurOk.below {W0 w w' : World} {v : Value} {g : Nat} (h : CurOk W0 v g w) (hb : Below w.heap.size w w') : CurOk W0 v g w' := by
  obtain ⟨hg, hbl, i, s, hi, hB⟩ := h
  exact ⟨hg, hbl.trans (hb.mono hbl.size), i, s, hi, hB.below hb hB.lt⟩

theorem grown_below {a w w' : World} {row : Option Nat} (h : a.grownBy w row) (hb : Below w.heap.size w w') : a.grownBy w' row :=
  grownBy_trans h ⟨hb.os, hb.tape, hb.output, hb.size, fun i hi _ => hb.block i hi⟩

/-- A window under way: in a box of its own, the cursor beside it. -/
structure WSt (W0 : World) (v : Value) (g : Nat) (w : World) (X : Nat) (wr : World) (An : Option Addr) (cn : Nat) (Al : Option Addr) (cl : Nat) (ns ls : List Pr) : Prop where
  win : WinOk ns ls
  own : OwnW (w.heap.size + 1) wr (.slice An ns.length cn) (.slice Al ls.length cl) ns ls
  box : Blk wr X 34 #[.slice An ns.length cn, .slice Al ls.length cl]
  res : Blk wr w.heap.size 34 #[.slice none 0 0, .slice none 0 0]
  ne : ∀ b, blksW (.slice An ns.length cn) (.slice Al ls.length cl) b → ¬ b = X
  cur : CurOk W0 v g wr
  gr : w.grownBy wr (some g)
  hX : w.heap.size < X
  hg : g < w.heap.size

section
variable {W0 : World} {v : Value} {g : Nat} {w : World} {X : Nat} {wr w' : World} {An : Option Addr} {cn : Nat} {Al : Option Addr} {cl : Nat} {ns ls : List Pr}

theorem WSt.drawn (h : WSt W0 v g w X wr An cn Al cl ns ls) (hc : CurOk W0 v g w') (hg : wr.grownBy w' (some g)) : WSt W0 v g w X w' An cn Al cl ns ls :=
  ⟨h.win, h.own.far hg (fun k hk => by cases hk; have := h.hg; omega), h.box.grown hg (by have := h.hg; have := h.hX; omega), h.res.grown hg (by have := h.hg; omega), h.ne, hc, grownBy_trans h.gr hg, h.hX, h.hg⟩

theorem WSt.below (h : WSt W0 v g w X wr An cn Al cl ns ls) (hb : Below wr.heap.size wr w') : WSt W0 v g w X w' An cn Al cl ns ls :=
  ⟨h.win, h.own.kept hb, h.box.below hb h.box.lt, h.res.below hb h.res.lt, h.ne, h.cur.below hb, grown_below h.gr hb, h.hX, h.hg⟩

theorem WSt.alloc (h : WSt W0 v g w X wr An cn Al cl ns ls) (o : Obj) : WSt W0 v g w X (wr.alloc o) An cn Al cl ns ls :=
  h.below (Below.alloc (Below.refl _ _) (Nat.le_refl _) o)

theorem WSt.drew (h : WSt W0 v g w X wr An cn Al cl ns ls) : WSt W0 v g w X wr.drew An cn Al cl ns ls := h.below (Below.drew (Below.refl _ _))

theorem WSt.row (h : WSt W0 v g w X wr An cn Al cl ns ls) {row : Option Nat} (hg : wr.grownBy w' row) (hr : ∀ k, row = some k → X < k ∧ ¬ blksW (.slice An ns.length cn) (.slice Al ls.length cl) k) : WSt W0 v g w X w' An cn Al cl ns ls := by
  have hX := h.hX
  have hgw := h.hg
  obtain ⟨hg0, hbl, i, s, hi, hB⟩ := h.cur
  have hs := h.gr.size
  refine ⟨h.win, h.own.apart hg (fun k hk e => (hr k e).2 hk), Blk.grownR h.box hg (fun k e => by have := (hr k e).1; omega), Blk.grownR h.res hg (fun k e => by have := (hr k e).1; omega), h.ne,
    ⟨hg0, hbl.grown hg hbl.size (fun k e => by have := (hr k e).1; omega), i, s, hi, Blk.grownR hB hg (fun k e => by have := (hr k e).1; omega)⟩,
    ⟨hg.os.trans h.gr.os, hg.tape.trans h.gr.tape, hg.output.trans h.gr.output, Nat.le_trans hs hg.size, fun i hi hne => (hg.block i (by omega) (fun e => by have := (hr i e.symm).1; omega)).trans (h.gr.block i hi hne)⟩, hX, hgw⟩

theorem WSt.put (h : WSt W0 v g w X wr An cn Al cl ns ls) {An' : Option Addr} {cn' : Nat} {Al' : Option Addr} {cl' n m base : Nat} {ns' ls' : List Pr} (hw : WinOk ns' ls') (hn : n = ns'.length) (hm : m = ls'.length)
    (ho : OwnW base wr (.slice An' n cn') (.slice Al' m cl') ns' ls') (hb : X < base) :
    WSt W0 v g w X ((wr.setCell ⟨X, 0, none⟩ (.slice An' n cn')).setCell ⟨X, 1, none⟩ (.slice Al' m cl')) An' cn' Al' cl' ns' ls' := by
  subst hn hm
  have hX := h.hX
  have hg := h.hg
  have hlt := ho.lt
  have hne : ∀ b, blksW (.slice An' ns'.length cn') (.slice Al' ls'.length cl') b → ¬ b = X := fun b hb' e => by have := (hlt b hb').1; omega
  have ho' := ho.mono (show w.heap.size + 1 ≤ base by omega)
  refine ⟨hw, (ho'.setFar (p := ⟨X, 0, none⟩) (fun k => hne _ k rfl) _).setFar (p := ⟨X, 1, none⟩) (fun k => hne _ k rfl) _, (h.box.set_ 0 _).set_ 1 _,
    (h.res.far (p := ⟨X, 0, none⟩) (by show w.heap.size ≠ X; omega) _).far (p := ⟨X, 1, none⟩) (by show w.heap.size ≠ X; omega) _, hne,
    (h.cur.far (p := ⟨X, 0, none⟩) (by show g < X; omega) _).far (p := ⟨X, 1, none⟩) (by show g < X; omega) _,
    only_far (p := ⟨X, 1, none⟩) (only_far (p := ⟨X, 0, none⟩) h.gr (by show w.heap.size ≤ X; omega) _) (by show w.heap.size ≤ X; omega) _, h.hX, h.hg⟩
end

def DrawnW (W0 : World) (v : Value) (g : Nat) (w : World) (e : Ending) (w' : World) : Prop :=
  ∃ ns ls An cn Al cl, e = .returned (.agg #[.slice An ns.length cn, .slice Al ls.length cl]) ∧ WinOk ns ls ∧ OwnW (w.heap.size + 1) w' (.slice An ns.length cn) (.slice Al ls.length cl) ns ls ∧ CurOk W0 v g w' ∧ w.grownBy w' (some g)

set_option maxHeartbeats 8000000 in
set_option maxRecDepth 100000 in
theorem drawWindow_any (W0 : World) (v : Value) (zs : List Int) (g : Nat) (w : World) (h : RB W0 v zs) (hle : zs.length ≤ 1048576) (hc : CurOk W0 v g w) :
    Calls Tryz.prog 77 #[.pointer (some ⟨g, 0, none⟩)] w (DrawnW W0 v g w) := by
  have hgl := hc.lt
  obtain ⟨i0, hi, iz0, iz1, iz2⟩ := info_parts infoNode
  have HC := Lib.hid hc
  have HRB := Lib.hid h
  clear h hc
  go_enter Tryz.func77, Tryz.ntmps77
  go_wp2_with fail
  refine (below_any W0 v zs g 5 _ HRB.out hle (by omega) (HC.out.alloc _)).mono ?_
  rintro e w1 ⟨x, rfl, x0, x1, hc1, hg1⟩
  have hz1 := hg1.size
  simp at hz1
  have hR1 : Blk w1 w.heap.size 34 #[.slice none 0 0, .slice none 0 0] := (Blk.new w _ _).grown hg1 (by omega)
  have hG1 := grownBy_trans (only_alloc (World.grownBy.refl w (some g)) (.cells #[.slice none 0 0, .slice none 0 0] 34)) hg1
  clear hg1
  go_wp2_with fail
  refine (sShape_any x _).mono ?_
  rintro e w2 ⟨An, cn, Al, cl, rfl, ho2, hb2⟩
  have hz2 := hb2.size
  have hlt2 := ho2.lt
  have hwn := winB_true.1 (shape_ok x)
  have hR2 := hR1.below hb2 hR1.lt
  have hC2 := hc1.below hb2
  have hG2 := grown_below hG1 hb2
  generalize shapeN x = ns at *
  generalize shapeL x = ls at *
  have HST : Hid (WSt W0 v g w w2.heap.size (w2.alloc (.cells #[.slice An ns.length cn, .slice Al ls.length cl] 34)) An cn Al cl ns ls) := Lib.hid
    ⟨hwn, (ho2.mono (by omega)).alloc _, Blk.newAt rfl, hR2.alloc _, fun b hb e => by have := (hlt2 b hb).2; omega, hC2.alloc _, only_alloc hG2 _, by omega, hgl⟩
  clear hwn hR2 hC2 hG2 hR1 hc1 hG1 hb2 ho2 hlt2
  go_wp2_with fail
  refine (below_any W0 v zs g 4 _ HRB.out hle (by omega) HST.out.cur).mono ?_
  rintro e w3 ⟨k, rfl, k0, k1, hc3, hg3⟩
  have hst := HST.out.drawn hc3 hg3
  clear HST hc3 hg3
  obtain ⟨X, hX⟩ : ∃ X, X = w2.heap.size := ⟨_, rfl⟩
  rw [← hX] at hst ⊢
  clear hX
  obtain ⟨kn, rfl⟩ : ∃ kn : Nat, k = (kn : Int) := ⟨k.toNat, by omega⟩
  go_wp2
  go_loopw [4] (fun i wr => ∃ (kn : Nat) (An : Option Addr) (cn : Nat) (Al : Option Addr) (cl : Nat) (ns ls : List Pr), i = .int .i64 kn ∧ kn ≤ 4 ∧ WSt W0 v g w X wr An cn Al cl ns ls) (fun i _ => (intOf i).toNat)
  case atStart => exact ⟨kn, An, cn, Al, cl, ns, ls, rfl, by omega, hst⟩
  case round =>
    clear hst
    obtain ⟨kn, An, cn, Al, cl, ns, ls, rfl, hk4, hst⟩ := hrel
    have HST := Lib.hid hst
    clear hst
    by_cases hk0 : kn = 0
    · subst hk0
      have hw12 := HST.out.win.2.1
      have hw1 := HST.out.win.1
      have hw20 := HST.out.win.2.2.1
      go_wp2_with fail
      refine (once_any W0 v zs g 4 _ HRB.out hle (by omega) HST.out.cur).mono ?_
      rintro e w4 ⟨bb, rfl, hc4, hg4⟩
      have HST4 := Lib.hid (HST.out.drawn hc4 hg4)
      clear HST hc4 hg4
      cases bb
      · -- as it is
        have hbxq := HST4.out.box
        have hrsq := HST4.out.res
        (have x_0 := hbxq.cell 0); (have x_1 := hbxq.cell 1); simp only [List.getElem?_toArray, List.getElem?_cons_succ, List.getElem?_cons_zero] at x_0 x_1; (have x_f0 := hbxq.frozen 0); (have x_f1 := hbxq.frozen 1)
        (have r_0 := hrsq.cell 0); (have r_1 := hrsq.cell 1); simp only [List.getElem?_toArray, List.getElem?_cons_succ, List.getElem?_cons_zero] at r_0 r_1; (have r_f0 := hrsq.frozen 0); (have r_f1 := hrsq.frozen 1)
        have hneq : ¬ X = w.heap.size := by have := HST4.out.hX; omega
        have hXlq : X < _ := hbxq.lt
        have hRlq : w.heap.size < _ := hrsq.lt
        have HO := Lib.hid ((HST4.out.own.setLow (p := ⟨w.heap.size, 0, none⟩) (show w.heap.size < w.heap.size + 1 by omega) (.slice An ns.length cn)).setLow (p := ⟨w.heap.size, 1, none⟩) (show w.heap.size < w.heap.size + 1 by omega) (.slice Al ls.length cl))
        have HCC := Lib.hid ((HST4.out.cur.far (p := ⟨w.heap.size, 0, none⟩) HST4.out.hg (.slice An ns.length cn)).far (p := ⟨w.heap.size, 1, none⟩) HST4.out.hg (.slice Al ls.length cl))
        have HG := Lib.hid (only_far (p := ⟨w.heap.size, 1, none⟩) (only_far (p := ⟨w.heap.size, 0, none⟩) HST4.out.gr (Nat.le_refl _) (.slice An ns.length cn)) (Nat.le_refl _) (.slice Al ls.length cl))
        have HW := Lib.hid HST4.out.win
        clear hbxq hrsq
        go_wp2
        exact bodyPost_ret (v := .agg #[(.slice An ns.length cn), (.slice Al ls.length cl)]) (by simp [results, Tryz.results77, go_sem, r_0, r_1, x_0, x_1]) rfl ⟨ns, ls, An, cn, Al, cl, rfl, HW.out, HO.out, HCC.out, HG.out⟩
      · have hbx := HST4.out.box
        have hXl := hbx.lt
        have hXw := HST4.out.hX
        have hgw := HST4.out.hg
        have hltX := HST4.out.own.lt
        (have x_0 := hbx.cell 0); (have x_1 := hbx.cell 1); simp only [List.getElem?_toArray, List.getElem?_cons_succ, List.getElem?_cons_zero] at x_0 x_1
        go_wp2_with fail
        refine (sCopy_any _ _ ns ls _ HST4.out.own.1.reads HST4.out.own.2.1.reads (by omega) (by omega)).mono ?_
        rintro e w5 ⟨An5, cn5, Al5, cl5, rfl, ho5, hb5⟩
        have hz5 := hb5.size
        have hlt5 := ho5.lt
        have HST5 := Lib.hid ((HST4.out.below hb5).alloc (.cells #[.slice An5 ns.length cn5, .slice Al5 ls.length cl5] 34))
        have HY5 : Hid (Blk (w5.alloc (.cells #[.slice An5 ns.length cn5, .slice Al5 ls.length cl5] 34)) w5.heap.size 34 #[.slice An5 ns.length cn5, .slice Al5 ls.length cl5]) := Lib.hid (Blk.newAt rfl)
        have HO5 := Lib.hid (ho5.alloc (.cells #[.slice An5 ns.length cn5, .slice Al5 ls.length cl5] 34))
        clear ho5 hb5 HST4 hbx x_0 x_1
        go_wp2_with fail
        obtain ⟨v5, hv5⟩ : ∃ v5, v5 = w5.alloc (.cells #[.slice An5 ns.length cn5, .slice Al5 ls.length cl5] 34) := ⟨_, rfl⟩
        have hs5 : v5.heap.size = w5.heap.size + 1 := by rw [hv5]; simp
        rw [← hv5] at HST5 HY5 HO5 ⊢
        clear hv5
        obtain ⟨Y, hY⟩ : ∃ Y, Y = w5.heap.size := ⟨_, rfl⟩
        rw [← hY] at HY5 hs5 ⊢
        have hY4 : w4.heap.size ≤ Y := by omega
        have hltY : ∀ b, blksW (.slice An5 ns.length cn5) (.slice Al5 ls.length cl5) b → w4.heap.size ≤ b ∧ b < Y := fun b hb => by have := hlt5 b hb; omega
        clear hlt5 hY hz5
        have hY0 := HY5.out.cell 0
        have hY1 := HY5.out.cell 1
        refine region_D (n := 7) (S := fun w' => w'.cell? ⟨Y, 0, none⟩ = some (.slice An5 ns.length cn5)) (by kernel_rfl) hY0 (fun hS => ?_)
        (refine D_take (i := 0) (v := ?_) rfl rfl (by kernel_rfl) (by kernel_rfl) (by kernel_rfl) (by kernel_rfl) (fun _ _ _ h => h) (Or.inl ⟨by rfl, ?_⟩) (by assumption) ?_); rotate_left; (focus (intro w' hSw; (try dsimp only at hSw); go_simp; (try with_reducible rfl))); (try simp only [Act.put, List.setIfInBounds_toArray, List.set_cons_zero, List.set_cons_succ])
        (refine D_take (i := 1) (v := ?_) rfl rfl (by kernel_rfl) (by kernel_rfl) (by kernel_rfl) (by kernel_rfl) (fun _ _ _ h => h) (Or.inl ⟨by rfl, ?_⟩) (by assumption) ?_); rotate_left; (focus (intro w' hSw; (try dsimp only at hSw); go_simp; (try with_reducible rfl))); (try simp only [Act.put, List.setIfInBounds_toArray, List.set_cons_zero, List.set_cons_succ])
        (refine D_take (i := 2) (v := ?_) rfl rfl (by kernel_rfl) (by kernel_rfl) (by kernel_rfl) (by kernel_rfl) (fun _ _ _ h => h) (Or.inl ⟨by rfl, ?_⟩) (by assumption) ?_); rotate_left; (focus (intro w' hSw; (try dsimp only at hSw); go_simp; (try with_reducible rfl))); (try simp only [Act.put, List.setIfInBounds_toArray, List.set_cons_zero, List.set_cons_succ])
        (refine D_step (i := 3) rfl (by kernel_rfl) (fun K hK => ?_)); (rw [if_pos (by rfl)])
        go_simp
        go_at_call 103
        refine (node_any W0 v zs g _ HRB.out hle HST5.out.drew.cur).mono ?_
        rintro e w6 ⟨nx, ny, rfl, hc6, hg6⟩
        have hz6 := hg6.size
        simp at hz6
        have HST6 := Lib.hid (HST5.out.drew.drawn hc6 hg6)
        have HY6 := Lib.hid (HY5.out.drew.grown hg6 (by omega))
        have HO6 := Lib.hid (OwnW.far (w := v5.drew) HO5.out hg6 (fun k hk => by cases hk; omega))
        clear hc6 hg6 HST5 HY5 HO5 hY0 hY1
        go_wp2_with fail
        refine hK _ _ (fun _ => HY6.out.cell 0) (fun hS' => ?_)
        clear hK K hS hS'
        (try simp only [Act.put, List.setIfInBounds_toArray, List.set_cons_zero, List.set_cons_succ])
        (refine D_step (i := 4) rfl (by kernel_rfl) (fun K hK => ?_)); (rw [if_pos (by rfl)])
        go_simp
        refine hK _ _ (fun _ => (HY6.out.alloc _).cell 0) (fun hS' => ?_)
        clear hK K hS'
        (try simp only [Act.put, List.setIfInBounds_toArray, List.set_cons_zero, List.set_cons_succ])
        (refine D_step (i := 5) rfl (by kernel_rfl) (fun K hK => ?_))
        have hw6l : Y < w6.heap.size := by omega
        refine step_append_pairs rfl _ _ _ rfl w4.heap.size 78 i0 Tryz.underlying31 hi iz0 iz1 iz2 (.slice An5 ns.length cn5) _ ns [(nx, ny)] rfl rfl (HO6.out.1.alloc _) (RP_lit (by simp) rfl rfl rfl (by simp [maxLen])) (by simp; omega) (by simp; omega) ?_
        intro A7 c7 w7 ho7 hg7 ha7
        have hz7 := hg7.size
        simp at hz7
        rw [show (ns ++ [(nx, ny)]).length = ns.length + 1 by simp] at ho7 ha7
        obtain ⟨N7, hN7⟩ : ∃ N7, N7 = ns ++ [(nx, ny)] := ⟨_, rfl⟩
        have hlN : N7.length = ns.length + 1 := by rw [hN7]; simp
        rw [← hN7] at ho7
        clear hN7
        have HLN := Lib.hid hlN
        clear hlN
        have HST7 := Lib.hid ((HST6.out.alloc (.cells #[.int .i64 nx, .int .i64 ny] 78)).row hg7 (fun k hk => ⟨by have := (hltY k (.inl hk)).1; omega, fun hb => by have := (hltY k (.inl hk)).1; have := (hltX k hb).2; omega⟩))
        have HY7 := Lib.hid (Blk.grownR (HY6.out.alloc (.cells #[.int .i64 nx, .int .i64 ny] 78)) hg7 (fun k hk => by have := (hltY k (.inl hk)).2; omega))
        have HL7 := Lib.hid ((HO6.out.2.1.alloc (.cells #[.int .i64 nx, .int .i64 ny] 78)).apart hg7 (fun k hk hk2 => HO6.out.2.2 k hk2 hk))
        have hd7 : ∀ k, (Value.slice A7 (ns.length + 1) c7).ownBlock = some k → (Value.slice Al5 ls.length cl5).ownBlock = some k → False := fun k hk hk2 => by
          have hlt := hltY k (.inr hk2)
          rcases ha7 with ha | ha
          · exact HO6.out.2.2 k (ha.symm.trans hk) hk2
          · rw [ha] at hk; cases hk; simp at hlt; omega
        have hY7 : ∀ k, blksW (.slice A7 (ns.length + 1) c7) (.slice Al5 ls.length cl5) k → ¬ k = Y := by
          rintro k (hk | hk) e
          · rcases ha7 with ha | ha
            · have := (hltY k (.inl (ha.symm.trans hk))).2; omega
            · rw [ha] at hk; cases hk; simp at e; omega
          · have := (hltY k (.inr hk)).2; omega
        have HO7 : Hid (OwnW w4.heap.size w7 (.slice A7 (ns.length + 1) c7) (.slice Al5 ls.length cl5) N7 ls) := Lib.hid ⟨ho7, HL7.out, hd7⟩
        clear hg7 ha7 ho7 HL7 hd7 HST6 HY6 HO6
        refine hK _ _ (fun _ => HY7.out.cell 0) (fun hS' => ?_)
        have hS7 := hS' (by decide)
        clear hK K hS'
        (try simp only [Act.put, List.setIfInBounds_toArray, List.set_cons_zero, List.set_cons_succ])
        (refine D_take (i := 6) (v := ?_) rfl rfl (by kernel_rfl) (by kernel_rfl) (by kernel_rfl) (by kernel_rfl) (fun _ _ _ h => h) (Or.inl ⟨by rfl, ?_⟩) (by assumption) ?_); rotate_left; (focus (intro w' hSw; (try dsimp only at hSw); go_simp; (try with_reducible rfl))); (try simp only [Act.put, List.setIfInBounds_toArray, List.set_cons_zero, List.set_cons_succ])
        clear hS7
        have hby := HY7.out
        (have y_0 := hby.cell 0); (have y_1 := hby.cell 1); simp only [List.getElem?_toArray, List.getElem?_cons_succ, List.getElem?_cons_zero] at y_0 y_1; (have y_f0 := hby.frozen 0); (have y_f1 := hby.frozen 1)
        (refine D_step (i := 7) rfl (by kernel_rfl) (fun K hK => ?_)); (rw [if_pos (by rfl)])
        go_simp
        have HST8 := Lib.hid (HST7.out.row (set_grown w7 ⟨Y, 0, none⟩ (.slice A7 (ns.length + 1) c7)) (fun k hk => by
          have hk' : Y = k := Option.some.inj hk
          subst hk'
          exact ⟨by omega, fun hb => by have := (hltX _ hb).2; omega⟩))
        have HY8 : Hid (Blk (w7.setCell ⟨Y, 0, none⟩ (.slice A7 (ns.length + 1) c7)) Y 34 #[.slice A7 (ns.length + 1) c7, .slice Al5 ls.length cl5]) := Lib.hid (HY7.out.set_ 0 _)
        have HO8 := Lib.hid (HO7.out.setFar (p := ⟨Y, 0, none⟩) (fun hb => hY7 _ hb rfl) (.slice A7 (ns.length + 1) c7))
        clear HST7 HY7 HO7 hby
        refine hK _ _ (fun h => absurd rfl h) (fun _ => ?_)
        clear hK K
        (try simp only [Act.put, List.setIfInBounds_toArray, List.set_cons_zero, List.set_cons_succ])
        refine D_done (by kernel_rfl) ?_ _
        obtain ⟨w8, hw8⟩ : ∃ w8, w8 = w7.setCell ⟨Y, 0, none⟩ (.slice A7 (ns.length + 1) c7) := ⟨_, rfl⟩
        rw [← hw8] at HST8 HY8 HO8 ⊢
        clear hw8 y_0 y_1 y_f0 y_f1
        obtain ⟨bw, hbw⟩ : ∃ bw, winB N7 ls = bw := ⟨_, rfl⟩
        have HBW := Lib.hid hbw
        clear hbw
        have hby := HY8.out
        (have y_0 := hby.cell 0); (have y_1 := hby.cell 1); simp only [List.getElem?_toArray, List.getElem?_cons_succ, List.getElem?_cons_zero] at y_0 y_1
        have hYl : Y < w8.heap.size := hby.lt
        go_wp2_with fail
        refine (sWinOk_at _ _ N7 ls bw _ HO8.out.1.reads HO8.out.2.1.reads HBW.out).mono ?_
        rintro e w9 ⟨rfl, hb9⟩
        have HST9 := Lib.hid (HST8.out.below hb9)
        have HY9 := Lib.hid (hby.below hb9 hYl)
        have HO9 := Lib.hid (HO8.out.kept hb9)
        clear hb9 HST8 HY8 HO8 hby y_0 y_1 hYl
        cases bw
        · -- it is not taken
          have hbxq := HST9.out.box
          have hrsq := HST9.out.res
          (have x_0 := hbxq.cell 0); (have x_1 := hbxq.cell 1); simp only [List.getElem?_toArray, List.getElem?_cons_succ, List.getElem?_cons_zero] at x_0 x_1; (have x_f0 := hbxq.frozen 0); (have x_f1 := hbxq.frozen 1)
          (have r_0 := hrsq.cell 0); (have r_1 := hrsq.cell 1); simp only [List.getElem?_toArray, List.getElem?_cons_succ, List.getElem?_cons_zero] at r_0 r_1; (have r_f0 := hrsq.frozen 0); (have r_f1 := hrsq.frozen 1)
          have hneq : ¬ X = w.heap.size := by have := HST9.out.hX; omega
          have hXlq : X < _ := hbxq.lt
          have hRlq : w.heap.size < _ := hrsq.lt
          have HO := Lib.hid ((HST9.out.own.setLow (p := ⟨w.heap.size, 0, none⟩) (show w.heap.size < w.heap.size + 1 by omega) (.slice An ns.length cn)).setLow (p := ⟨w.heap.size, 1, none⟩) (show w.heap.size < w.heap.size + 1 by omega) (.slice Al ls.length cl))
          have HCC := Lib.hid ((HST9.out.cur.far (p := ⟨w.heap.size, 0, none⟩) HST9.out.hg (.slice An ns.length cn)).far (p := ⟨w.heap.size, 1, none⟩) HST9.out.hg (.slice Al ls.length cl))
          have HG := Lib.hid (only_far (p := ⟨w.heap.size, 1, none⟩) (only_far (p := ⟨w.heap.size, 0, none⟩) HST9.out.gr (Nat.le_refl _) (.slice An ns.length cn)) (Nat.le_refl _) (.slice Al ls.length cl))
          have HW := Lib.hid HST9.out.win
          clear hbxq hrsq
          go_wp2
          exact bodyPost_ret (v := .agg #[(.slice An ns.length cn), (.slice Al ls.length cl)]) (by simp [results, Tryz.results77, go_sem, r_0, r_1, x_0, x_1]) rfl ⟨ns, ls, An, cn, Al, cl, rfl, HW.out, HO.out, HCC.out, HG.out⟩
        · have hby := HY9.out
          (have y_0 := hby.cell 0); (have y_1 := hby.cell 1); simp only [List.getElem?_toArray, List.getElem?_cons_succ, List.getElem?_cons_zero] at y_0 y_1
          have hYl : Y < w9.heap.size := hby.lt
          have hbx := HST9.out.box
          (have x_0 := hbx.cell 0); (have x_1 := hbx.cell 1); simp only [List.getElem?_toArray, List.getElem?_cons_succ, List.getElem?_cons_zero] at x_0 x_1; (have x_f0 := hbx.frozen 0); (have x_f1 := hbx.frozen 1)
          have hXl9 : X < w9.heap.size := hbx.lt
          have hnp : (0 : Int) < (ns.length : Int) := by omega
          have hYg : ¬ Y = g := by omega
          go_wp2_with fail
          have hS0 : w9.drew.cell? ⟨X, 0, none⟩ = some (.slice An ns.length cn) ∧ w9.drew.cell? ⟨Y, 0, none⟩ = some (.slice A7 (ns.length + 1) c7) ∧ w9.drew.cell? ⟨Y, 1, none⟩ = some (.slice Al5 ls.length cl5) := ⟨x_0, y_0, y_1⟩
          refine region_E (n := 13) (S := fun w' => w'.cell? ⟨X, 0, none⟩ = some (.slice An ns.length cn) ∧ w'.cell? ⟨Y, 0, none⟩ = some (.slice A7 (ns.length + 1) c7) ∧ w'.cell? ⟨Y, 1, none⟩ = some (.slice Al5 ls.length cl5)) (by kernel_rfl) hS0 (fun hS => ?_)
          (refine E_take (i := 0) (v := ?_) rfl rfl (by kernel_rfl) (by kernel_rfl) (by kernel_rfl) (by kernel_rfl) (by kernel_rfl) (fun _ _ _ h => h) (Or.inl ⟨by rfl, ?_⟩) (by assumption) ?_); rotate_left; (focus (intro w' hSw; (try dsimp only at hSw); go_simp; (try with_reducible rfl))); (try simp only [Act.put, List.setIfInBounds_toArray, List.set_cons_zero, List.set_cons_succ])
          (refine E_take (i := 1) (v := ?_) rfl rfl (by kernel_rfl) (by kernel_rfl) (by kernel_rfl) (by kernel_rfl) (by kernel_rfl) (fun _ _ _ h => h) (Or.inl ⟨by rfl, ?_⟩) (by assumption) ?_); rotate_left; (focus (intro w' hSw; (try dsimp only at hSw); go_simp; (try with_reducible rfl))); (try simp only [Act.put, List.setIfInBounds_toArray, List.set_cons_zero, List.set_cons_succ])
          (refine E_take (i := 2) (v := ?_) rfl rfl (by kernel_rfl) (by kernel_rfl) (by kernel_rfl) (by kernel_rfl) (by kernel_rfl) (fun _ _ _ h => h) (Or.inl ⟨by rfl, ?_⟩) (by assumption) ?_); rotate_left; (focus (intro w' hSw; (try dsimp only at hSw); go_simp; (try with_reducible rfl))); (try simp only [Act.put, List.setIfInBounds_toArray, List.set_cons_zero, List.set_cons_succ])
          (refine E_take (i := 3) (v := ?_) rfl rfl (by kernel_rfl) (by kernel_rfl) (by kernel_rfl) (by kernel_rfl) (by kernel_rfl) (fun _ _ _ h => h) (Or.inl ⟨by rfl, ?_⟩) (by assumption) ?_); rotate_left; (focus (intro w' hSw; (try dsimp only at hSw); go_simp; (try with_reducible rfl))); (try simp only [Act.put, List.setIfInBounds_toArray, List.set_cons_zero, List.set_cons_succ])
          (refine E_take (i := 4) (v := ?_) rfl rfl (by kernel_rfl) (by kernel_rfl) (by kernel_rfl) (by kernel_rfl) (by kernel_rfl) (fun _ _ _ h => h) (Or.inl ⟨by rfl, ?_⟩) (by assumption) ?_); rotate_left; (focus (intro w' hSw; (try dsimp only at hSw); go_simp; (try with_reducible rfl))); (try simp only [Act.put, List.setIfInBounds_toArray, List.set_cons_zero, List.set_cons_succ])
          (refine E_take (i := 6) (v := ?_) rfl rfl (by kernel_rfl) (by kernel_rfl) (by kernel_rfl) (by kernel_rfl) (by kernel_rfl) (fun _ _ _ h => h) (Or.inl ⟨by rfl, ?_⟩) (by assumption) ?_); rotate_left; (focus (intro w' hSw; (try dsimp only at hSw); go_simp; (try with_reducible rfl))); (try simp only [Act.put, List.setIfInBounds_toArray, List.set_cons_zero, List.set_cons_succ])
          (refine E_take (i := 7) (v := ?_) rfl rfl (by kernel_rfl) (by kernel_rfl) (by kernel_rfl) (by kernel_rfl) (by kernel_rfl) (fun _ _ _ h => h) (Or.inl ⟨by rfl, ?_⟩) (by assumption) ?_); rotate_left; (focus (intro w' hSw; (try dsimp only at hSw); go_simp; (try with_reducible rfl))); (try simp only [Act.put, List.setIfInBounds_toArray, List.set_cons_zero, List.set_cons_succ])
          (refine E_take (i := 8) (v := ?_) rfl rfl (by kernel_rfl) (by kernel_rfl) (by kernel_rfl) (by kernel_rfl) (by kernel_rfl) (fun _ _ _ h => h) (Or.inl ⟨by rfl, ?_⟩) (by assumption) ?_); rotate_left; (focus (intro w' hSw; (try dsimp only at hSw); go_simp; (try with_reducible rfl))); (try simp only [Act.put, List.setIfInBounds_toArray, List.set_cons_zero, List.set_cons_succ])
          (refine E_step (i := 5) rfl (by kernel_rfl) (fun K hK => ?_)); (rw [if_pos (by rfl)])
          go_simp
          go_at_call 79
          refine (below_any W0 v zs g _ _ HRB.out hle hnp HST9.out.drew.cur).mono ?_
          rintro e wa ⟨z, rfl, z0, z1, hca, hga⟩
          have HSTa := Lib.hid (HST9.out.drew.drawn hca hga)
          have HYa := Lib.hid (HY9.out.drew.grown hga hYg)
          have HOa := Lib.hid (OwnW.far (w := w9.drew) HO9.out hga (fun k hk => by cases hk; omega))
          clear hca hga
          go_wp2_with fail
          refine hK _ _ (fun _ => ⟨HSTa.out.box.cell 0, HYa.out.cell 0, HYa.out.cell 1⟩) (fun hS' => ?_)
          have hSa := hS' (by kernel_rfl)
          clear hK K hS hS'
          (try simp only [Act.put, List.setIfInBounds_toArray, List.set_cons_zero, List.set_cons_succ])
          (refine E_step (i := 9) rfl (by kernel_rfl) (fun K hK => ?_)); (rw [if_pos (by rfl)])
          go_simp
          go_at_call 101
          refine (sAdd_any _ _ N7 ls _ _ _ HOa.out.1.reads HOa.out.2.1.reads (by have := HLN.out; omega) (by omega)).mono ?_
          rintro e wb ⟨Anb, cnb, Alb, clb, rfl, hob, hbb⟩
          have HSTb := Lib.hid (HSTa.out.below hbb)
          have HYb := Lib.hid (HYa.out.below hbb HYa.out.lt)
          have HP := Lib.hid (HSTb.out.put (win_addL (winB_true.1 HBW.out) z ns.length) rfl rfl hob HSTa.out.box.lt)
          clear hbb hob
          go_wp2_with fail
          refine hK _ _ (fun _ => ⟨HSTb.out.box.cell 0, HYb.out.cell 0, HYb.out.cell 1⟩) (fun hS' => ?_)
          have hSb := hS' (by kernel_rfl)
          clear hK K hSa hS'
          (try simp only [Act.put, List.setIfInBounds_toArray, List.set_cons_zero, List.set_cons_succ])
          (refine E_take (i := 10) (v := ?_) rfl rfl (by kernel_rfl) (by kernel_rfl) (by kernel_rfl) (by kernel_rfl) (by kernel_rfl) (fun _ _ _ h => h) (Or.inl ⟨by rfl, ?_⟩) (by assumption) ?_); rotate_left; (focus (intro w' hSw; (try dsimp only at hSw); go_simp; (try with_reducible rfl))); (try simp only [Act.put, List.setIfInBounds_toArray, List.set_cons_zero, List.set_cons_succ])
          (refine E_take (i := 11) (v := ?_) rfl rfl (by kernel_rfl) (by kernel_rfl) (by kernel_rfl) (by kernel_rfl) (by kernel_rfl) (fun _ _ _ h => h) (Or.inl ⟨by rfl, ?_⟩) (by assumption) ?_); rotate_left; (focus (intro w' hSw; (try dsimp only at hSw); go_simp; (try with_reducible rfl))); (try simp only [Act.put, List.setIfInBounds_toArray, List.set_cons_zero, List.set_cons_succ])
          (refine E_take0 (i := 12) (v := ?_) rfl (by decide) (by kernel_rfl) (by kernel_rfl) (by kernel_rfl) (fun _ _ _ h => h) (Or.inl ⟨by rfl, ?_⟩) (by assumption) ?_); rotate_left; (focus (intro w' hSw; (try dsimp only at hSw); go_simp; (try with_reducible rfl))); (try simp only [Act.put, List.setIfInBounds_toArray, List.set_cons_zero, List.set_cons_succ])
          have hbxb := HSTb.out.box
          clear x_0 x_1 x_f0 x_f1 y_0 y_1
          (have x_0 := hbxb.cell 0); (have x_1 := hbxb.cell 1); simp only [List.getElem?_toArray, List.getElem?_cons_succ, List.getElem?_cons_zero] at x_0 x_1; (have x_f0 := hbxb.frozen 0); (have x_f1 := hbxb.frozen 1)
          (refine E_step (i := 13) rfl (by kernel_rfl) (fun K hK => ?_)); (rw [if_pos (by rfl)])
          go_simp
          refine hK _ _ (fun h => by cases h) (fun _ => ?_)
          clear hK K hSb
          (try simp only [Act.put, List.setIfInBounds_toArray, List.set_cons_zero, List.set_cons_succ])
          refine E_done (by kernel_rfl) ?_ _
          clear x_0 x_1 x_f0 x_f1 hbxb hbx hS0
          generalize addL N7 ls z ns.length = L' at *
          obtain ⟨wc, hwc⟩ : ∃ wc, wc = (wb.setCell ⟨X, 0, none⟩ (.slice Anb N7.length cnb)).setCell ⟨X, 1, none⟩ (.slice Alb L'.length clb) := ⟨_, rfl⟩
          rw [← hwc] at HP ⊢
          clear hwc
          have hbxq := HP.out.box
          have hrsq := HP.out.res
          (have x_0 := hbxq.cell 0); (have x_1 := hbxq.cell 1); simp only [List.getElem?_toArray, List.getElem?_cons_succ, List.getElem?_cons_zero] at x_0 x_1; (have x_f0 := hbxq.frozen 0); (have x_f1 := hbxq.frozen 1)
          (have r_0 := hrsq.cell 0); (have r_1 := hrsq.cell 1); simp only [List.getElem?_toArray, List.getElem?_cons_succ, List.getElem?_cons_zero] at r_0 r_1; (have r_f0 := hrsq.frozen 0); (have r_f1 := hrsq.frozen 1)
          have hneq : ¬ X = w.heap.size := by have := HP.out.hX; omega
          have hXlq : X < _ := hbxq.lt
          have hRlq : w.heap.size < _ := hrsq.lt
          have HO := Lib.hid ((HP.out.own.setLow (p := ⟨w.heap.size, 0, none⟩) (show w.heap.size < w.heap.size + 1 by omega) (.slice Anb N7.length cnb)).setLow (p := ⟨w.heap.size, 1, none⟩) (show w.heap.size < w.heap.size + 1 by omega) (.slice Alb L'.length clb))
          have HCC := Lib.hid ((HP.out.cur.far (p := ⟨w.heap.size, 0, none⟩) HP.out.hg (.slice Anb N7.length cnb)).far (p := ⟨w.heap.size, 1, none⟩) HP.out.hg (.slice Alb L'.length clb))
          have HG := Lib.hid (only_far (p := ⟨w.heap.size, 1, none⟩) (only_far (p := ⟨w.heap.size, 0, none⟩) HP.out.gr (Nat.le_refl _) (.slice Anb N7.length cnb)) (Nat.le_refl _) (.slice Alb L'.length clb))
          have HW := Lib.hid HP.out.win
          clear hbxq hrsq
          go_wp2
          exact bodyPost_ret (v := .agg #[(.slice Anb N7.length cnb), (.slice Alb L'.length clb)]) (by simp [results, Tryz.results77, go_sem, r_0, r_1, x_0, x_1]) rfl ⟨N7, L', Anb, cnb, Alb, clb, rfl, HW.out, HO.out, HCC.out, HG.out⟩
    · have hkp : (0 : Int) < (kn : Int) := by omega
      go_wp2_with fail
      refine (once_any W0 v zs g 2 _ HRB.out hle (by omega) HST.out.cur).mono ?_
      rintro e w4 ⟨bb, rfl, hc4, hg4⟩
      have HST4 := Lib.hid (HST.out.drawn hc4 hg4)
      clear HST hc4 hg4
      have hbx := HST4.out.box
      have hXl := hbx.lt
      have hw12 := HST4.out.win.2.1
      have hw1 := HST4.out.win.1
      have hw20 := HST4.out.win.2.2.1
      (have x_0 := hbx.cell 0); (have x_1 := hbx.cell 1); simp only [List.getElem?_toArray, List.getElem?_cons_succ, List.getElem?_cons_zero] at x_0 x_1; (have x_f0 := hbx.frozen 0); (have x_f1 := hbx.frozen 1)
      have hgX : ¬ g = X := by have := HST4.out.hX; omega
      cases bb
      · go_wp2_with fail
        have hS0 := And.intro x_0 x_1
        have hnp : (0 : Int) < (ns.length : Int) := by omega
        refine region_E (n := 15) (S := fun w' => w'.cell? ⟨X, 0, none⟩ = some (.slice An ns.length cn) ∧ w'.cell? ⟨X, 1, none⟩ = some (.slice Al ls.length cl)) (by kernel_rfl) hS0 (fun hS => ?_)
        (refine E_take (i := 0) (v := ?_) rfl rfl (by kernel_rfl) (by kernel_rfl) (by kernel_rfl) (by kernel_rfl) (by kernel_rfl) (fun _ _ _ h => h) (Or.inl ⟨by rfl, ?_⟩) (by assumption) ?_); rotate_left; (focus (intro w' hSw; (try dsimp only at hSw); go_simp; (try with_reducible rfl))); (try simp only [Act.put, List.setIfInBounds_toArray, List.set_cons_zero, List.set_cons_succ])
        (refine E_take (i := 1) (v := ?_) rfl rfl (by kernel_rfl) (by kernel_rfl) (by kernel_rfl) (by kernel_rfl) (by kernel_rfl) (fun _ _ _ h => h) (Or.inl ⟨by rfl, ?_⟩) (by assumption) ?_); rotate_left; (focus (intro w' hSw; (try dsimp only at hSw); go_simp; (try with_reducible rfl))); (try simp only [Act.put, List.setIfInBounds_toArray, List.set_cons_zero, List.set_cons_succ])
        (refine E_take (i := 2) (v := ?_) rfl rfl (by kernel_rfl) (by kernel_rfl) (by kernel_rfl) (by kernel_rfl) (by kernel_rfl) (fun _ _ _ h => h) (Or.inl ⟨by rfl, ?_⟩) (by assumption) ?_); rotate_left; (focus (intro w' hSw; (try dsimp only at hSw); go_simp; (try with_reducible rfl))); (try simp only [Act.put, List.setIfInBounds_toArray, List.set_cons_zero, List.set_cons_succ])
        (refine E_take (i := 3) (v := ?_) rfl rfl (by kernel_rfl) (by kernel_rfl) (by kernel_rfl) (by kernel_rfl) (by kernel_rfl) (fun _ _ _ h => h) (Or.inl ⟨by rfl, ?_⟩) (by assumption) ?_); rotate_left; (focus (intro w' hSw; (try dsimp only at hSw); go_simp; (try with_reducible rfl))); (try simp only [Act.put, List.setIfInBounds_toArray, List.set_cons_zero, List.set_cons_succ])
        (refine E_take (i := 4) (v := ?_) rfl rfl (by kernel_rfl) (by kernel_rfl) (by kernel_rfl) (by kernel_rfl) (by kernel_rfl) (fun _ _ _ h => h) (Or.inl ⟨by rfl, ?_⟩) (by assumption) ?_); rotate_left; (focus (intro w' hSw; (try dsimp only at hSw); go_simp; (try with_reducible rfl))); (try simp only [Act.put, List.setIfInBounds_toArray, List.set_cons_zero, List.set_cons_succ])
        (refine E_take (i := 6) (v := ?_) rfl rfl (by kernel_rfl) (by kernel_rfl) (by kernel_rfl) (by kernel_rfl) (by kernel_rfl) (fun _ _ _ h => h) (Or.inl ⟨by rfl, ?_⟩) (by assumption) ?_); rotate_left; (focus (intro w' hSw; (try dsimp only at hSw); go_simp; (try with_reducible rfl))); (try simp only [Act.put, List.setIfInBounds_toArray, List.set_cons_zero, List.set_cons_succ])
        (refine E_take (i := 7) (v := ?_) rfl rfl (by kernel_rfl) (by kernel_rfl) (by kernel_rfl) (by kernel_rfl) (by kernel_rfl) (fun _ _ _ h => h) (Or.inl ⟨by rfl, ?_⟩) (by assumption) ?_); rotate_left; (focus (intro w' hSw; (try dsimp only at hSw); go_simp; (try with_reducible rfl))); (try simp only [Act.put, List.setIfInBounds_toArray, List.set_cons_zero, List.set_cons_succ])
        (refine E_take (i := 8) (v := ?_) rfl rfl (by kernel_rfl) (by kernel_rfl) (by kernel_rfl) (by kernel_rfl) (by kernel_rfl) (fun _ _ _ h => h) (Or.inl ⟨by rfl, ?_⟩) (by assumption) ?_); rotate_left; (focus (intro w' hSw; (try dsimp only at hSw); go_simp; (try with_reducible rfl))); (try simp only [Act.put, List.setIfInBounds_toArray, List.set_cons_zero, List.set_cons_succ])
        (refine E_take (i := 9) (v := ?_) rfl rfl (by kernel_rfl) (by kernel_rfl) (by kernel_rfl) (by kernel_rfl) (by kernel_rfl) (fun _ _ _ h => h) (Or.inl ⟨by rfl, ?_⟩) (by assumption) ?_); rotate_left; (focus (intro w' hSw; (try dsimp only at hSw); go_simp; (try with_reducible rfl))); (try simp only [Act.put, List.setIfInBounds_toArray, List.set_cons_zero, List.set_cons_succ])
        (refine E_step (i := 5) rfl (by kernel_rfl) (fun K hK => ?_)); (rw [if_pos (by rfl)])
        go_simp
        go_at_call 79
        refine (below_any W0 v zs g _ _ HRB.out hle hnp HST4.out.drew.cur).mono ?_
        rintro e w5 ⟨y, rfl, y0, y1, hc5, hg5⟩
        have HST5 := Lib.hid (HST4.out.drew.drawn hc5 hg5)
        clear hc5 hg5
        go_wp2_with fail
        refine hK _ _ (fun _ => ⟨HST5.out.box.cell 0, HST5.out.box.cell 1⟩) (fun hS' => ?_)
        have hS5 := hS' (by kernel_rfl)
        clear hK K hS hS'
        (try simp only [Act.put, List.setIfInBounds_toArray, List.set_cons_zero, List.set_cons_succ])
        (refine E_step (i := 10) rfl (by kernel_rfl) (fun K hK => ?_)); (rw [if_pos (by rfl)])
        go_simp
        go_at_call 79
        refine (below_any W0 v zs g _ _ HRB.out hle hnp HST5.out.cur).mono ?_
        rintro e w6 ⟨z, rfl, z0, z1, hc6, hg6⟩
        have HST6 := Lib.hid (HST5.out.drawn hc6 hg6)
        clear hc6 hg6
        go_wp2_with fail
        refine hK _ _ (fun _ => ⟨HST6.out.box.cell 0, HST6.out.box.cell 1⟩) (fun hS' => ?_)
        have hS6 := hS' (by kernel_rfl)
        clear hK K hS5 hS'
        (try simp only [Act.put, List.setIfInBounds_toArray, List.set_cons_zero, List.set_cons_succ])
        (refine E_step (i := 11) rfl (by kernel_rfl) (fun K hK => ?_)); (rw [if_pos (by rfl)])
        go_simp
        go_at_call 101
        refine (sAdd_any _ _ ns ls _ _ _ HST6.out.own.1.reads HST6.out.own.2.1.reads (by omega) (by omega)).mono ?_
        rintro e w7 ⟨An7, cn7, Al7, cl7, rfl, ho7, hb7⟩
        have HST7 := Lib.hid (HST6.out.below hb7)
        have HP := Lib.hid (HST7.out.put (win_addL HST7.out.win y z) rfl rfl ho7 HST6.out.box.lt)
        clear hb7 ho7
        go_wp2_with fail
        refine hK _ _ (fun _ => ⟨HST7.out.box.cell 0, HST7.out.box.cell 1⟩) (fun hS' => ?_)
        have hS7 := hS' (by kernel_rfl)
        clear hK K hS6 hS'
        (try simp only [Act.put, List.setIfInBounds_toArray, List.set_cons_zero, List.set_cons_succ])
        (refine E_take (i := 12) (v := ?_) rfl rfl (by kernel_rfl) (by kernel_rfl) (by kernel_rfl) (by kernel_rfl) (by kernel_rfl) (fun _ _ _ h => h) (Or.inl ⟨by rfl, ?_⟩) (by assumption) ?_); rotate_left; (focus (intro w' hSw; (try dsimp only at hSw); go_simp; (try with_reducible rfl))); (try simp only [Act.put, List.setIfInBounds_toArray, List.set_cons_zero, List.set_cons_succ])
        (refine E_take (i := 13) (v := ?_) rfl rfl (by kernel_rfl) (by kernel_rfl) (by kernel_rfl) (by kernel_rfl) (by kernel_rfl) (fun _ _ _ h => h) (Or.inl ⟨by rfl, ?_⟩) (by assumption) ?_); rotate_left; (focus (intro w' hSw; (try dsimp only at hSw); go_simp; (try with_reducible rfl))); (try simp only [Act.put, List.setIfInBounds_toArray, List.set_cons_zero, List.set_cons_succ])
        (refine E_take0 (i := 14) (v := ?_) rfl (by decide) (by kernel_rfl) (by kernel_rfl) (by kernel_rfl) (fun _ _ _ h => h) (Or.inl ⟨by rfl, ?_⟩) (by assumption) ?_); rotate_left; (focus (intro w' hSw; (try dsimp only at hSw); go_simp; (try with_reducible rfl))); (try simp only [Act.put, List.setIfInBounds_toArray, List.set_cons_zero, List.set_cons_succ])
        have hbx7 := HST7.out.box
        clear x_0 x_1 x_f0 x_f1
        (have x_0 := hbx7.cell 0); (have x_1 := hbx7.cell 1); simp only [List.getElem?_toArray, List.getElem?_cons_succ, List.getElem?_cons_zero] at x_0 x_1; (have x_f0 := hbx7.frozen 0); (have x_f1 := hbx7.frozen 1)
        (refine E_step (i := 15) rfl (by kernel_rfl) (fun K hK => ?_)); (rw [if_pos (by rfl)])
        go_simp
        refine hK _ _ (fun h => by cases h) (fun _ => ?_)
        clear hK K hS7
        (try simp only [Act.put, List.setIfInBounds_toArray, List.set_cons_zero, List.set_cons_succ])
        refine E_done (by kernel_rfl) ?_ _
        clear x_0 x_1 x_f0 x_f1 hbx7 hbx hXl hS0
        generalize addL ns ls y z = L' at *
        go_wp2
        go_roundw
        case rel => exact ⟨kn - 1, An7, cn7, Al7, cl7, ns, L', by congr 1; omega, by omega, HP.out⟩
        case measure => simp [intOf]; omega
      · go_wp2_with fail
        have hS0 := And.intro x_0 x_1
        have hmx : 0 < mx2 1 (ls.length : Int) := by rw [mx2_eq]; omega
        refine region_E (n := 11) (S := fun w' => w'.cell? ⟨X, 0, none⟩ = some (.slice An ns.length cn) ∧ w'.cell? ⟨X, 1, none⟩ = some (.slice Al ls.length cl)) (by kernel_rfl) hS0 (fun hS => ?_)
        (refine E_take (i := 0) (v := ?_) rfl rfl (by kernel_rfl) (by kernel_rfl) (by kernel_rfl) (by kernel_rfl) (by kernel_rfl) (fun _ _ _ h => h) (Or.inl ⟨by rfl, ?_⟩) (by assumption) ?_); rotate_left; (focus (intro w' hSw; (try dsimp only at hSw); go_simp; (try with_reducible rfl))); (try simp only [Act.put, List.setIfInBounds_toArray, List.set_cons_zero, List.set_cons_succ])
        (refine E_take (i := 1) (v := ?_) rfl rfl (by kernel_rfl) (by kernel_rfl) (by kernel_rfl) (by kernel_rfl) (by kernel_rfl) (fun _ _ _ h => h) (Or.inl ⟨by rfl, ?_⟩) (by assumption) ?_); rotate_left; (focus (intro w' hSw; (try dsimp only at hSw); go_simp; (try with_reducible rfl))); (try simp only [Act.put, List.setIfInBounds_toArray, List.set_cons_zero, List.set_cons_succ])
        (refine E_take (i := 2) (v := ?_) rfl rfl (by kernel_rfl) (by kernel_rfl) (by kernel_rfl) (by kernel_rfl) (by kernel_rfl) (fun _ _ _ h => h) (Or.inl ⟨by rfl, ?_⟩) (by assumption) ?_); rotate_left; (focus (intro w' hSw; (try dsimp only at hSw); go_simp; (try with_reducible rfl))); (try simp only [Act.put, List.setIfInBounds_toArray, List.set_cons_zero, List.set_cons_succ])
        (refine E_take (i := 3) (v := ?_) rfl rfl (by kernel_rfl) (by kernel_rfl) (by kernel_rfl) (by kernel_rfl) (by kernel_rfl) (fun _ _ _ h => h) (Or.inl ⟨by rfl, ?_⟩) (by assumption) ?_); rotate_left; (focus (intro w' hSw; (try dsimp only at hSw); go_simp; (try with_reducible rfl))); (try simp only [Act.put, List.setIfInBounds_toArray, List.set_cons_zero, List.set_cons_succ])
        (refine E_take (i := 4) (v := ?_) rfl rfl (by kernel_rfl) (by kernel_rfl) (by kernel_rfl) (by kernel_rfl) (by kernel_rfl) (fun _ _ _ h => h) (Or.inl ⟨by rfl, ?_⟩) (by assumption) ?_); rotate_left; (focus (intro w' hSw; (try dsimp only at hSw); go_simp; (try with_reducible rfl))); (try simp only [Act.put, List.setIfInBounds_toArray, List.set_cons_zero, List.set_cons_succ])
        (refine E_take (i := 5) (v := ?_) rfl rfl (by kernel_rfl) (by kernel_rfl) (by kernel_rfl) (by kernel_rfl) (by kernel_rfl) (fun _ _ _ h => h) (Or.inl ⟨by rfl, ?_⟩) (by assumption) ?_); rotate_left; (focus (intro w' hSw; (try dsimp only at hSw); go_simp; (try with_reducible rfl))); (try simp only [Act.put, List.setIfInBounds_toArray, List.set_cons_zero, List.set_cons_succ])
        (refine E_step (i := 6) rfl (by kernel_rfl) (fun K hK => ?_)); (rw [if_pos (by rfl)])
        go_simp
        go_at_call 79
        refine (below_any W0 v zs g _ _ HRB.out hle hmx HST4.out.drew.cur).mono ?_
        rintro e w5 ⟨y, rfl, y0, y1, hc5, hg5⟩
        have HST5 := Lib.hid (HST4.out.drew.drawn hc5 hg5)
        clear hc5 hg5
        go_wp2_with fail
        refine hK _ _ (fun _ => ⟨HST5.out.box.cell 0, HST5.out.box.cell 1⟩) (fun hS' => ?_)
        have hS5 := hS' (by kernel_rfl)
        clear hK K hS hS'
        (try simp only [Act.put, List.setIfInBounds_toArray, List.set_cons_zero, List.set_cons_succ])
        (refine E_step (i := 7) rfl (by kernel_rfl) (fun K hK => ?_)); (rw [if_pos (by rfl)])
        go_simp
        go_at_call 100
        refine (sDrop_any _ _ ns ls _ _ HST5.out.own.1.reads HST5.out.own.2.1.reads (by omega) (by omega)).mono ?_
        rintro e w6 ⟨An6, cn6, Al6, cl6, rfl, ho6, hb6⟩
        have HST6 := Lib.hid (HST5.out.below hb6)
        have HP := Lib.hid (HST6.out.put (win_dropL HST6.out.win y) rfl rfl ho6 HST5.out.box.lt)
        clear hb6 ho6
        go_wp2_with fail
        refine hK _ _ (fun _ => ⟨HST6.out.box.cell 0, HST6.out.box.cell 1⟩) (fun hS' => ?_)
        have hS6 := hS' (by kernel_rfl)
        clear hK K hS5 hS'
        (try simp only [Act.put, List.setIfInBounds_toArray, List.set_cons_zero, List.set_cons_succ])
        (refine E_take (i := 8) (v := ?_) rfl rfl (by kernel_rfl) (by kernel_rfl) (by kernel_rfl) (by kernel_rfl) (by kernel_rfl) (fun _ _ _ h => h) (Or.inl ⟨by rfl, ?_⟩) (by assumption) ?_); rotate_left; (focus (intro w' hSw; (try dsimp only at hSw); go_simp; (try with_reducible rfl))); (try simp only [Act.put, List.setIfInBounds_toArray, List.set_cons_zero, List.set_cons_succ])
        (refine E_take (i := 9) (v := ?_) rfl rfl (by kernel_rfl) (by kernel_rfl) (by kernel_rfl) (by kernel_rfl) (by kernel_rfl) (fun _ _ _ h => h) (Or.inl ⟨by rfl, ?_⟩) (by assumption) ?_); rotate_left; (focus (intro w' hSw; (try dsimp only at hSw); go_simp; (try with_reducible rfl))); (try simp only [Act.put, List.setIfInBounds_toArray, List.set_cons_zero, List.set_cons_succ])
        (refine E_take0 (i := 10) (v := ?_) rfl (by decide) (by kernel_rfl) (by kernel_rfl) (by kernel_rfl) (fun _ _ _ h => h) (Or.inl ⟨by rfl, ?_⟩) (by assumption) ?_); rotate_left; (focus (intro w' hSw; (try dsimp only at hSw); go_simp; (try with_reducible rfl))); (try simp only [Act.put, List.setIfInBounds_toArray, List.set_cons_zero, List.set_cons_succ])
        have hbx6 := HST6.out.box
        clear x_0 x_1 x_f0 x_f1
        (have x_0 := hbx6.cell 0); (have x_1 := hbx6.cell 1); simp only [List.getElem?_toArray, List.getElem?_cons_succ, List.getElem?_cons_zero] at x_0 x_1; (have x_f0 := hbx6.frozen 0); (have x_f1 := hbx6.frozen 1)
        (refine E_step (i := 11) rfl (by kernel_rfl) (fun K hK => ?_)); (rw [if_pos (by rfl)])
        go_simp
        refine hK _ _ (fun h => by cases h) (fun _ => ?_)
        clear hK K hS6
        (try simp only [Act.put, List.setIfInBounds_toArray, List.set_cons_zero, List.set_cons_succ])
        refine E_done (by kernel_rfl) ?_ _
        clear x_0 x_1 x_f0 x_f1 hbx6 hbx hXl hS0
        generalize dropL ns ls y = L' at *
        go_wp2
        go_roundw
        case rel => exact ⟨kn - 1, An6, cn6, Al6, cl6, ns, L', by congr 1; omega, by omega, HP.out⟩
        case measure => simp [intOf]; omega

end Go.Proofs.YtognjdappchpkaaGreat

namespace Go.Proofs.YtognjdappchpkaaGreat
open Go.RowKit

attribute [local go_sem ↓] run_eqNode run_neNode run_mn2 run_mx2

theorem shape_whole {k : Int} (h0 : 0 ≤ k) (h1 : k < 4) : wholeB (shapeN k) (shapeL k) = true := by
  have hs := shape_ok k
  unfold wholeB
  rw [hs, Bool.true_and]
  have hk : k = 0 ∨ k = 1 ∨ k = 2 ∨ k = 3 := by omega
  rcases hk with rfl | rfl | rfl | rfl <;> decide +kernel

/-- A drawn window of a kind. -/
def DrawnP (Pw : List Pr → List Pr → Prop) (W0 : World) (v : Value) (g : Nat) (w : World) (e : Ending) (w' : World) : Prop :=
  ∃ ns ls An cn Al cl, e = .returned (.agg #[.slice An ns.length cn, .slice Al ls.length cl]) ∧ Pw ns ls ∧ OwnW (w.heap.size + 1) w' (.slice An ns.length cn) (.slice Al ls.length cl) ns ls ∧ CurOk W0 v g w' ∧ w.grownBy w' (some g)

set_option maxHeartbeats 8000000 in
set_option maxRecDepth 100000 in
theorem drawWhole_any (W0 : World) (v : Value) (zs : List Int) (g : Nat) (w : World) (h : RB W0 v zs) (hle : zs.length ≤ 1048576) (hc : CurOk W0 v g w) :
    Calls Tryz.prog 50 #[.pointer (some ⟨g, 0, none⟩)] w (DrawnP (fun ns ls => wholeB ns ls = true) W0 v g w) := by
  have hgl := hc.lt
  have HC := Lib.hid hc
  have HRB := Lib.hid h
  clear h hc
  go_enter Tryz.func50, Tryz.ntmps50
  go_wp2
  go_loopw [3] (fun i wr => ∃ k : Nat, k ≤ 4 ∧ i = .int .i64 k ∧ Blk wr w.heap.size 34 #[.slice none 0 0, .slice none 0 0] ∧ CurOk W0 v g wr ∧ w.grownBy wr (some g)) (fun i _ => 4 - (intOf i).toNat)
  case atStart => exact ⟨0, by omega, rfl, Blk.newAt rfl, HC.out.alloc _, only_alloc (World.grownBy.refl w (some g)) _⟩
  case round =>
    obtain ⟨k, hk, rfl, hR, hcur, hgr⟩ := hrel
    have hRl := hR.lt
    have hgs := hgr.size
    by_cases hlt : k < 4
    · go_wp2_with fail
      refine (drawWindow_any W0 v zs g _ HRB.out hle hcur).mono ?_
      rintro e w1 ⟨ns, ls, An, cn, Al, cl, rfl, hwin, ho1, hc1, hg1⟩
      have hR1 := hR.grown hg1 (by omega)
      have hG1 := grownBy_trans hgr hg1
      have hs1 := hg1.size
      have hlt1 := ho1.lt
      have hTl : w.heap.size < w1.heap.size := hR1.lt
      obtain ⟨w2, hw2⟩ : ∃ u, u = w1.alloc (.cells #[.slice An ns.length cn, .slice Al ls.length cl] 34) := ⟨_, rfl⟩
      have hT2 : Blk w2 w1.heap.size 34 #[.slice An ns.length cn, .slice Al ls.length cl] := hw2 ▸ Blk.newAt rfl
      have ho2 := Lib.hid (show OwnW (w.heap.size + 1) w2 (.slice An ns.length cn) (.slice Al ls.length cl) ns ls from hw2 ▸ (ho1.mono (show w.heap.size + 1 ≤ _ by omega)).alloc _)
      have hR2 : Blk w2 w.heap.size 34 #[.slice none 0 0, .slice none 0 0] := hw2 ▸ hR1.alloc _
      have hc2 : CurOk W0 v g w2 := hw2 ▸ hc1.alloc _
      have hG2 : w.grownBy w2 (some g) := hw2 ▸ only_alloc hG1 _
      go_upto_region 5 with (fail)
      rw [← hw2]
      clear hw2 hR1 hG1 hc1 hg1 ho1 hlt1 hR hcur hgr hs1 hgs
      generalize w1.heap.size = T at *
      (have t_0 := hT2.cell 0); (have t_1 := hT2.cell 1); simp only [List.getElem?_toArray, List.getElem?_cons_succ, List.getElem?_cons_zero] at t_0 t_1
      obtain ⟨bw, hbw⟩ : ∃ bw, wholeB ns ls = bw := ⟨_, rfl⟩
      have HBW := Lib.hid hbw
      go_wp2_with fail
      refine (sWhole_at _ _ ns ls bw _ ho2.out.1.reads ho2.out.2.1.reads hbw).mono ?_
      rintro e w3 ⟨rfl, hb3⟩
      have hT3 := hT2.below hb3 hT2.lt
      have hR3 := hR2.below hb3 hR2.lt
      have hc3 := hc2.below hb3
      have hG3 := grown_below hG2 hb3
      have ho3 := Lib.hid (ho2.out.kept hb3)
      clear hb3 hT2 hR2 hc2 hG2 ho2 t_0 t_1 hbw
      have hTl3 := hT3.lt
      have hRl3 := hR3.lt
      cases bw
      · go_wp2
        go_roundw
        case rel => exact ⟨k + 1, by omega, by go_num, hR3, hc3, hG3⟩
        case measure => simp [intOf]; omega
      · (have t_0 := hT3.cell 0); (have t_1 := hT3.cell 1); simp only [List.getElem?_toArray, List.getElem?_cons_succ, List.getElem?_cons_zero] at t_0 t_1
        (have r_0 := hR3.cell 0); (have r_1 := hR3.cell 1); simp only [List.getElem?_toArray, List.getElem?_cons_succ, List.getElem?_cons_zero] at r_0 r_1; (have r_f0 := hR3.frozen 0); (have r_f1 := hR3.frozen 1)
        have HO := Lib.hid ((ho3.out.setLow (p := ⟨w.heap.size, 0, none⟩) (show w.heap.size < w.heap.size + 1 by omega) (.slice An ns.length cn)).setLow (p := ⟨w.heap.size, 1, none⟩) (show w.heap.size < w.heap.size + 1 by omega) (.slice Al ls.length cl))
        have HCC := Lib.hid ((hc3.far (p := ⟨w.heap.size, 0, none⟩) (show g < w.heap.size by omega) (.slice An ns.length cn)).far (p := ⟨w.heap.size, 1, none⟩) (show g < w.heap.size by omega) (.slice Al ls.length cl))
        have HGG := Lib.hid (only_far (p := ⟨w.heap.size, 1, none⟩) (only_far (p := ⟨w.heap.size, 0, none⟩) hG3 (show w.heap.size ≤ w.heap.size by omega) (.slice An ns.length cn)) (show w.heap.size ≤ w.heap.size by omega) (.slice Al ls.length cl))
        clear hT3 hR3 hc3 hG3 ho3
        go_wp2
        exact bodyPost_ret (v := .agg #[.slice An ns.length cn, .slice Al ls.length cl]) (by simp [results, Tryz.results50, go_sem, r_0, r_1, hRl3]) rfl ⟨ns, ls, An, cn, Al, cl, rfl, HBW.out, HO.out, HCC.out, HGG.out⟩
    · have hkk : k = 4 := by omega
      subst hkk
      go_wp2_with fail
      refine (below_any W0 v zs g 4 _ HRB.out hle (by omega) hcur).mono ?_
      rintro e w1 ⟨x, rfl, x0, x1, hc1, hg1⟩
      have hR1 := hR.grown hg1 (by omega)
      have hG1 := grownBy_trans hgr hg1
      clear hR hcur hgr hg1
      go_wp2_with fail
      refine (sShape_any x _).mono ?_
      rintro e w2 ⟨An, cn, Al, cl, rfl, ho2, hb2⟩
      have HBW := Lib.hid (shape_whole x0 x1)
      have hR2 := hR1.below hb2 hR1.lt
      have hc2 := hc1.below hb2
      have hG2 := grown_below hG1 hb2
      have hbase : w.heap.size + 1 ≤ w1.heap.size := hR1.lt
      have ho3 := ho2.mono hbase
      clear hR1 hc1 hG1 hb2 ho2
      generalize shapeN x = ns at *
      generalize shapeL x = ls at *
      have hRl2 := hR2.lt
      (have r_0 := hR2.cell 0); (have r_1 := hR2.cell 1); simp only [List.getElem?_toArray, List.getElem?_cons_succ, List.getElem?_cons_zero] at r_0 r_1; (have r_f0 := hR2.frozen 0); (have r_f1 := hR2.frozen 1)
      have HO := Lib.hid ((ho3.setLow (p := ⟨w.heap.size, 0, none⟩) (show w.heap.size < w.heap.size + 1 by omega) (.slice An ns.length cn)).setLow (p := ⟨w.heap.size, 1, none⟩) (show w.heap.size < w.heap.size + 1 by omega) (.slice Al ls.length cl))
      have HCC := Lib.hid ((hc2.far (p := ⟨w.heap.size, 0, none⟩) (show g < w.heap.size by omega) (.slice An ns.length cn)).far (p := ⟨w.heap.size, 1, none⟩) (show g < w.heap.size by omega) (.slice Al ls.length cl))
      have HGG := Lib.hid (only_far (p := ⟨w.heap.size, 1, none⟩) (only_far (p := ⟨w.heap.size, 0, none⟩) hG2 (show w.heap.size ≤ w.heap.size by omega) (.slice An ns.length cn)) (show w.heap.size ≤ w.heap.size by omega) (.slice Al ls.length cl))
      clear hR2 hc2 hG2 ho3
      go_wp2
      exact bodyPost_ret (v := .agg #[.slice An ns.length cn, .slice Al ls.length cl]) (by simp [results, Tryz.results50, go_sem, r_0, r_1, hRl2]) rfl ⟨ns, ls, An, cn, Al, cl, rfl, HBW.out, HO.out, HCC.out, HGG.out⟩

end Go.Proofs.YtognjdappchpkaaGreat

namespace Go.Proofs.YtognjdappchpkaaGreat
open Go.RowKit

theorem big_at (v : Value) (zs : List Int) (b : Bool) (w : World) (h : RB w v zs) (hb : decide ((1048576 : Int) < zs.length) = b) :
    Calls Tryz.prog 16 #[v] w fun e w' => e = .returned (.bool b) ∧ w = w' := by
  subst hb
  obtain ⟨A, c, rfl, hc, hm, hcell⟩ := h.form
  clear h hcell
  go_enter Tryz.func16, Tryz.ntmps16
  go_wp2
  go_ret
  exact ⟨rfl, rfl⟩

end Go.Proofs.YtognjdappchpkaaGreat

namespace Go.Proofs.YtognjdappchpkaaGreat
open Go.RowKit

set_option maxHeartbeats 400000 in
theorem btoi_any (b : Bool) (w : World) :
    Calls Tryz.prog 25 #[.bool b] w fun e w' => e = .returned (.int .i64 (if b then 1 else 0)) ∧ w = w' := by
  cases b
  · go_enter Tryz.func25, Tryz.ntmps25
    go_wp2
    go_ret
    exact ⟨rfl, rfl⟩
  · go_enter Tryz.func25, Tryz.ntmps25
    go_wp2
    go_ret
    exact ⟨rfl, rfl⟩

set_option maxHeartbeats 2000000 in
set_option maxRecDepth 100000 in
theorem drawWh_any (v : Value) (zs : List Int) (w : World) (h : RB w v zs) (hle : zs.length ≤ 1048576) :
    Calls Tryz.prog 17 #[v] w fun e w' => ∃ ns ls An cn Al cl, e = .returned (.agg #[.slice An ns.length cn, .slice Al ls.length cl]) ∧ wholeB ns ls = true ∧ OwnW w.heap.size w' (.slice An ns.length cn) (.slice Al ls.length cl) ns ls ∧ Below w.heap.size w w' := by
  have HRB := Lib.hid h
  clear h
  go_enter Tryz.func17, Tryz.ntmps17
  go_wp2_with fail
  have hb0 : Below w.heap.size w (w.alloc (.cells #[.slice none 0 0, .slice none 0 0] 34)) := by (repeat' (first | (with_reducible exact Below.refl _ _) | (with_reducible assumption) | (with_reducible refine Below.drew ?_) | (with_reducible refine below_drewN ?_ _) | (with_reducible refine Below.alloc ?_ ?_ _) | (with_reducible refine Below.setCell ?_ ?_ _) | (with_reducible refine Below.step (by assumption) ?_ ?_))); all_goals (first | omega | (simp; done) | (simp; omega))
  have hR0 : Blk (w.alloc (.cells #[.slice none 0 0, .slice none 0 0] 34)) w.heap.size 34 #[.slice none 0 0, .slice none 0 0] := Blk.newAt rfl
  obtain ⟨w0, hw0⟩ : ∃ w0, w0 = w.alloc (.cells #[.slice none 0 0, .slice none 0 0] 34) := ⟨_, rfl⟩
  have hs0 : w0.heap.size = w.heap.size + 1 := by rw [hw0]; simp
  rw [← hw0] at hb0 hR0 ⊢
  clear hw0
  refine (new_at v zs _ (HRB.out.below hb0) hle).mono ?_
  rintro e w1 ⟨g, rfl, hc1⟩
  go_wp2_with fail
  refine (drawWhole_any w0 v zs g _ (HRB.out.below hb0) hle hc1).mono ?_
  rintro e w2 ⟨ns, ls, An, cn, Al, cl, rfl, hwin, ho, hc2, hg2⟩
  have hb02 := hc2.2.1
  have hz1 := hc1.2.1.size
  have hR2 := hR0.below hb02 hR0.lt
  have hRl := hR2.lt
  have hbw2 := hb0.trans (hb02.mono (by omega))
  have HW := Lib.hid hwin
  have HO := Lib.hid (((ho.setLow (p := ⟨w.heap.size, 0, none⟩) (show w.heap.size < w1.heap.size + 1 by omega) (.slice An ns.length cn)).setLow (p := ⟨w.heap.size, 1, none⟩) (show w.heap.size < w1.heap.size + 1 by omega) (.slice Al ls.length cl)).mono (show w.heap.size ≤ _ by omega))
  have HB := Lib.hid ((hbw2.setCell (p := ⟨w.heap.size, 0, none⟩) (Nat.le_refl _) (.slice An ns.length cn)).setCell (p := ⟨w.heap.size, 1, none⟩) (Nat.le_refl _) (.slice Al ls.length cl))
  clear hwin ho hc2 hg2 hc1 hb02 hbw2 hb0 hR0
  (have r_0 := hR2.cell 0); (have r_1 := hR2.cell 1); simp only [List.getElem?_toArray, List.getElem?_cons_succ, List.getElem?_cons_zero] at r_0 r_1; (have r_f0 := hR2.frozen 0); (have r_f1 := hR2.frozen 1)
  go_wp2
  exact bodyPost_ret (v := .agg #[.slice An ns.length cn, .slice Al ls.length cl]) (by simp [results, Tryz.results17, go_sem, r_0, r_1]) rfl ⟨ns, ls, An, cn, Al, cl, rfl, HW.out, HO.out, HB.out⟩

/-- A drawn number of a tariff. -/
def D20 (x : Int) : Prop := 0 ≤ x ∧ x < 20

set_option maxHeartbeats 2000000 in
set_option maxRecDepth 100000 in
theorem l35_any (W0 : World) (v : Value) (zs : List Int) (g : Nat) (w : World) (h : RB W0 v zs) (hle : zs.length ≤ 1048576) (hc : CurOk W0 v g w) :
    Calls Tryz.prog 52 #[.pointer (some ⟨g, 0, none⟩)] w fun e w' => ∃ a b c d : Int, e = .returned (.agg #[.int .i64 a, .int .i64 b, .int .i64 c, .int .i64 d]) ∧ D20 a ∧ D20 b ∧ D20 c ∧ D20 d ∧ CurOk W0 v g w' ∧ w.grownBy w' (some g) := by
  have hlt := hc.lt
  go_enter Tryz.func52, Tryz.ntmps52
  go_wp2_with fail
  refine (below_any W0 v zs g 20 _ h hle (by omega) (hc.alloc _)).mono ?_
  rintro e w1 ⟨x, rfl, x0, x1, hc1, hg1⟩
  go_wp2_with fail
  refine (below_any W0 v zs g 20 _ h hle (by omega) hc1).mono ?_
  rintro e w2 ⟨y, rfl, y0, y1, hc2, hg2⟩
  go_wp2_with fail
  refine (below_any W0 v zs g 20 _ h hle (by omega) hc2).mono ?_
  rintro e w3 ⟨z, rfl, z0, z1, hc3, hg3⟩
  go_wp2_with fail
  refine (below_any W0 v zs g 20 _ h hle (by omega) hc3).mono ?_
  rintro e w4 ⟨q, rfl, q0, q1, hc4, hg4⟩
  have hR : Blk w4 w.heap.size 36 #[.int .i64 0, .int .i64 0, .int .i64 0, .int .i64 0] := ((((Blk.new w _ _).grown hg1 (by omega)).grown hg2 (by omega)).grown hg3 (by omega)).grown hg4 (by omega)
  have r0 := hR.cell 0
  have r1 := hR.cell 1
  have r2 := hR.cell 2
  have r3 := hR.cell 3
  have g0 := hR.frozen 0
  have g1 := hR.frozen 1
  have g2 := hR.frozen 2
  have g3 := hR.frozen 3
  simp only [List.getElem?_toArray, List.getElem?_cons_succ, List.getElem?_cons_zero] at r0 r1 r2 r3
  have hl3 := hR.lt
  have HC := Lib.hid hc4
  have HG := Lib.hid (grownBy_trans (grownBy_trans (grownBy_trans (grownBy_trans (only_alloc (World.grownBy.refl w (some g)) _) hg1) hg2) hg3) hg4)
  go_wp2
  refine bodyPost_ret (v := .agg #[.int .i64 x, .int .i64 y, .int .i64 z, .int .i64 q]) (by simp [results, Tryz.results52, go_sem, r0, r1, r2, r3, hl3]) rfl ?_
  refine ⟨_, _, _, _, rfl, ⟨x0, x1⟩, ⟨y0, y1⟩, ⟨z0, z1⟩, ⟨q0, q1⟩, ?_, ?_⟩
  · exact (((HC.out.far (by simpa using hlt) _).far (by simpa using hlt) _).far (by simpa using hlt) _).far (by simpa using hlt) _
  · exact only_setCell (only_setCell (only_setCell (only_setCell HG.out (by simp) _) (by simp) _) (by simp) _) (by simp) _

set_option maxHeartbeats 2000000 in
set_option maxRecDepth 100000 in
theorem drawTar_any (v : Value) (zs : List Int) (w : World) (h : RB w v zs) (hle : zs.length ≤ 1048576) :
    Calls Tryz.prog 18 #[v] w fun e w' => ∃ a b c d : Int, e = .returned (.agg #[.int .i64 a, .int .i64 b, .int .i64 c, .int .i64 d]) ∧ D20 a ∧ D20 b ∧ D20 c ∧ D20 d ∧ Below w.heap.size w w' := by
  have HRB := Lib.hid h
  clear h
  go_enter Tryz.func18, Tryz.ntmps18
  go_wp2_with fail
  have hb0 : Below w.heap.size w (w.alloc (.cells #[.int .i64 0, .int .i64 0, .int .i64 0, .int .i64 0] 36)) := by (repeat' (first | (with_reducible exact Below.refl _ _) | (with_reducible assumption) | (with_reducible refine Below.drew ?_) | (with_reducible refine below_drewN ?_ _) | (with_reducible refine Below.alloc ?_ ?_ _) | (with_reducible refine Below.setCell ?_ ?_ _) | (with_reducible refine Below.step (by assumption) ?_ ?_))); all_goals (first | omega | (simp; done) | (simp; omega))
  have hR0 : Blk (w.alloc (.cells #[.int .i64 0, .int .i64 0, .int .i64 0, .int .i64 0] 36)) w.heap.size 36 #[.int .i64 0, .int .i64 0, .int .i64 0, .int .i64 0] := Blk.newAt rfl
  obtain ⟨w0, hw0⟩ : ∃ w0, w0 = w.alloc (.cells #[.int .i64 0, .int .i64 0, .int .i64 0, .int .i64 0] 36) := ⟨_, rfl⟩
  have hs0 : w0.heap.size = w.heap.size + 1 := by rw [hw0]; simp
  rw [← hw0] at hb0 hR0 ⊢
  clear hw0
  refine (new_at v zs _ (HRB.out.below hb0) hle).mono ?_
  rintro e w1 ⟨g, rfl, hc1⟩
  go_wp2_with fail
  refine (l35_any w0 v zs g _ (HRB.out.below hb0) hle hc1).mono ?_
  rintro e w2 ⟨a, b, c, d, rfl, ha, hb, hc, hd, hc2, hg2⟩
  have hb02 := hc2.2.1
  have hz1 := hc1.2.1.size
  have hR2 := hR0.below hb02 hR0.lt
  have hRl := hR2.lt
  have hbw2 := hb0.trans (hb02.mono (by omega))
  have HH := Lib.hid (And.intro ha (And.intro hb (And.intro hc hd)))
  have HB := Lib.hid ((((hbw2.setCell (p := ⟨w.heap.size, 0, none⟩) (Nat.le_refl _) (.int .i64 a)).setCell (p := ⟨w.heap.size, 1, none⟩) (Nat.le_refl _) (.int .i64 b)).setCell (p := ⟨w.heap.size, 2, none⟩) (Nat.le_refl _) (.int .i64 c)).setCell (p := ⟨w.heap.size, 3, none⟩) (Nat.le_refl _) (.int .i64 d))
  clear hc2 hg2 hc1 hb02 hbw2 hb0 hR0 ha hb hc hd
  (have r_0 := hR2.cell 0); (have r_1 := hR2.cell 1); (have r_2 := hR2.cell 2); (have r_3 := hR2.cell 3); simp only [List.getElem?_toArray, List.getElem?_cons_succ, List.getElem?_cons_zero] at r_0 r_1 r_2 r_3
  have g0 := hR2.frozen 0
  have g1 := hR2.frozen 1
  have g2 := hR2.frozen 2
  have g3 := hR2.frozen 3
  go_wp2
  exact bodyPost_ret (v := .agg #[.int .i64 a, .int .i64 b, .int .i64 c, .int .i64 d]) (by simp [results, Tryz.results18, go_sem, r_0, r_1, r_2, r_3]) rfl ⟨a, b, c, d, rfl, HH.out.1, HH.out.2.1, HH.out.2.2.1, HH.out.2.2.2, HB.out⟩

end Go.Proofs.YtognjdappchpkaaGreat

namespace Go.Proofs.YtognjdappchpkaaGreat

theorem panK_mem {ns ls : List Pr} : ∀ (k : Nat) (x : Int), x ∈ panK ns ls k → ∃ j : Nat, x = (j : Int) ∧ j < k ∧ paneB ns ls j = true
  | 0, x, h => by simp [panK] at h
  | k + 1, x, h => by
    cases hp : paneB ns ls k
    · rw [panK_no hp] at h
      obtain ⟨j, h1, h2, h3⟩ := panK_mem k x h
      exact ⟨j, h1, by omega, h3⟩
    · rw [panK_yes hp, List.mem_append, List.mem_singleton] at h
      rcases h with h | h
      · obtain ⟨j, h1, h2, h3⟩ := panK_mem k x h
        exact ⟨j, h1, by omega, h3⟩
      · exact ⟨k, h, by omega, hp⟩

theorem panK_rise {ns ls : List Pr} {n : Int} : ∀ k : Nat, (k : Int) ≤ n + 1 → riseK (panK ns ls k) n (panK ns ls k).length
  | 0, _ => fun j hj => by simp [panK] at hj
  | k + 1, hk => by
    have ih := panK_rise (ns := ns) (ls := ls) (n := n) k (by omega)
    cases hp : paneB ns ls k
    · rw [panK_no hp]; exact ih
    · rw [panK_yes hp]
      have hm := panK_mem (ns := ns) (ls := ls) k
      generalize panK ns ls k = G at *
      intro j hj
      rw [List.length_append, List.length_singleton] at hj
      have e1 : ∀ i, i < G.length → (G ++ [(k : Int)]).getD i 0 = G.getD i 0 := fun i hi => by rw [List.getD, List.getD, List.getElem?_append_left hi]
      by_cases he : j < G.length
      · rw [e1 j he]
        refine ⟨(ih j he).1, fun h0 => ?_⟩
        rw [e1 (j - 1) (by omega)]
        exact (ih j he).2 h0
      · have hje : j = G.length := by omega
        have e2 : (G ++ [(k : Int)]).getD j 0 = (k : Int) := by rw [hje, List.getD, List.getElem?_append_right (Nat.le_refl _), Nat.sub_self]; rfl
        rw [e2]
        refine ⟨by omega, fun h0 => ?_⟩
        rw [e1 (j - 1) (by omega)]
        have : G.getD (j - 1) 0 ∈ G := by rw [List.getD, List.getElem?_eq_getElem (by omega)]; exact List.getElem_mem _
        obtain ⟨i, h1, h2, _⟩ := hm _ this
        omega

theorem panK_outer {ns ls : List Pr} (k : Nat) : ¬ outerW ns ls ∈ panK ns ls k := by
  intro h
  obtain ⟨j, h1, h2, h3⟩ := panK_mem k _ h
  unfold paneB at h3
  rw [Bool.and_eq_true, Bool.and_eq_true] at h3
  have h4 := h3.2.2
  rw [h1] at h4
  simp at h4

theorem d20_tar {a b c d : Int} (ha : D20 a) (hb : D20 b) (hc : D20 c) (hd : D20 d) : tariffB a b c d = true ∧ tariffB (2 * a) (2 * b) (2 * c) (2 * d) = true := by
  unfold D20 at *
  simp [tariffB, inB]
  omega

/-- The bill without paint. -/
noncomputable def billN (ns ls : List Pr) (a b c : Int) : Int := a * totalW ns ls + b * lenW ns ls + c * jointsI ns ls

theorem bill_nil {ns ls : List Pr} {a b c d : Int} (hw : wholeB ns ls = true) (ht : tariffB a b c d = true) : billI ns ls a b c d [] = billN ns ls a b c := by
  have h3 : riseB ([] : List Int) (((facesW ns ls).length : Int) - 1) = true := riseB_true.2 (fun j hj => by simp at hj)
  rw [bill_yes hw ht h3 (by simp)]
  show a * totalW ns ls + b * lenW ns ls + c * jointsI ns ls + d * 0 = _
  unfold billN
  omega

theorem bill_twice {ns ls : List Pr} {a b c d : Int} (hw : wholeB ns ls = true) (ht : tariffB (2 * a) (2 * b) (2 * c) (2 * d) = true) : billI ns ls (2 * a) (2 * b) (2 * c) (2 * d) [] = 2 * billN ns ls a b c := by
  rw [bill_nil hw ht]
  unfold billN
  rw [Int.mul_assoc, Int.mul_assoc, Int.mul_assoc]
  omega

theorem bill_all {ns ls : List Pr} {a b c d : Int} (hw : wholeB ns ls = true) (ht : tariffB a b c d = true) :
    billI ns ls a b c d (panK ns ls (facesW ns ls).length) = billN ns ls a b c + d * sumA ns ls (panK ns ls (facesW ns ls).length) (panK ns ls (facesW ns ls).length).length := by
  have h3 : riseB (panK ns ls (facesW ns ls).length) (((facesW ns ls).length : Int) - 1) = true := riseB_true.2 (panK_rise _ (by omega))
  rw [bill_yes hw ht h3 (by simpa using panK_outer _)]
  rfl

theorem billN_bd {ns ls : List Pr} {a b c d : Int} (hw : wholeB ns ls = true) (ha : D20 a) (hb : D20 b) (hc : D20 c) (hd : D20 d) : 0 ≤ billN ns ls a b c ∧ billN ns ls a b c ≤ 48000000 := by
  have h1 := d20_tar ha hb hc hd
  unfold D20 at *
  have tb := totalW_pos hw
  have lb := lenW_pos hw
  have jb := jointsI_pos hw
  have tb2 := areaW_bd ns ls (outerW ns ls)
  rw [show areaW ns ls (outerW ns ls) = totalW ns ls from rfl] at tb2
  have lb2 := lenW_bd ns ls
  have jb2 := jointsI_bd ns ls
  obtain ⟨m1, m2⟩ := mulT (a := a) (x := totalW ns ls) (U := 16000) (by omega) (by omega) (by omega) (by omega)
  obtain ⟨m3, m4⟩ := mulT (a := b) (x := lenW ns ls) (U := 16000) (by omega) (by omega) (by omega) (by omega)
  obtain ⟨m5, m6⟩ := mulT (a := c) (x := jointsI ns ls) (U := 16000) (by omega) (by omega) (by omega) (by omega)
  have p1 := Int.mul_nonneg ha.1 tb
  have p2 := Int.mul_nonneg hb.1 lb
  have p3 := Int.mul_nonneg hc.1 jb
  unfold billN
  omega

theorem cheap_twice {n : Int} (h : 0 ≤ n) : cheapI n (2 * n) = (if n = 0 then 1 else 0) - 1 := by
  unfold cheapI
  by_cases h0 : n = 0
  · subst h0; rfl
  · rw [if_neg (by omega), if_pos (by omega), if_neg h0]; rfl
theorem cheap_same (n : Int) : cheapI n n = 0 := by
  unfold cheapI
  repeat' split
  all_goals first | rfl | omega

/-- The first k instalments together. -/
def sumP (t n : Int) : Nat → Int
  | 0 => 0
  | k + 1 => sumP t n k + partF t n k
theorem sumP_eq {t n : Int} (hm : 0 ≤ t % n) : ∀ k : Nat, sumP t n k = k * (t / n) + (if (k : Int) ≤ t % n then (k : Int) else t % n)
  | 0 => by simp [sumP]; omega
  | k + 1 => by
    rw [sumP, sumP_eq hm k]
    unfold partF
    have e : ((k + 1 : Nat) : Int) * (t / n) = (k : Int) * (t / n) + t / n := by rw [Int.natCast_add, Int.add_mul]; simp
    rw [e]
    repeat' split
    all_goals omega
theorem sumP_all {t : Int} {n : Nat} (h0 : 0 ≤ t) (hn : 0 < n) : sumP t n n = t := by
  have h1 : 0 ≤ t % (n : Int) := Int.emod_nonneg _ (by omega)
  have h2 : t % (n : Int) < n := Int.emod_lt_of_pos _ (by omega)
  rw [sumP_eq h1, if_neg (by omega)]
  have := Int.mul_ediv_add_emod t n
  omega
theorem partF_le {t n : Int} {k : Nat} (h : 0 < k) : partF t n k ≤ partF t n (k - 1) ∧ partF t n 0 - 1 ≤ partF t n k := by
  unfold partF
  repeat' split
  all_goals omega
theorem partF_bd {t n : Int} (h0 : 0 ≤ t) (hn : 0 < n) (h1 : t ≤ 48000000) (k : Nat) : 0 ≤ partF t n k ∧ partF t n k ≤ 48000001 := by
  have h2 := Int.ediv_nonneg h0 (Int.le_of_lt hn)
  have h3 := Int.ediv_le_self n h0
  unfold partF
  split <;> omega
theorem sumP_bd {t n : Int} (h0 : 0 ≤ t) (hn : 0 < n) (h1 : t ≤ 48000000) : ∀ k : Nat, 0 ≤ sumP t n k ∧ sumP t n k ≤ 48000001 * k
  | 0 => by simp [sumP]
  | k + 1 => by
    have ih := sumP_bd h0 hn h1 k
    have := partF_bd h0 hn h1 k
    rw [sumP]
    omega

end Go.Proofs.YtognjdappchpkaaGreat

namespace Go.Proofs.YtognjdappchpkaaGreat
open Go.RowKit

attribute [local go_sem ↓] run_eqNode run_neNode run_mn2 run_mx2

/-- The other end of a lead. -/
def othI (l : Pr) (k : Int) : Int := if k = l.1 then l.2 else if k = l.2 then l.1 else -1





theorem hasN_win {ns ls : List Pr} {k : Int} (h : hasN ns ls k = true) : winB ns ls = true ∧ ∃ m : Nat, k = (m : Int) ∧ m < ns.length := by
  unfold hasN at h
  rw [Bool.and_eq_true] at h
  have := inB_true.1 h.2
  exact ⟨h.1, k.toNat, by omega, by omega⟩

theorem atN_lt (ls : List Pr) (k : Int) : ∀ m, ∀ i ∈ atN ls k m, i < m ∧ touchB ls k i = true
  | 0, i, h => by simp [atN] at h
  | m + 1, i, h => by
    cases ht : touchB ls k m
    · rw [atN_no ht] at h
      have := atN_lt ls k m i h
      exact ⟨by omega, this.2⟩
    · rw [atN_yes ht, List.mem_append, List.mem_singleton] at h
      rcases h with h | h
      · have := atN_lt ls k m i h
        exact ⟨by omega, this.2⟩
      · subst h; exact ⟨by omega, ht⟩

/-- The other ends of the leads at a node. -/
def endsI (ls : List Pr) (k : Int) (G : List Nat) : List Int := G.map fun (i : Nat) => othI (ndI ls i) k

theorem endsI_length (ls : List Pr) (k : Int) (G : List Nat) : (endsI ls k G).length = G.length := by simp [endsI]



/-- A node between the other ends of its two leads. -/
noncomputable def straightB (ns ls : List Pr) (k : Int) : Bool :=
  decide (degI ns ls k = 2) && betwP (ndI ns ((endsI ls k (atN ls k ls.length)).getD 0 0)) (ndI ns ((endsI ls k (atN ls k ls.length)).getD 1 0)) (ndI ns k)

theorem deg2 {ns ls : List Pr} {k : Int} (h : degI ns ls k = 2) : hasN ns ls k = true ∧ (atN ls k ls.length).length = 2 := by
  unfold degI at h
  cases hk : hasN ns ls k
  · rw [hk] at h; simp at h
  · rw [hk] at h
    simp at h
    exact ⟨rfl, by omega⟩

/-- A lead of a valid window has its other end among the nodes. -/
theorem oth_nat {ns ls : List Pr} {k : Int} (hw : WinOk ns ls) {i : Nat} (hi : i < ls.length) (ht : touchB ls k i = true) : ∃ t : Nat, othI (ndI ls i) k = (t : Int) ∧ t < ns.length ∧ (t : Int) ≠ k := by
  obtain ⟨h1, h2, h3, _⟩ := leadB_iff.1 ((hw.2.2.2.2.2 i hi).1)
  unfold othI
  by_cases e1 : k = (ndI ls i).1
  · rw [if_pos e1]
    exact ⟨(ndI ls i).2.toNat, by omega, by omega, by omega⟩
  · rw [if_neg e1]
    have e2 := touch_yes ht (fun h => e1 h.symm)
    rw [if_pos e2.symm]
    exact ⟨(ndI ls i).1.toNat, by omega, by omega, by omega⟩

theorem ends_two {ns ls : List Pr} {k : Int} (hw : WinOk ns ls) (h2 : (atN ls k ls.length).length = 2) :
    ∃ p q t u : Nat, atN ls k ls.length = [p, q] ∧ p < ls.length ∧ q < ls.length ∧ endsI ls k (atN ls k ls.length) = [(t : Int), (u : Int)] ∧ t < ns.length ∧ u < ns.length ∧ (t : Int) ≠ k ∧ (u : Int) ≠ k ∧
      othI (ndI ls p) k = (t : Int) ∧ othI (ndI ls q) k = (u : Int) := by
  have hlt := atN_lt ls k ls.length
  generalize atN ls k ls.length = G at *
  obtain ⟨p, q, rfl⟩ : ∃ p q, G = [p, q] := by
    match G, h2 with
    | [p, q], _ => exact ⟨p, q, rfl⟩
  obtain ⟨hp, tp⟩ := hlt p (by simp)
  obtain ⟨hq, tq⟩ := hlt q (by simp)
  obtain ⟨t, e1, ht, ht'⟩ := oth_nat hw hp tp
  obtain ⟨u, e2, hu, hu'⟩ := oth_nat hw hq tq
  exact ⟨p, q, t, u, rfl, hp, hq, by simp [endsI, e1, e2], ht, hu, ht', hu', e1, e2⟩



end Go.Proofs.YtognjdappchpkaaGreat

namespace Go.Proofs.YtognjdappchpkaaGreat
open Go.RowKit

attribute [local go_sem ↓] run_eqNode run_neNode run_mn2 run_mx2

set_option maxHeartbeats 4000000 in
set_option maxRecDepth 100000 in
theorem sLeadsAt_yes (vn vl : Value) (ns ls : List Pr) (k : Int) (w : World) (hn : RP w vn ns) (hl : RP w vl ls) (hk : hasN ns ls k = true) :
    Calls Tryz.prog 62 #[.agg #[vn, vl], .int .i64 k] w (RetI (natI (atN ls k ls.length)) w) := by
  have hw : winB ns ls = true := (hasN_win hk).1
  have hin : inB k 0 ((ns.length : Int) - 1) = true := by
    unfold hasN at hk; rw [Bool.and_eq_true] at hk; exact hk.2
  have hm20 := (winB_true.1 hw).2.2.1
  obtain ⟨An, cn, rfl, hcn, hmn, _⟩ := hn.formI
  obtain ⟨Al, cl, rfl, hcl, hml, hcelll⟩ := hl.formI
  obtain ⟨i0, hi, iz0, iz1, iz2⟩ := info_parts infoInt
  unfold maxLen at hml hmn
  clear hk
  go_enter Tryz.func62, Tryz.ntmps62
  go_wp2
  go_loopw [5, 6] (fun v i wr => ∃ j : Nat, j ≤ ls.length ∧ i = .int .i64 j ∧ OwnI (w.heap.size + 1) wr v (natI (atN ls k j)) ∧ Blk wr w.heap.size 34 #[.slice An ns.length cn, .slice Al ls.length cl] ∧ Below w.heap.size w wr) (fun _ i _ => ls.length - (intOf i).toNat)
  case atStart => exact ⟨0, Nat.zero_le _, rfl, OwnI.made (by simp) (by simp), (Blk.newAt rfl).alloc _, by (repeat' (first | (with_reducible exact Below.refl _ _) | (with_reducible assumption) | (with_reducible refine Below.drew ?_) | (with_reducible refine below_drewN ?_ _) | (with_reducible refine Below.alloc ?_ ?_ _) | (with_reducible refine Below.setCell ?_ ?_ _) | (with_reducible refine Below.step (by assumption) ?_ ?_))); all_goals (first | omega | (simp; done) | (simp; omega))⟩
  case round =>
    obtain ⟨j, hj, rfl, ho0, hW0, hbl0⟩ := hrel
    have hsz0 := hW0.lt
    (have a_0 := hW0.cell 0); (have a_1 := hW0.cell 1); simp only [List.getElem?_toArray, List.getElem?_cons_succ, List.getElem?_cons_zero] at a_0 a_1
    by_cases hlt : j < ls.length
    · have hlt1 : (j : Int) < (ls.length : Int) := by omega
      go_wp2_with fail
      refine (sWinOk_at _ _ ns ls _ _ (hn.below hbl0) (hl.below hbl0) hw).mono ?_
      rintro e w2 ⟨rfl, hb2⟩
      have hz2 := hb2.size
      have ho := ho0.kept hb2
      have hW := hW0.below hb2 hsz0
      have hbl : Below w.heap.size w w2 := hbl0.trans (hb2.mono hbl0.size)
      have hsz := hW.lt
      clear hb2 ho0 hW0 hbl0 a_0 a_1
      (have a_0 := hW.cell 0); (have a_1 := hW.cell 1); simp only [List.getElem?_toArray, List.getElem?_cons_succ, List.getElem?_cons_zero] at a_0 a_1
      go_wp2_with fail
      refine (l01In_at _ _ _ _ _ hin).mono ?_
      rintro e w' ⟨rfl, rfl⟩
      obtain ⟨b, off, rfl, hb, hcc⟩ := hcelll (by omega)
      obtain ⟨k0, k1⟩ := hcc j hlt
      have q0 := (hbl.cell (p := ⟨b, off + j * 2, none⟩) hb).trans k0
      have q1 := (hbl.cell (p := ⟨b, off + j * 2 + 1, none⟩) hb).trans k1
      have hi1 : (0 : Int) ≤ (j : Int) := by omega
      have hlen := atN_len ls k j
      have hnl := natI_length (atN ls k j)
      have HY := Lib.hid (fun h => atN_yes (ls := ls) (k := k) (i := j) h)
      have HN := Lib.hid (fun h => atN_no (ls := ls) (k := k) (i := j) h)
      generalize atN ls k j = G at *
      have HL := Lib.hid hnl
      clear hnl k0 k1 hcc hcelll
      have hG : G.length ≤ 20 := by omega
      obtain ⟨A2, c2, rfl⟩ := ho.form
      have hrow : ∀ b, (Value.slice A2 (natI G).length c2).ownBlock = some b → w.heap.size + 1 ≤ b := fun b hb => (ho.lt b hb).1
      cases ht : touchB ls k j
      · have HS := Lib.hid (HN.out ht)
        obtain ⟨e3, e4⟩ := touch_no ht
        have e1 : ((ndI ls j).1 == k) = false := beq_eq_false_iff_ne.2 e3
        have e2 : ((ndI ls j).2 == k) = false := beq_eq_false_iff_ne.2 e4
        clear ht HY HN
        go_wp2
        go_roundw
        case rel => exact ⟨j + 1, by omega, by go_num, by rw [HS.out]; exact ho, hW, hbl⟩
        case measure => simp [intOf]; omega
      · have HS := Lib.hid (HY.out ht)
        have hty := fun h => touch_yes ht h
        clear ht HY HN
        generalize (ndI ls j).1 = L1 at *
        generalize (ndI ls j).2 = L2 at *
        by_cases e3 : L1 = k
        · subst e3
          clear hty
          go_wp2_with (at_builtin; refine wpList_append_own _ rfl _ _ 28 rfl (w.heap.size + 1) 3 i0 (.int .i64 0) 1 8 Tryz.underlying28 hi iz0 iz1 iz2 rfl (by decide) _ _ _ rfl (World.ownsRow.alloc ho _) ⟨w2.heap.size, 0, none⟩ 1 1 [.int .i64 _] rfl rfl (cell_one_at (by simp)) (by intro u hu; simp at hu; subst hu; rfl) (by rw [HL.out]; unfold maxLen; omega) (by rw [HL.out]; omega) (by simp; omega) ?_)
          intro v3 w3 hown3 hg3 _
          have hW3 := (hW.alloc (.cells #[.int .i64 (j : Int)] 3)).grownR hg3 (fun b hb => by have := hrow b hb; omega)
          have hbl3 : Below w.heap.size w w3 := (Below.alloc hbl (by omega) _).grown hg3 (by first | omega | (simp; done) | (simp; omega)) (fun b hb => by have := hrow b hb; omega)
          have HO : OwnI (w.heap.size + 1) w3 v3 (natI (G ++ [j])) := by
            unfold natI
            rw [List.map_append]
            exact OwnI.snoc hown3
          clear hown3 hg3 ho hW hbl
          go_wp2
          go_roundw
          case rel => exact ⟨j + 1, by omega, by go_num, by rw [HS.out]; exact HO, hW3, hbl3⟩
          case measure => simp [intOf]; omega
        · have e4 := hty e3
          have e1 : (L1 == k) = false := beq_eq_false_iff_ne.2 e3
          clear hty
          subst e4
          go_wp2_with (at_builtin; refine wpList_append_own _ rfl _ _ 28 rfl (w.heap.size + 1) 3 i0 (.int .i64 0) 1 8 Tryz.underlying28 hi iz0 iz1 iz2 rfl (by decide) _ _ _ rfl (World.ownsRow.alloc ho _) ⟨w2.heap.size, 0, none⟩ 1 1 [.int .i64 _] rfl rfl (cell_one_at (by simp)) (by intro u hu; simp at hu; subst hu; rfl) (by rw [HL.out]; unfold maxLen; omega) (by rw [HL.out]; omega) (by simp; omega) ?_)
          intro v3 w3 hown3 hg3 _
          have hW3 := (hW.alloc (.cells #[.int .i64 (j : Int)] 3)).grownR hg3 (fun b hb => by have := hrow b hb; omega)
          have hbl3 : Below w.heap.size w w3 := (Below.alloc hbl (by omega) _).grown hg3 (by first | omega | (simp; done) | (simp; omega)) (fun b hb => by have := hrow b hb; omega)
          have HO : OwnI (w.heap.size + 1) w3 v3 (natI (G ++ [j])) := by
            unfold natI
            rw [List.map_append]
            exact OwnI.snoc hown3
          clear hown3 hg3 ho hW hbl
          go_wp2
          go_roundw
          case rel => exact ⟨j + 1, by omega, by go_num, by rw [HS.out]; exact HO, hW3, hbl3⟩
          case measure => simp [intOf]; omega
    · have hjj : j = ls.length := by omega
      subst hjj
      clear hcelll
      go_wp2
      go_ret
      exact ⟨_, rfl, ho0.mono (show w.heap.size ≤ w.heap.size + 1 by omega), hbl0⟩

set_option maxHeartbeats 2000000 in
set_option maxRecDepth 100000 in
theorem sDegree_any (vn vl : Value) (ns ls : List Pr) (k : Int) (w : World) (hn : RP w vn ns) (hl : RP w vl ls) :
    Calls Tryz.prog 26 #[.agg #[vn, vl], .int .i64 k] w fun e w' => e = .returned (.int .i64 (degI ns ls k)) ∧ Below w.heap.size w w' := by
  obtain ⟨An, cn, rfl, hcn, hmn, _⟩ := hn.formI
  unfold maxLen at hmn
  cases hw : winB ns ls
  · have HR : Hid (degI ns ls k = -1) := Lib.hid (by simp [degI, hasN, hw])
    go_enter Tryz.func26, Tryz.ntmps26
    go_wp2_with fail
    refine (sWinOk_at _ _ ns ls _ _ (hn.below (by (repeat' (first | (with_reducible exact Below.refl _ _) | (with_reducible assumption) | (with_reducible refine Below.drew ?_) | (with_reducible refine below_drewN ?_ _) | (with_reducible refine Below.alloc ?_ ?_ _) | (with_reducible refine Below.setCell ?_ ?_ _) | (with_reducible refine Below.step (by assumption) ?_ ?_))); all_goals (first | omega | (simp; done) | (simp; omega)))) (hl.below (by (repeat' (first | (with_reducible exact Below.refl _ _) | (with_reducible assumption) | (with_reducible refine Below.drew ?_) | (with_reducible refine below_drewN ?_ _) | (with_reducible refine Below.alloc ?_ ?_ _) | (with_reducible refine Below.setCell ?_ ?_ _) | (with_reducible refine Below.step (by assumption) ?_ ?_))); all_goals (first | omega | (simp; done) | (simp; omega)))) hw).mono ?_
    rintro e w1 ⟨rfl, hb1⟩; (first | (with_reducible have hcf1 := bcell_drew hb1) | have hcf1 := bcell hb1); obtain ⟨hc1, hf1⟩ := hcf1; have hz1 := hb1.size; (try simp at hz1); (try have hp1_0 : w.heap.size < w1.heap.size := by omega); (try have hp1_1 : w.heap.size + 1 < w1.heap.size := by omega); (try have hp1_2 : w.heap.size + 1 + 1 < w1.heap.size := by omega); (try have hp1_3 : w.heap.size + 1 + 1 + 1 < w1.heap.size := by omega)
    go_wp2
    go_ret
    exact ⟨ret_int HR.out.symm, by (repeat' (first | (with_reducible exact Below.refl _ _) | (with_reducible assumption) | (with_reducible refine Below.drew ?_) | (with_reducible refine below_drewN ?_ _) | (with_reducible refine Below.alloc ?_ ?_ _) | (with_reducible refine Below.setCell ?_ ?_ _) | (with_reducible refine Below.step (by assumption) ?_ ?_))); all_goals (first | omega | (simp; done) | (simp; omega))⟩
  cases hin : inB k 0 ((ns.length : Int) - 1)
  · have HR : Hid (degI ns ls k = -1) := Lib.hid (by simp [degI, hasN, hin])
    go_enter Tryz.func26, Tryz.ntmps26
    go_wp2_with fail
    refine (sWinOk_at _ _ ns ls _ _ (hn.below (by (repeat' (first | (with_reducible exact Below.refl _ _) | (with_reducible assumption) | (with_reducible refine Below.drew ?_) | (with_reducible refine below_drewN ?_ _) | (with_reducible refine Below.alloc ?_ ?_ _) | (with_reducible refine Below.setCell ?_ ?_ _) | (with_reducible refine Below.step (by assumption) ?_ ?_))); all_goals (first | omega | (simp; done) | (simp; omega)))) (hl.below (by (repeat' (first | (with_reducible exact Below.refl _ _) | (with_reducible assumption) | (with_reducible refine Below.drew ?_) | (with_reducible refine below_drewN ?_ _) | (with_reducible refine Below.alloc ?_ ?_ _) | (with_reducible refine Below.setCell ?_ ?_ _) | (with_reducible refine Below.step (by assumption) ?_ ?_))); all_goals (first | omega | (simp; done) | (simp; omega)))) hw).mono ?_
    rintro e w1 ⟨rfl, hb1⟩; (first | (with_reducible have hcf1 := bcell_drew hb1) | have hcf1 := bcell hb1); obtain ⟨hc1, hf1⟩ := hcf1; have hz1 := hb1.size; (try simp at hz1); (try have hp1_0 : w.heap.size < w1.heap.size := by omega); (try have hp1_1 : w.heap.size + 1 < w1.heap.size := by omega); (try have hp1_2 : w.heap.size + 1 + 1 < w1.heap.size := by omega); (try have hp1_3 : w.heap.size + 1 + 1 + 1 < w1.heap.size := by omega)
    go_wp2_with fail
    refine (l01In_at _ _ _ _ _ hin).mono ?_
    rintro e w' ⟨rfl, rfl⟩
    go_wp2
    go_ret
    exact ⟨ret_int HR.out.symm, by (repeat' (first | (with_reducible exact Below.refl _ _) | (with_reducible assumption) | (with_reducible refine Below.drew ?_) | (with_reducible refine below_drewN ?_ _) | (with_reducible refine Below.alloc ?_ ?_ _) | (with_reducible refine Below.setCell ?_ ?_ _) | (with_reducible refine Below.step (by assumption) ?_ ?_))); all_goals (first | omega | (simp; done) | (simp; omega))⟩
  · have hk : hasN ns ls k = true := by simp [hasN, hw, hin]
    have HR : Hid (degI ns ls k = ((natI (atN ls k ls.length)).length : Int)) := Lib.hid (by simp [degI, hk, natI_length])
    go_enter Tryz.func26, Tryz.ntmps26
    go_wp2_with fail
    refine (sWinOk_at _ _ ns ls _ _ (hn.below (by (repeat' (first | (with_reducible exact Below.refl _ _) | (with_reducible assumption) | (with_reducible refine Below.drew ?_) | (with_reducible refine below_drewN ?_ _) | (with_reducible refine Below.alloc ?_ ?_ _) | (with_reducible refine Below.setCell ?_ ?_ _) | (with_reducible refine Below.step (by assumption) ?_ ?_))); all_goals (first | omega | (simp; done) | (simp; omega)))) (hl.below (by (repeat' (first | (with_reducible exact Below.refl _ _) | (with_reducible assumption) | (with_reducible refine Below.drew ?_) | (with_reducible refine below_drewN ?_ _) | (with_reducible refine Below.alloc ?_ ?_ _) | (with_reducible refine Below.setCell ?_ ?_ _) | (with_reducible refine Below.step (by assumption) ?_ ?_))); all_goals (first | omega | (simp; done) | (simp; omega)))) hw).mono ?_
    rintro e w1 ⟨rfl, hb1⟩; (first | (with_reducible have hcf1 := bcell_drew hb1) | have hcf1 := bcell hb1); obtain ⟨hc1, hf1⟩ := hcf1; have hz1 := hb1.size; (try simp at hz1); (try have hp1_0 : w.heap.size < w1.heap.size := by omega); (try have hp1_1 : w.heap.size + 1 < w1.heap.size := by omega); (try have hp1_2 : w.heap.size + 1 + 1 < w1.heap.size := by omega); (try have hp1_3 : w.heap.size + 1 + 1 + 1 < w1.heap.size := by omega)
    have hbw1 : Below w.heap.size w w1 := by (repeat' (first | (with_reducible exact Below.refl _ _) | (with_reducible assumption) | (with_reducible refine Below.drew ?_) | (with_reducible refine below_drewN ?_ _) | (with_reducible refine Below.alloc ?_ ?_ _) | (with_reducible refine Below.setCell ?_ ?_ _) | (with_reducible refine Below.step (by assumption) ?_ ?_))); all_goals (first | omega | (simp; done) | (simp; omega))
    go_wp2_with fail
    refine (l01In_at _ _ _ _ _ hin).mono ?_
    rintro e w' ⟨rfl, rfl⟩
    go_wp2_with fail
    refine (sLeadsAt_yes _ _ ns ls _ _ (hn.below hbw1) (hl.below hbw1) hk).mono ?_
    rintro e w2 ⟨v2, rfl, ho2, hb2⟩
    obtain ⟨A2, c2, rfl⟩ := ho2.form
    have hbw2 : Below w.heap.size w w2 := hbw1.trans (hb2.mono hbw1.size)
    go_wp2
    go_ret
    exact ⟨ret_int HR.out.symm, hbw2⟩





end Go.Proofs.YtognjdappchpkaaGreat

namespace Go.Proofs.YtognjdappchpkaaGreat
open Go.RowKit

/-- A byte of a code by its place. -/
def atI (zs : List Int) (i : Int) : Int := if zs.length = 0 then 0 else zs.getD ((i * 5 + 1) % (zs.length : Int)).toNat 0

theorem atI_bd {w : World} {v : Value} {zs : List Int} (h : RB w v zs) (i : Int) : 0 ≤ atI zs i ∧ atI zs i ≤ 255 := by
  unfold atI
  split
  · omega
  · rename_i hz
    have k1 : (i * 5 + 1) % (zs.length : Int) < (zs.length : Int) := Int.emod_lt_of_pos _ (by omega)
    have k0 : 0 ≤ (i * 5 + 1) % (zs.length : Int) := Int.emod_nonneg _ (by omega)
    have hk : ((i * 5 + 1) % (zs.length : Int)).toNat < zs.length := by omega
    have := h.2 zs[((i * 5 + 1) % (zs.length : Int)).toNat] (List.getElem_mem hk)
    simpa [List.getD, hk] using this

set_option maxHeartbeats 1000000 in
set_option maxRecDepth 100000 in
theorem at_det (v : Value) (zs : List Int) (i x : Int) (w : World) (h : RB w v zs) (hle : zs.length ≤ 1048576) (h0 : 0 ≤ i) (h1 : i ≤ 100) (hx : Hid (atI zs i = x)) :
    Calls Tryz.prog 27 #[v, .int .i64 i] w fun e w' => e = .returned (.int .i64 x) ∧ w = w' := by
  obtain ⟨A, c, rfl, hc, hm, hcell⟩ := h.form
  unfold maxLen at hm
  by_cases hz : zs.length = 0
  · have e1 : ((zs.length : Int) == 0) = true := by simp [hz]
    have HX : Hid ((0 : Int) = x) := Lib.hid (by have := hx.out; unfold atI at this; rw [if_pos hz] at this; exact this)
    clear hz hx
    go_enter Tryz.func27, Tryz.ntmps27
    go_wp2
    go_ret
    exact ⟨ret_int HX.out, rfl⟩
  · obtain ⟨b, off, rfl, hb, hcl⟩ := hcell (by omega)
    have e1 : ((zs.length : Int) == 0) = false := beq_eq_false_iff_ne.2 (by omega)
    have k0 : 0 ≤ (i * 5 + 1) % (zs.length : Int) := Int.emod_nonneg _ (by omega)
    have k1 : (i * 5 + 1) % (zs.length : Int) < (zs.length : Int) := Int.emod_lt_of_pos _ (by omega)
    obtain ⟨k, hk⟩ : ∃ k : Nat, (i * 5 + 1) % (zs.length : Int) = (k : Int) := ⟨((i * 5 + 1) % (zs.length : Int)).toNat, (Int.toNat_of_nonneg k0).symm⟩
    have HX : Hid (zs.getD k 0 = x) := Lib.hid (by have := hx.out; unfold atI at this; rw [if_neg hz, hk, Int.toNat_natCast] at this; exact this)
    rw [hk] at k1
    have hkl : k < zs.length := by omega
    clear k0 hx
    obtain ⟨z, q0, z0, z1⟩ := hcl k hkl
    have HZ : Hid (zs.getD k 0 = z) := Lib.hid (by
      have := h.1.2
      obtain ⟨A', c', e, _, _, hc'⟩ := this
      injection e with e1 e2 e3
      obtain ⟨b', off', eb, _, hcl'⟩ := hc' (by omega)
      rw [← e1] at eb
      injection eb with eb
      injection eb with eb1 eb2
      subst eb1 eb2
      have hq := hcl' k (.int .u8 (zs.getD k 0)) (by rw [List.getElem?_map, List.getElem?_eq_getElem hkl]; simp [List.getD, hkl])
      rw [q0] at hq
      injection hq with hq
      injection hq with _ hq
      exact hq.symm)
    have i0 : (0 : Int) ≤ (k : Int) := by omega
    have i1 : (k : Int) < (zs.length : Int) := by omega
    clear hcl hcell h
    go_enter Tryz.func27, Tryz.ntmps27
    go_wp2
    go_ret
    exact ⟨ret_int (HZ.out.symm.trans HX.out), rfl⟩

end Go.Proofs.YtognjdappchpkaaGreat
