/-
  FnExactIsComplete: The program's IsComplete returns what the reference's returns, for all arguments. No condition.
-/
import Derived.Test.YtoknmjpnelbplaaGreatSPk1
import Derived.Test.YtoknmjpnelbplaaGreatQG
import Derived.Test.YtoknmjpnelbplaaGreatMin
import Derived.Test.YtoknmjpnelbplaaGreatDok
import Derived.Deep.RegionHeld3
import Derived.Test.YtoknmjpnelbplaaGreatLaw
set_option linter.unusedSimpArgs false
set_option linter.unusedVariables false
namespace Go.Proofs.YtoknmjpnelbplaaGreat
open Go.RowKit

set_option maxHeartbeats 4000000 in
set_option maxRecDepth 100000 in
theorem iAllW_any (v : Value) (zs : List Int) (x y : Int) (w : World) (h : RI w v zs) :
    Calls Tryz.prog 188 #[v, .int .i64 x, .int .i64 y] w fun e w' => e = .returned (.bool (inAll zs x y)) ∧ w = w' := by
  obtain ⟨A, c, rfl, hc, hm, hcell⟩ := h.form
  unfold maxLen at hm
  clear h
  have HBAD := Lib.hid (fun k (hk : k < zs.length) h => inAll_bad (a := x) (b := y) hk h)
  have HEND := Lib.hid (fun (h : inAllK zs x y zs.length) => inAll_true.2 h)
  go_enter Tryz.func188, Tryz.ntmps188
  go_wp2
  go_loop [11] (fun i => ∃ k : Nat, k ≤ zs.length ∧ i = .int .i64 k ∧ Hid (inAllK zs x y k)) (fun i => zs.length - (intOf i).toNat)
  case atStart => exact ⟨0, Nat.zero_le _, rfl, Lib.hid (fun j hj => absurd hj (by omega))⟩
  case round =>
    obtain ⟨k, hk, rfl, HT⟩ := hrel
    by_cases hlt : k < zs.length
    · obtain ⟨b, off, rfl, hb, hcl⟩ := hcell (by omega)
      have hck := hcl k hlt
      have hlt1 : (k : Int) < (zs.length : Int) := by omega
      have ik1 : (0 : Int) ≤ (k : Int) := by omega
      have HB1 := Lib.hid (HBAD.out k hlt)
      have HS1 : Hid (inB (zs.getD k 0) x y = true → inAllK zs x y (k + 1)) := Lib.hid (fun h j hj => by
        by_cases e : j = k
        · subst e; exact h
        · exact HT.out j (by omega))
      clear hcl hcell
      generalize zs.getD k 0 = z at *
      cases hq : inB z x y
      · have HX := Lib.hid (HB1.out hq)
        have HQ := Lib.hid hq
        clear hq
        go_wp2_with fail
        refine (within_at z x y false _ HQ.out).mono ?_
        rintro e w' ⟨rfl, rfl⟩
        go_wp2
        go_ret
        exact ⟨ret_bool HX.out.symm, rfl⟩
      · have HX := Lib.hid (HS1.out hq)
        have HQ := Lib.hid hq
        clear hq
        go_wp2_with fail
        refine (within_at z x y true _ HQ.out).mono ?_
        rintro e w' ⟨rfl, rfl⟩
        go_wp2
        go_round
        case rel => exact ⟨k + 1, by omega, by go_num, HX⟩
        case measure => simp [intOf]; omega
    · have hkk : k = zs.length := by omega
      subst hkk
      have HX := Lib.hid (HEND.out HT.out)
      clear hcell
      go_wp2
      go_ret
      exact ⟨ret_bool HX.out.symm, rfl⟩

set_option maxHeartbeats 4000000 in
set_option maxRecDepth 100000 in
theorem sColList_any (v : Value) (zs : List Int) (n : Nat) (w : World) (h : RI w v zs) (hn : n ≤ 40) :
    Calls Tryz.prog 118 #[.int .i64 n, v] w fun e w' => e = .returned (.bool (decide (zs.length = n) && inAll zs 0 5)) ∧ w = w' := by
  obtain ⟨A, c, rfl, hc, hm, hcell⟩ := h.form
  unfold maxLen at hm
  clear h
  obtain ⟨bl, hbl⟩ : ∃ x, decide (zs.length = n) = x := ⟨_, rfl⟩
  have hbl2 : ((zs.length : Int) == (n : Int)) = bl := by rw [← hbl, Bool.eq_iff_iff]; simp; omega
  rw [hbl]
  have HBL := Lib.hid hbl2
  have HBAD : Hid (∀ k, k < zs.length → inB (zs.getD k 0) 0 5 = false → (bl && inAll zs 0 5) = false) := Lib.hid (fun k (hk : k < zs.length) h => by rw [inAll_bad (a := 0) (b := 5) hk h]; cases bl <;> rfl)
  have HEND : Hid (inAllK zs 0 5 zs.length → (bl && inAll zs 0 5) = bl) := Lib.hid (fun (h : inAllK zs 0 5 zs.length) => by rw [inAll_true.2 h]; cases bl <;> rfl)
  clear hbl hbl2
  go_enter Tryz.func118, Tryz.ntmps118
  go_wp2
  go_loop [5] (fun i => ∃ k : Nat, k ≤ zs.length ∧ i = .int .i64 k ∧ Hid (inAllK zs 0 5 k)) (fun i => zs.length - (intOf i).toNat)
  case atStart => exact ⟨0, Nat.zero_le _, rfl, Lib.hid (fun j hj => absurd hj (by omega))⟩
  case round =>
    obtain ⟨k, hk, rfl, HT⟩ := hrel
    by_cases hlt : k < zs.length
    · obtain ⟨b, off, rfl, hb, hcl⟩ := hcell (by omega)
      have hck := hcl k hlt
      have hlt1 : (k : Int) < (zs.length : Int) := by omega
      have ik1 : (0 : Int) ≤ (k : Int) := by omega
      have HB1 := Lib.hid (HBAD.out k hlt)
      have HS1 : Hid (inB (zs.getD k 0) 0 5 = true → inAllK zs 0 5 (k + 1)) := Lib.hid (fun h j hj => by
        by_cases e : j = k
        · subst e; exact h
        · exact HT.out j (by omega))
      clear hcl hcell
      generalize zs.getD k 0 = z at *
      cases hq : inB z 0 5
      · have HX := Lib.hid (HB1.out hq)
        have HQ := Lib.hid hq
        clear hq
        go_wp2_with fail
        refine (l01In_at z 0 5 false _ HQ.out).mono ?_
        rintro e w' ⟨rfl, rfl⟩
        go_wp2
        go_ret
        exact ⟨ret_bool HX.out.symm, rfl⟩
      · have HX := Lib.hid (HS1.out hq)
        have HQ := Lib.hid hq
        clear hq
        go_wp2_with fail
        refine (l01In_at z 0 5 true _ HQ.out).mono ?_
        rintro e w' ⟨rfl, rfl⟩
        go_wp2
        go_round
        case rel => exact ⟨k + 1, by omega, by go_num, HX⟩
        case measure => simp [intOf]; omega
    · have hkk : k = zs.length := by omega
      have HX := Lib.hid (HEND.out (hkk ▸ HT.out))
      have HQ := HBL.out
      subst hkk
      clear hcell
      go_wp2
      go_ret
      exact ⟨ret_bool HX.out.symm, rfl⟩

theorem colors_parts {ns ls : List Pr} {cs : List Int} (h : colorsB ns ls cs = true) : wholeB ns ls = true ∧ cs.length = (facesW ns ls).length ∧ inAll cs 0 5 = true := by
  unfold colorsB at h
  rw [Bool.and_eq_true, Bool.and_eq_true, decide_eq_true_eq] at h
  exact h

set_option maxHeartbeats 8000000 in
set_option maxRecDepth 100000 in
theorem iColors_any (vn vl vc : Value) (ns ls : List Pr) (cs : List Int) (w : World) (hn : RP w vn ns) (hl : RP w vl ls) (hc : RI w vc cs) :
    Calls Tryz.prog 129 #[.agg #[vn, vl], vc] w fun e w' => e = .returned (.bool (colorsB ns ls cs)) ∧ Below w.heap.size w w' := by
  obtain ⟨Ac, cc, rfl, hcc, hmc, _⟩ := hc.form
  unfold maxLen at hmc
  have hb0 : Below w.heap.size w (w.alloc (.cells #[vn, vl] 38)) := by (repeat' (first | (with_reducible exact Below.refl _ _) | (with_reducible assumption) | (with_reducible refine Below.drew ?_) | (with_reducible refine below_drewN ?_ _) | (with_reducible refine Below.alloc ?_ ?_ _) | (with_reducible refine Below.setCell ?_ ?_ _) | (with_reducible refine Below.step (by assumption) ?_ ?_))); all_goals (first | omega | (simp; done) | (simp; omega))
  have hW0 : Blk (w.alloc (.cells #[vn, vl] 38)) w.heap.size 38 #[vn, vl] := Blk.newAt rfl
  cases hw : wholeB ns ls
  · have HR : Hid (colorsB ns ls cs = false) := Lib.hid (by unfold colorsB; rw [hw]; rfl)
    go_enter Tryz.func129, Tryz.ntmps129
    go_wp2_with fail
    refine (iWhole_at _ _ ns ls _ _ (hn.below hb0) (hl.below hb0) hw).mono ?_
    rintro e w1 ⟨rfl, hb1⟩
    have hbw1 := hb0.trans (hb1.mono hb0.size)
    go_wp2
    go_ret
    exact ⟨ret_bool HR.out.symm, hbw1⟩
  · have hfl := facesW_len ns ls
    have HFA := Lib.hid (fun (v : World) (h1 : RP v vn ns) (h2 : RP v vl ls) => iFaces_any vn vl ns ls v h1 h2)
    have HR : Hid (colorsB ns ls cs = (decide (cs.length = (facesW ns ls).length) && inAll cs 0 5)) := Lib.hid (by unfold colorsB; rw [hw]; rfl)
    generalize facesW ns ls = F at *
    by_cases hlen : cs.length = F.length
    · have HX : Hid (colorsB ns ls cs = inAll cs 0 5) := Lib.hid (by rw [HR.out, decide_eq_true hlen]; rfl)
      have e1 : ((cs.length : Int) == (F.length : Int)) = true := beq_iff_eq.2 (by omega)
      have HE1 := Lib.hid e1
      clear e1 hlen
      go_enter Tryz.func129, Tryz.ntmps129
      go_wp2_with fail
      refine (iWhole_at _ _ ns ls _ _ (hn.below hb0) (hl.below hb0) hw).mono ?_
      rintro e w1 ⟨rfl, hb1⟩
      have hbw1 := hb0.trans (hb1.mono hb0.size)
      have hW1 := hW0.below hb1 hW0.lt
      clear hb1
      (have a_0 := hW1.cell 0); (have a_1 := hW1.cell 1); simp only [List.getElem?_toArray, List.getElem?_cons_succ, List.getElem?_cons_zero] at a_0 a_1
      go_wp2_with fail
      refine (HFA.out _ (hn.below hbw1) (hl.below hbw1)).mono ?_
      rintro e w2 ⟨v2, rfl, ho2, hb2⟩
      obtain ⟨A2, c2, rfl⟩ := ho2.form
      have hbw2 := hbw1.trans (hb2.mono hbw1.size)
      have e1 := HE1.out
      go_wp2_with fail
      refine (iAllW_any _ cs 0 5 _ (hc.below hbw2)).mono ?_
      rintro e w' ⟨rfl, rfl⟩
      clear e1
      go_wp2
      go_ret
      exact ⟨ret_bool HX.out.symm, hbw2⟩
    · have HX : Hid (colorsB ns ls cs = false) := Lib.hid (by rw [HR.out, decide_eq_false hlen]; rfl)
      have e1 : ((cs.length : Int) == (F.length : Int)) = false := beq_eq_false_iff_ne.2 (by omega)
      have HE1 := Lib.hid e1
      clear e1 hlen
      go_enter Tryz.func129, Tryz.ntmps129
      go_wp2_with fail
      refine (iWhole_at _ _ ns ls _ _ (hn.below hb0) (hl.below hb0) hw).mono ?_
      rintro e w1 ⟨rfl, hb1⟩
      have hbw1 := hb0.trans (hb1.mono hb0.size)
      have hW1 := hW0.below hb1 hW0.lt
      clear hb1
      (have a_0 := hW1.cell 0); (have a_1 := hW1.cell 1); simp only [List.getElem?_toArray, List.getElem?_cons_succ, List.getElem?_cons_zero] at a_0 a_1
      go_wp2_with fail
      refine (HFA.out _ (hn.below hbw1) (hl.below hbw1)).mono ?_
      rintro e w2 ⟨v2, rfl, ho2, hb2⟩
      obtain ⟨A2, c2, rfl⟩ := ho2.form
      have hbw2 := hbw1.trans (hb2.mono hbw1.size)
      have e1 := HE1.out
      go_wp2
      go_ret
      exact ⟨ret_bool HX.out.symm, hbw2⟩

theorem iColors_at (vn vl vc : Value) (ns ls : List Pr) (cs : List Int) (b : Bool) (w : World) (hn : RP w vn ns) (hl : RP w vl ls) (hc : RI w vc cs) (hb : colorsB ns ls cs = b) :
    Calls Tryz.prog 129 #[.agg #[vn, vl], vc] w fun e w' => e = .returned (.bool b) ∧ Below w.heap.size w w' := by
  subst hb; exact iColors_any vn vl vc ns ls cs w hn hl hc

theorem clashF_yes {ns ls : List Pr} {cs : List Int} {m k : Nat} (h : clashP ns ls cs k = true) : clashF ns ls cs (m + 1) k = k := by simp only [clashF]; rw [if_pos h]
theorem clashF_no {ns ls : List Pr} {cs : List Int} {m k : Nat} (h : clashP ns ls cs k = false) : clashF ns ls cs (m + 1) k = clashF ns ls cs m (k + 1) := by simp only [clashF]; rw [if_neg (by rw [h]; simp)]

/-- What a round of ClashOf needs: the two faces beside a lead and whether it clashes. -/
theorem clash_at {ns ls : List Pr} {cs : List Int} (h : colorsB ns ls cs = true) {k : Nat} (hk : k < ls.length) :
    ∃ p q : Nat, (sidesL ns ls).getD (2 * k) 0 = (p : Int) ∧ (sidesL ns ls).getD (2 * k + 1) 0 = (q : Int) ∧ p < cs.length ∧ q < cs.length ∧ clashP ns ls cs k = (decide (¬ p = q) && decide (cs.getD p 0 = cs.getD q 0)) := by
  obtain ⟨h1, h2, _⟩ := colors_parts h
  have hfp := face_pos h1
  obtain ⟨p, hp, hpl⟩ := sidesL_bd hfp (show 2 * k < 2 * ls.length by omega)
  obtain ⟨q, hq, hql⟩ := sidesL_bd hfp (show 2 * k + 1 < 2 * ls.length by omega)
  refine ⟨p, q, hp, hq, by omega, by omega, ?_⟩
  unfold clashP
  rw [hp, hq, Int.toNat_natCast, Int.toNat_natCast]
  congr 1
  rw [Bool.eq_iff_iff]
  simp only [decide_eq_true_eq]
  omega

set_option maxHeartbeats 16000000 in
set_option maxRecDepth 100000 in
theorem iClash_any (vn vl vc : Value) (ns ls : List Pr) (cs : List Int) (w : World) (hn : RP w vn ns) (hl : RP w vl ls) (hc : RI w vc cs) :
    Calls Tryz.prog 130 #[.agg #[vn, vl], vc] w fun e w' => e = .returned (.int .i64 (clashI ns ls cs)) ∧ Below w.heap.size w w' := by
  obtain ⟨Ac, cc, rfl, hcc, hmc, hcell⟩ := hc.form
  unfold maxLen at hmc
  obtain ⟨Al, cl, rfl, hcl, hml, _⟩ := hl.formI
  unfold maxLen at hml
  have hb0 : Below w.heap.size w (w.alloc (.cells #[vn, .slice Al ls.length cl] 38)) := by (repeat' (first | (with_reducible exact Below.refl _ _) | (with_reducible assumption) | (with_reducible refine Below.drew ?_) | (with_reducible refine below_drewN ?_ _) | (with_reducible refine Below.alloc ?_ ?_ _) | (with_reducible refine Below.setCell ?_ ?_ _) | (with_reducible refine Below.step (by assumption) ?_ ?_))); all_goals (first | omega | (simp; done) | (simp; omega))
  have hW0 : Blk (w.alloc (.cells #[vn, .slice Al ls.length cl] 38)) w.heap.size 38 #[vn, .slice Al ls.length cl] := Blk.newAt rfl
  cases hw : colorsB ns ls cs
  · have HR : Hid (clashI ns ls cs = -1) := Lib.hid (by unfold clashI; rw [hw]; rfl)
    go_enter Tryz.func130, Tryz.ntmps130
    go_wp2_with fail
    refine (iColors_at _ _ _ ns ls cs _ _ (hn.below hb0) (hl.below hb0) (hc.below hb0) hw).mono ?_
    rintro e w1 ⟨rfl, hb1⟩
    have hbw1 := hb0.trans (hb1.mono hb0.size)
    go_wp2
    go_ret
    exact ⟨ret_int HR.out.symm, hbw1⟩
  · have HR : Hid (clashI ns ls cs = clashF ns ls cs ls.length 0) := Lib.hid (by unfold clashI; rw [hw]; rfl)
    obtain ⟨hwh, hlen, hall⟩ := colors_parts hw
    have hm20 := (whole_win hwh).1.2.2.1
    have HAT := Lib.hid (fun k (hk : k < ls.length) => clash_at hw hk)
    have HY := Lib.hid (fun m k h => clashF_yes (ns := ns) (ls := ls) (cs := cs) (m := m) (k := k) h)
    have HNo := Lib.hid (fun m k h => clashF_no (ns := ns) (ls := ls) (cs := cs) (m := m) (k := k) h)
    have HZ : Hid (∀ k, clashF ns ls cs 0 k = -1) := Lib.hid (fun _ => rfl)
    have HSL := Lib.hid (sidesL_len ns ls)
    have HSI : Hid (sidesI ns ls = sidesL ns ls) := Lib.hid (by unfold sidesI; rw [hwh]; rfl)
    have hfl := facesW_len ns ls
    have hlc : cs.length ≤ 40 := by omega
    clear hwh hall hlen hfl
    go_enter Tryz.func130, Tryz.ntmps130
    go_wp2_with fail
    refine (iColors_at _ _ _ ns ls cs _ _ (hn.below hb0) (hl.below hb0) (hc.below hb0) hw).mono ?_
    rintro e w1 ⟨rfl, hb1⟩
    have hbw1 := hb0.trans (hb1.mono hb0.size)
    have hW1 := hW0.below hb1 hW0.lt
    clear hb1 hw
    (have a_0 := hW1.cell 0); (have a_1 := hW1.cell 1); simp only [List.getElem?_toArray, List.getElem?_cons_succ, List.getElem?_cons_zero] at a_0 a_1
    go_wp2_with fail
    refine (iSides_any _ _ ns ls _ (hn.below hbw1) (hl.below hbw1)).mono ?_
    rw [HSI.out]
    rintro e w2 ⟨v2, rfl, ho2, hb2⟩
    have hbw2 := hbw1.trans (hb2.mono hbw1.size)
    have hW2 := hW1.below hb2 hW1.lt
    have hs2 := ho2.reads
    clear hb2 ho2 hW1 hbw1 a_0 a_1
    obtain ⟨As, cS, rfl, hcs, hms, hcells⟩ := hs2.form
    rw [HSL.out] at hcells ⊢
    clear hs2 hcs hms
    (have a_0 := hW2.cell 0); (have a_1 := hW2.cell 1); simp only [List.getElem?_toArray, List.getElem?_cons_succ, List.getElem?_cons_zero] at a_0 a_1
    go_wp2
    go_loopw [18] (fun x wr => ∃ k : Nat, k ≤ ls.length ∧ x = .int .i64 k ∧ Hid (clashF ns ls cs ls.length 0 = clashF ns ls cs (ls.length - k) k) ∧ Below w2.heap.size w2 wr) (fun x _ => ls.length - (intOf x).toNat)
    case atStart => exact ⟨0, Nat.zero_le _, rfl, Lib.hid rfl, Below.refl _ _⟩
    case round =>
      clear a_0 a_1
      obtain ⟨k, hk, rfl, HK, hbl⟩ := hrel
      have hWr := hW2.below hbl hW2.lt
      (have a_0 := hWr.cell 0); (have a_1 := hWr.cell 1); simp only [List.getElem?_toArray, List.getElem?_cons_succ, List.getElem?_cons_zero] at a_0 a_1
      have hWl := hWr.lt
      by_cases hlt : k < ls.length
      · obtain ⟨p, q, hp, hq, hpl, hql, hcp⟩ := HAT.out k hlt
        obtain ⟨b, off, rfl, hb, hcl2⟩ := hcells (by omega)
        obtain ⟨b3, off3, rfl, hb3, hcl3⟩ := hcell (by omega)
        have hx0 := (hbl.cell (p := ⟨b, off + 2 * k, none⟩) hb).trans (hcl2 (2 * k) (by omega))
        have hx1 := (hbl.cell (p := ⟨b, off + (2 * k + 1), none⟩) hb).trans (hcl2 (2 * k + 1) (by omega))
        rw [hp] at hx0
        rw [hq] at hx1
        have hbb := hbw2.trans (hbl.mono hbw2.size)
        have hy0 := (hbb.cell (p := ⟨b3, off3 + p, none⟩) hb3).trans (hcl3 p hpl)
        have hy1 := (hbb.cell (p := ⟨b3, off3 + q, none⟩) hb3).trans (hcl3 q hql)
        have hbz := Nat.lt_of_lt_of_le hb hbl.size
        have hbz3 := Nat.lt_of_lt_of_le hb3 hbb.size
        have hw0 : IntKind.i64.wrap (2 * (k : Int)) = ((2 * k : Nat) : Int) := by rw [show 2 * (k : Int) = ((2 * k : Nat) : Int) by omega]; exact IntWalk.i64_in _ (by omega)
        have hw1 : IntKind.i64.wrap (((2 * k : Nat) : Int) + 1) = ((2 * k + 1 : Nat) : Int) := by rw [show ((2 * k : Nat) : Int) + 1 = ((2 * k + 1 : Nat) : Int) by omega]; exact IntWalk.i64_in _ (by omega)
        have i0 : (0 : Int) ≤ ((2 * k : Nat) : Int) := by omega
        have i1 : ((2 * k : Nat) : Int) < ((2 * ls.length : Nat) : Int) := by omega
        have i2 : (0 : Int) ≤ ((2 * k + 1 : Nat) : Int) := by omega
        have i3 : ((2 * k + 1 : Nat) : Int) < ((2 * ls.length : Nat) : Int) := by omega
        have i4 : (0 : Int) ≤ (p : Int) := by omega
        have i5 : (p : Int) < (cs.length : Int) := by omega
        have i6 : (0 : Int) ≤ (q : Int) := by omega
        have i7 : (q : Int) < (cs.length : Int) := by omega
        have ik : (k : Int) < (ls.length : Int) := by omega
        have HY1 := Lib.hid (fun h => HY.out (ls.length - (k + 1)) k h)
        have HN1 := Lib.hid (fun h => HNo.out (ls.length - (k + 1)) k h)
        rw [show ls.length - (k + 1) + 1 = ls.length - k by omega] at HY1 HN1
        rw [hcp] at HY1 HN1
        clear hcl2 hcl3 hcells hcell hp hq hcp
        generalize cs.getD p 0 = cp at *
        generalize cs.getD q 0 = cq at *
        by_cases hpq : p = q
        · have e1 : ((p : Int) == (q : Int)) = true := beq_iff_eq.2 (by omega)
          have e2 : ((p : Int) != (q : Int)) = false := by rw [bne, e1]; rfl
          have HX := Lib.hid (HN1.out (by rw [decide_eq_false (by simp [hpq])]; rfl))
          clear hpq
          go_wp2_with fail
          (refine wp_region_quietG (by kernel_rfl) (by kernel_rfl) (fun hG => ?_))
          repeat (go_big_quiet_step (fail))
          refine wpQuiet_nil ?_
          clear hG
          rintro w5 ⟨⟨_, hs5⟩, rfl⟩
          have hy0' := (hs5.cell (p := ⟨b3, off3 + p, none⟩) hbz3).trans hy0
          have hy1' := (hs5.cell (p := ⟨b3, off3 + q, none⟩) hbz3).trans hy1
          have hbz3' := Nat.lt_of_lt_of_le hbz3 hs5.size
          clear hx0 hx1 hy0 hy1 hw0 hw1 a_0 a_1
          go_wp2_with fail
          (refine wp_region_quietG (by kernel_rfl) (by kernel_rfl) (fun hG => ?_))
          repeat (go_big_quiet_step (fail))
          refine wpQuiet_nil ?_
          clear hG
          rintro w6 ⟨⟨_, hs6⟩, rfl⟩
          have hbl6 := hbl.trans ((hs5.trans (hs6.mono hs5.size)).mono hbl.size)
          clear hy0' hy1' hs5 hs6 hbl hbb
          go_wp2
          go_roundw
          case rel => exact ⟨k + 1, by omega, by go_num, Lib.hid (by rw [HK.out, HX.out]), hbl6⟩
          case measure => simp [intOf]; omega
        · have e1 : ((p : Int) == (q : Int)) = false := beq_eq_false_iff_ne.2 (by omega)
          have e2 : ((p : Int) != (q : Int)) = true := by rw [bne, e1]; rfl
          by_cases hcq : cp = cq
          · have e3 : (cp == cq) = true := beq_iff_eq.2 hcq
            have HX := Lib.hid (HY1.out (by rw [decide_eq_true hpq, decide_eq_true hcq]; rfl))
            clear hpq hcq
            go_wp2_with fail
            (refine wp_region_quietG (by kernel_rfl) (by kernel_rfl) (fun hG => ?_))
            repeat (go_big_quiet_step (fail))
            refine wpQuiet_nil ?_
            clear hG
            rintro w5 ⟨⟨_, hs5⟩, rfl⟩
            have hy0' := (hs5.cell (p := ⟨b3, off3 + p, none⟩) hbz3).trans hy0
            have hy1' := (hs5.cell (p := ⟨b3, off3 + q, none⟩) hbz3).trans hy1
            have hbz3' := Nat.lt_of_lt_of_le hbz3 hs5.size
            clear hx0 hx1 hy0 hy1 hw0 hw1 a_0 a_1
            go_wp2_with fail
            (refine wp_region_quietG (by kernel_rfl) (by kernel_rfl) (fun hG => ?_))
            repeat (go_big_quiet_step (fail))
            refine wpQuiet_nil ?_
            clear hG
            rintro w6 ⟨⟨_, hs6⟩, rfl⟩
            have hbl6 := hbl.trans ((hs5.trans (hs6.mono hs5.size)).mono hbl.size)
            clear hy0' hy1' hs5 hs6 hbl hbb
            go_wp2
            go_ret
            exact ⟨ret_int (by rw [HR.out, HK.out, HX.out]), hbw2.trans (hbl6.mono hbw2.size)⟩
          · have e3 : (cp == cq) = false := beq_eq_false_iff_ne.2 hcq
            have HX := Lib.hid (HN1.out (by rw [decide_eq_false hcq]; simp))
            clear hpq hcq
            go_wp2_with fail
            (refine wp_region_quietG (by kernel_rfl) (by kernel_rfl) (fun hG => ?_))
            repeat (go_big_quiet_step (fail))
            refine wpQuiet_nil ?_
            clear hG
            rintro w5 ⟨⟨_, hs5⟩, rfl⟩
            have hy0' := (hs5.cell (p := ⟨b3, off3 + p, none⟩) hbz3).trans hy0
            have hy1' := (hs5.cell (p := ⟨b3, off3 + q, none⟩) hbz3).trans hy1
            have hbz3' := Nat.lt_of_lt_of_le hbz3 hs5.size
            clear hx0 hx1 hy0 hy1 hw0 hw1 a_0 a_1
            go_wp2_with fail
            (refine wp_region_quietG (by kernel_rfl) (by kernel_rfl) (fun hG => ?_))
            repeat (go_big_quiet_step (fail))
            refine wpQuiet_nil ?_
            clear hG
            rintro w6 ⟨⟨_, hs6⟩, rfl⟩
            have hbl6 := hbl.trans ((hs5.trans (hs6.mono hs5.size)).mono hbl.size)
            clear hy0' hy1' hs5 hs6 hbl hbb
            go_wp2
            go_roundw
            case rel => exact ⟨k + 1, by omega, by go_num, Lib.hid (by rw [HK.out, HX.out]), hbl6⟩
            case measure => simp [intOf]; omega
      · have hkk : k = ls.length := by omega
        have HE := Lib.hid (HK.out)
        subst hkk
        rw [Nat.sub_self, HZ.out] at HE
        have hbb := hbw2.trans (hbl.mono hbw2.size)
        clear hcells hcell
        go_wp2
        go_ret
        exact ⟨ret_int (by rw [HR.out, HE.out]), hbb⟩

set_option maxHeartbeats 16000000 in
set_option maxRecDepth 100000 in
theorem sClash_any (vn vl vc : Value) (ns ls : List Pr) (cs : List Int) (w : World) (hn : RP w vn ns) (hl : RP w vl ls) (hc : RI w vc cs) :
    Calls Tryz.prog 120 #[.agg #[vn, vl], vc] w fun e w' => e = .returned (.int .i64 (clashI ns ls cs)) ∧ Below w.heap.size w w' := by
  obtain ⟨Ac, cc, rfl, hcc, hmc, hcell⟩ := hc.form
  unfold maxLen at hmc
  obtain ⟨Al, cl, rfl, hcl, hml, _⟩ := hl.formI
  unfold maxLen at hml
  have hb0 : Below w.heap.size w (w.alloc (.cells #[vn, .slice Al ls.length cl] 38)) := by (repeat' (first | (with_reducible exact Below.refl _ _) | (with_reducible assumption) | (with_reducible refine Below.drew ?_) | (with_reducible refine below_drewN ?_ _) | (with_reducible refine Below.alloc ?_ ?_ _) | (with_reducible refine Below.setCell ?_ ?_ _) | (with_reducible refine Below.step (by assumption) ?_ ?_))); all_goals (first | omega | (simp; done) | (simp; omega))
  have hW0 : Blk (w.alloc (.cells #[vn, .slice Al ls.length cl] 38)) w.heap.size 38 #[vn, .slice Al ls.length cl] := Blk.newAt rfl
  cases hw : colorsB ns ls cs
  · have HR : Hid (clashI ns ls cs = -1) := Lib.hid (by unfold clashI; rw [hw]; rfl)
    cases hwh : wholeB ns ls
    · go_enter Tryz.func120, Tryz.ntmps120
      go_wp2_with fail
      refine (sWhole_at _ _ ns ls _ _ (hn.below hb0) (hl.below hb0) hwh).mono ?_
      rintro e w1 ⟨rfl, hb1⟩
      have hbw1 := hb0.trans (hb1.mono hb0.size)
      go_wp2
      go_ret
      exact ⟨ret_int HR.out.symm, hbw1⟩
    · have hfl := facesW_len ns ls
      have HFA := Lib.hid (fun (v : World) (h1 : RP v vn ns) (h2 : RP v (.slice Al ls.length cl) ls) => sFaces_any vn (.slice Al ls.length cl) ns ls v h1 h2)
      have HL : Hid ((decide (cs.length = (facesW ns ls).length) && inAll cs 0 5) = false) := Lib.hid (by unfold colorsB at hw; rw [hwh] at hw; exact hw)
      generalize facesW ns ls = F at *
      go_enter Tryz.func120, Tryz.ntmps120
      go_wp2_with fail
      refine (sWhole_at _ _ ns ls _ _ (hn.below hb0) (hl.below hb0) hwh).mono ?_
      rintro e w1 ⟨rfl, hb1⟩
      have hbw1 := hb0.trans (hb1.mono hb0.size)
      have hW1 := hW0.below hb1 hW0.lt
      clear hb1
      (have a_0 := hW1.cell 0); (have a_1 := hW1.cell 1); simp only [List.getElem?_toArray, List.getElem?_cons_succ, List.getElem?_cons_zero] at a_0 a_1
      go_wp2_with fail
      refine (HFA.out _ (hn.below hbw1) (hl.below hbw1)).mono ?_
      rintro e w2 ⟨v2, rfl, ho2, hb2⟩
      obtain ⟨A2, c2, rfl⟩ := ho2.form
      have hbw2 := hbw1.trans (hb2.mono hbw1.size)
      go_wp2_with fail
      refine (sColList_any _ cs F.length _ (hc.below hbw2) hfl).mono ?_
      rw [HL.out]
      rintro e w' ⟨rfl, rfl⟩
      go_wp2
      go_ret
      exact ⟨ret_int HR.out.symm, hbw2⟩
  · have HR : Hid (clashI ns ls cs = clashF ns ls cs ls.length 0) := Lib.hid (by unfold clashI; rw [hw]; rfl)
    obtain ⟨hwh, hlen, hall⟩ := colors_parts hw
    have hm20 := (whole_win hwh).1.2.2.1
    have HAT := Lib.hid (fun k (hk : k < ls.length) => clash_at hw hk)
    have HY := Lib.hid (fun m k h => clashF_yes (ns := ns) (ls := ls) (cs := cs) (m := m) (k := k) h)
    have HNo := Lib.hid (fun m k h => clashF_no (ns := ns) (ls := ls) (cs := cs) (m := m) (k := k) h)
    have HZ : Hid (∀ k, clashF ns ls cs 0 k = -1) := Lib.hid (fun _ => rfl)
    have HSL := Lib.hid (sidesL_len ns ls)
    have hfl := facesW_len ns ls
    have hlc : cs.length ≤ 40 := by omega
    have HFA := Lib.hid (fun (v : World) (h1 : RP v vn ns) (h2 : RP v (.slice Al ls.length cl) ls) => sFaces_any vn (.slice Al ls.length cl) ns ls v h1 h2)
    have HL : Hid ((decide (cs.length = (facesW ns ls).length) && inAll cs 0 5) = true) := Lib.hid (by rw [decide_eq_true hlen, hall]; rfl)
    have HWH := Lib.hid hwh
    have HSD := Lib.hid (fun (v : World) (h1 : RP v vn ns) (h2 : RP v (.slice Al ls.length cl) ls) => sSides_any vn (.slice Al ls.length cl) ns ls v h1 h2 hwh)
    clear hall hlen hw hwh
    generalize facesW ns ls = F at *
    go_enter Tryz.func120, Tryz.ntmps120
    go_wp2_with fail
    refine (sWhole_at _ _ ns ls _ _ (hn.below hb0) (hl.below hb0) HWH.out).mono ?_
    rintro e w1 ⟨rfl, hb1⟩
    have hbw1' := hb0.trans (hb1.mono hb0.size)
    have hW1' := hW0.below hb1 hW0.lt
    clear hb1
    (have a_0 := hW1'.cell 0); (have a_1 := hW1'.cell 1); simp only [List.getElem?_toArray, List.getElem?_cons_succ, List.getElem?_cons_zero] at a_0 a_1
    go_wp2_with fail
    refine (HFA.out _ (hn.below hbw1') (hl.below hbw1')).mono ?_
    rintro e w1b ⟨v2, rfl, ho2, hb2⟩
    obtain ⟨A2, c2, rfl⟩ := ho2.form
    have hbw1 := hbw1'.trans (hb2.mono hbw1'.size)
    have hW1 := hW1'.below hb2 hW1'.lt
    clear hb2 ho2 hW1' hbw1' a_0 a_1
    go_wp2_with fail
    refine (sColList_any _ cs F.length _ (hc.below hbw1) hfl).mono ?_
    rw [HL.out]
    rintro e w' ⟨rfl, rfl⟩
    (have a_0 := hW1.cell 0); (have a_1 := hW1.cell 1); simp only [List.getElem?_toArray, List.getElem?_cons_succ, List.getElem?_cons_zero] at a_0 a_1
    go_wp2_with fail
    refine (HSD.out _ (hn.below hbw1) (hl.below hbw1)).mono ?_
    rintro e w2 ⟨v2, rfl, ho2, hb2⟩
    have hbw2 := hbw1.trans (hb2.mono hbw1.size)
    have hW2 := hW1.below hb2 hW1.lt
    have hs2 := ho2.reads
    clear hb2 ho2 hW1 hbw1 a_0 a_1
    obtain ⟨As, cS, rfl, hcs, hms, hcells⟩ := hs2.form
    rw [HSL.out] at hcells ⊢
    clear hs2 hcs hms
    (have a_0 := hW2.cell 0); (have a_1 := hW2.cell 1); simp only [List.getElem?_toArray, List.getElem?_cons_succ, List.getElem?_cons_zero] at a_0 a_1
    go_wp2
    go_loopw [6] (fun x wr => ∃ k : Nat, k ≤ ls.length ∧ x = .int .i64 k ∧ Hid (clashF ns ls cs ls.length 0 = clashF ns ls cs (ls.length - k) k) ∧ Below w2.heap.size w2 wr) (fun x _ => ls.length - (intOf x).toNat)
    case atStart => exact ⟨0, Nat.zero_le _, rfl, Lib.hid rfl, Below.refl _ _⟩
    case round =>
      clear a_0 a_1
      obtain ⟨k, hk, rfl, HK, hbl⟩ := hrel
      have hWr := hW2.below hbl hW2.lt
      (have a_0 := hWr.cell 0); (have a_1 := hWr.cell 1); simp only [List.getElem?_toArray, List.getElem?_cons_succ, List.getElem?_cons_zero] at a_0 a_1
      have hWl := hWr.lt
      by_cases hlt : k < ls.length
      · obtain ⟨p, q, hp, hq, hpl, hql, hcp⟩ := HAT.out k hlt
        obtain ⟨b, off, rfl, hb, hcl2⟩ := hcells (by omega)
        obtain ⟨b3, off3, rfl, hb3, hcl3⟩ := hcell (by omega)
        have hx0 := (hbl.cell (p := ⟨b, off + 2 * k, none⟩) hb).trans (hcl2 (2 * k) (by omega))
        have hx1 := (hbl.cell (p := ⟨b, off + (2 * k + 1), none⟩) hb).trans (hcl2 (2 * k + 1) (by omega))
        rw [hp] at hx0
        rw [hq] at hx1
        have hbb := hbw2.trans (hbl.mono hbw2.size)
        have hy0 := (hbb.cell (p := ⟨b3, off3 + p, none⟩) hb3).trans (hcl3 p hpl)
        have hy1 := (hbb.cell (p := ⟨b3, off3 + q, none⟩) hb3).trans (hcl3 q hql)
        have hbz := Nat.lt_of_lt_of_le hb hbl.size
        have hbz3 := Nat.lt_of_lt_of_le hb3 hbb.size
        have hw0 : IntKind.i64.wrap (2 * (k : Int)) = ((2 * k : Nat) : Int) := by rw [show 2 * (k : Int) = ((2 * k : Nat) : Int) by omega]; exact IntWalk.i64_in _ (by omega)
        have hw1 : IntKind.i64.wrap (((2 * k : Nat) : Int) + 1) = ((2 * k + 1 : Nat) : Int) := by rw [show ((2 * k : Nat) : Int) + 1 = ((2 * k + 1 : Nat) : Int) by omega]; exact IntWalk.i64_in _ (by omega)
        have i0 : (0 : Int) ≤ ((2 * k : Nat) : Int) := by omega
        have i1 : ((2 * k : Nat) : Int) < ((2 * ls.length : Nat) : Int) := by omega
        have i2 : (0 : Int) ≤ ((2 * k + 1 : Nat) : Int) := by omega
        have i3 : ((2 * k + 1 : Nat) : Int) < ((2 * ls.length : Nat) : Int) := by omega
        have i4 : (0 : Int) ≤ (p : Int) := by omega
        have i5 : (p : Int) < (cs.length : Int) := by omega
        have i6 : (0 : Int) ≤ (q : Int) := by omega
        have i7 : (q : Int) < (cs.length : Int) := by omega
        have ik : (k : Int) < (ls.length : Int) := by omega
        have HY1 := Lib.hid (fun h => HY.out (ls.length - (k + 1)) k h)
        have HN1 := Lib.hid (fun h => HNo.out (ls.length - (k + 1)) k h)
        rw [show ls.length - (k + 1) + 1 = ls.length - k by omega] at HY1 HN1
        rw [hcp] at HY1 HN1
        clear hcl2 hcl3 hcells hcell hp hq hcp
        generalize cs.getD p 0 = cp at *
        generalize cs.getD q 0 = cq at *
        by_cases hpq : p = q
        · have e1 : ((p : Int) == (q : Int)) = true := beq_iff_eq.2 (by omega)
          have e2 : ((p : Int) != (q : Int)) = false := by rw [bne, e1]; rfl
          have HX := Lib.hid (HN1.out (by rw [decide_eq_false (by simp [hpq])]; rfl))
          clear hpq
          go_wp2_with fail
          (refine wp_region_quietG (by kernel_rfl) (by kernel_rfl) (fun hG => ?_))
          repeat (go_big_quiet_step (fail))
          refine wpQuiet_nil ?_
          clear hG
          rintro w5 ⟨⟨_, hs5⟩, rfl⟩
          have hbl6 := hbl.trans (hs5.mono hbl.size)
          clear hx0 hx1 hy0 hy1 hw0 hw1 a_0 a_1 hs5 hbl hbb
          go_wp2
          go_roundw
          case rel => exact ⟨k + 1, by omega, by go_num, Lib.hid (by rw [HK.out, HX.out]), hbl6⟩
          case measure => simp [intOf]; omega
        · have e1 : ((p : Int) == (q : Int)) = false := beq_eq_false_iff_ne.2 (by omega)
          have e2 : ((p : Int) != (q : Int)) = true := by rw [bne, e1]; rfl
          by_cases hcq : cp = cq
          · have e3 : (cp == cq) = true := beq_iff_eq.2 hcq
            have HX := Lib.hid (HY1.out (by rw [decide_eq_true hpq, decide_eq_true hcq]; rfl))
            clear hpq hcq
            go_wp2_with fail
            (refine wp_region_quietG (by kernel_rfl) (by kernel_rfl) (fun hG => ?_))
            repeat (go_big_quiet_step (fail))
            refine wpQuiet_nil ?_
            clear hG
            rintro w5 ⟨⟨_, hs5⟩, rfl⟩
            have hbl6 := hbl.trans (hs5.mono hbl.size)
            clear hx0 hx1 hy0 hy1 hw0 hw1 a_0 a_1 hs5 hbl hbb
            go_wp2
            go_ret
            exact ⟨ret_int (by rw [HR.out, HK.out, HX.out]), hbw2.trans (hbl6.mono hbw2.size)⟩
          · have e3 : (cp == cq) = false := beq_eq_false_iff_ne.2 hcq
            have HX := Lib.hid (HN1.out (by rw [decide_eq_false hcq]; simp))
            clear hpq hcq
            go_wp2_with fail
            (refine wp_region_quietG (by kernel_rfl) (by kernel_rfl) (fun hG => ?_))
            repeat (go_big_quiet_step (fail))
            refine wpQuiet_nil ?_
            clear hG
            rintro w5 ⟨⟨_, hs5⟩, rfl⟩
            have hbl6 := hbl.trans (hs5.mono hbl.size)
            clear hx0 hx1 hy0 hy1 hw0 hw1 a_0 a_1 hs5 hbl hbb
            go_wp2
            go_roundw
            case rel => exact ⟨k + 1, by omega, by go_num, Lib.hid (by rw [HK.out, HX.out]), hbl6⟩
            case measure => simp [intOf]; omega
      · have hkk : k = ls.length := by omega
        have HE := Lib.hid (HK.out)
        subst hkk
        rw [Nat.sub_self, HZ.out] at HE
        have hbb := hbw2.trans (hbl.mono hbw2.size)
        clear hcells hcell
        go_wp2
        go_ret
        exact ⟨ret_int (by rw [HR.out, HE.out]), hbb⟩

theorem sClash_at (vn vl vc : Value) (ns ls : List Pr) (cs : List Int) (x : Int) (w : World) (hn : RP w vn ns) (hl : RP w vl ls) (hc : RI w vc cs) (hx : clashI ns ls cs = x) :
    Calls Tryz.prog 120 #[.agg #[vn, vl], vc] w fun e w' => e = .returned (.int .i64 x) ∧ Below w.heap.size w w' := by
  subst hx; exact sClash_any vn vl vc ns ls cs w hn hl hc

theorem iClash_at (vn vl vc : Value) (ns ls : List Pr) (cs : List Int) (x : Int) (w : World) (hn : RP w vn ns) (hl : RP w vl ls) (hc : RI w vc cs) (hx : clashI ns ls cs = x) :
    Calls Tryz.prog 130 #[.agg #[vn, vl], vc] w fun e w' => e = .returned (.int .i64 x) ∧ Below w.heap.size w w' := by
  subst hx; exact iClash_any vn vl vc ns ls cs w hn hl hc

set_option maxHeartbeats 8000000 in
set_option maxRecDepth 100000 in
theorem iProper_any (vn vl vc : Value) (ns ls : List Pr) (cs : List Int) (w : World) (hn : RP w vn ns) (hl : RP w vl ls) (hc : RI w vc cs) :
    Calls Tryz.prog 71 #[.agg #[vn, vl], vc] w fun e w' => e = .returned (.bool (properB ns ls cs)) ∧ Below w.heap.size w w' := by
  have hb0 : Below w.heap.size w (w.alloc (.cells #[vn, vl] 38)) := by (repeat' (first | (with_reducible exact Below.refl _ _) | (with_reducible assumption) | (with_reducible refine Below.drew ?_) | (with_reducible refine below_drewN ?_ _) | (with_reducible refine Below.alloc ?_ ?_ _) | (with_reducible refine Below.setCell ?_ ?_ _) | (with_reducible refine Below.step (by assumption) ?_ ?_))); all_goals (first | omega | (simp; done) | (simp; omega))
  have hW0 : Blk (w.alloc (.cells #[vn, vl] 38)) w.heap.size 38 #[vn, vl] := Blk.newAt rfl
  obtain ⟨x, hx⟩ : ∃ x, clashI ns ls cs = x := ⟨_, rfl⟩
  have HX := Lib.hid hx
  cases hw : colorsB ns ls cs
  · have HR : Hid (properB ns ls cs = false) := Lib.hid (by unfold properB; rw [hw]; rfl)
    go_enter Tryz.func71, Tryz.ntmps71
    go_wp2_with fail
    refine (iColors_at _ _ _ ns ls cs _ _ (hn.below hb0) (hl.below hb0) (hc.below hb0) hw).mono ?_
    rintro e w1 ⟨rfl, hb1⟩
    have hbw1 := hb0.trans (hb1.mono hb0.size)
    go_wp2
    go_ret
    exact ⟨ret_bool HR.out.symm, hbw1⟩
  · have HR : Hid (properB ns ls cs = decide (x < 0)) := Lib.hid (by unfold properB; rw [hw, hx]; rfl)
    clear hx
    go_enter Tryz.func71, Tryz.ntmps71
    go_wp2_with fail
    refine (iColors_at _ _ _ ns ls cs _ _ (hn.below hb0) (hl.below hb0) (hc.below hb0) hw).mono ?_
    rintro e w1 ⟨rfl, hb1⟩
    have hbw1 := hb0.trans (hb1.mono hb0.size)
    have hW1 := hW0.below hb1 hW0.lt
    clear hb1
    (have a_0 := hW1.cell 0); (have a_1 := hW1.cell 1); simp only [List.getElem?_toArray, List.getElem?_cons_succ, List.getElem?_cons_zero] at a_0 a_1
    go_wp2_with fail
    refine (iClash_at _ _ _ ns ls cs x _ (hn.below hbw1) (hl.below hbw1) (hc.below hbw1) HX.out).mono ?_
    rintro e w2 ⟨rfl, hb2⟩
    have hbw2 := hbw1.trans (hb2.mono hbw1.size)
    go_wp2
    go_ret
    exact ⟨ret_bool HR.out.symm, hbw2⟩

set_option maxHeartbeats 8000000 in
set_option maxRecDepth 100000 in
theorem sProper_any (vn vl vc : Value) (ns ls : List Pr) (cs : List Int) (w : World) (hn : RP w vn ns) (hl : RP w vl ls) (hc : RI w vc cs) :
    Calls Tryz.prog 62 #[.agg #[vn, vl], vc] w fun e w' => e = .returned (.bool (properB ns ls cs)) ∧ Below w.heap.size w w' := by
  have hb0 : Below w.heap.size w (w.alloc (.cells #[vn, vl] 38)) := by (repeat' (first | (with_reducible exact Below.refl _ _) | (with_reducible assumption) | (with_reducible refine Below.drew ?_) | (with_reducible refine below_drewN ?_ _) | (with_reducible refine Below.alloc ?_ ?_ _) | (with_reducible refine Below.setCell ?_ ?_ _) | (with_reducible refine Below.step (by assumption) ?_ ?_))); all_goals (first | omega | (simp; done) | (simp; omega))
  have hW0 : Blk (w.alloc (.cells #[vn, vl] 38)) w.heap.size 38 #[vn, vl] := Blk.newAt rfl
  obtain ⟨x, hx⟩ : ∃ x, clashI ns ls cs = x := ⟨_, rfl⟩
  have HX := Lib.hid hx
  cases hw : wholeB ns ls
  · have HR : Hid (properB ns ls cs = false) := Lib.hid (by unfold properB colorsB; rw [hw]; rfl)
    go_enter Tryz.func62, Tryz.ntmps62
    go_wp2_with fail
    refine (sWhole_at _ _ ns ls _ _ (hn.below hb0) (hl.below hb0) hw).mono ?_
    rintro e w1 ⟨rfl, hb1⟩
    have hbw1 := hb0.trans (hb1.mono hb0.size)
    go_wp2
    go_ret
    exact ⟨ret_bool HR.out.symm, hbw1⟩
  · have hfl := facesW_len ns ls
    have HFA := Lib.hid (fun (v : World) (h1 : RP v vn ns) (h2 : RP v vl ls) => sFaces_any vn vl ns ls v h1 h2)
    obtain ⟨bl, hbl⟩ : ∃ b, (decide (cs.length = (facesW ns ls).length) && inAll cs 0 5) = b := ⟨_, rfl⟩
    have HR : Hid (properB ns ls cs = (bl && decide (x < 0))) := Lib.hid (by unfold properB colorsB; rw [hw, hx, hbl]; rfl)
    have HL := Lib.hid hbl
    clear hbl hx
    generalize facesW ns ls = F at *
    go_enter Tryz.func62, Tryz.ntmps62
    go_wp2_with fail
    refine (sWhole_at _ _ ns ls _ _ (hn.below hb0) (hl.below hb0) hw).mono ?_
    rintro e w1 ⟨rfl, hb1⟩
    have hbw1 := hb0.trans (hb1.mono hb0.size)
    have hW1 := hW0.below hb1 hW0.lt
    clear hb1
    (have a_0 := hW1.cell 0); (have a_1 := hW1.cell 1); simp only [List.getElem?_toArray, List.getElem?_cons_succ, List.getElem?_cons_zero] at a_0 a_1
    go_wp2_with fail
    refine (HFA.out _ (hn.below hbw1) (hl.below hbw1)).mono ?_
    rintro e w2 ⟨v2, rfl, ho2, hb2⟩
    obtain ⟨A2, c2, rfl⟩ := ho2.form
    have hbw2 := hbw1.trans (hb2.mono hbw1.size)
    have hW2 := hW1.below hb2 hW1.lt
    clear hb2 ho2 hW1 hbw1 a_0 a_1
    go_wp2_with fail
    refine (sColList_any _ cs F.length _ (hc.below hbw2) hfl).mono ?_
    rw [HL.out]
    rintro e w' ⟨rfl, rfl⟩
    (have a_0 := hW2.cell 0); (have a_1 := hW2.cell 1); simp only [List.getElem?_toArray, List.getElem?_cons_succ, List.getElem?_cons_zero] at a_0 a_1
    cases bl
    · go_wp2
      go_ret
      exact ⟨ret_bool HR.out.symm, hbw2⟩
    · go_wp2_with fail
      refine (sClash_at _ _ _ ns ls cs x _ (hn.below hbw2) (hl.below hbw2) (hc.below hbw2) HX.out).mono ?_
      rintro e w3 ⟨rfl, hb3⟩
      have hbw3 := hbw2.trans (hb3.mono hbw2.size)
      go_wp2
      go_ret
      exact ⟨ret_bool HR.out.symm, hbw3⟩

theorem sProper_at (vn vl vc : Value) (ns ls : List Pr) (cs : List Int) (b : Bool) (w : World) (hn : RP w vn ns) (hl : RP w vl ls) (hc : RI w vc cs) (hb : properB ns ls cs = b) :
    Calls Tryz.prog 62 #[.agg #[vn, vl], vc] w fun e w' => e = .returned (.bool b) ∧ Below w.heap.size w w' := by
  subst hb; exact sProper_any vn vl vc ns ls cs w hn hl hc

theorem iProper_at (vn vl vc : Value) (ns ls : List Pr) (cs : List Int) (b : Bool) (w : World) (hn : RP w vn ns) (hl : RP w vl ls) (hc : RI w vc cs) (hb : properB ns ls cs = b) :
    Calls Tryz.prog 71 #[.agg #[vn, vl], vc] w fun e w' => e = .returned (.bool b) ∧ Below w.heap.size w w' := by
  subst hb; exact iProper_any vn vl vc ns ls cs w hn hl hc

end Go.Proofs.YtoknmjpnelbplaaGreat

namespace Go.Proofs.YtoknmjpnelbplaaGreat
open Go.RowKit
attribute [local go_sem ↓] run_mn2 run_mx2

/-- The first node of a part. -/
theorem iPartFirst_any (vn vl : Value) (ns ls : List Pr) (k : Nat) (w : World) (hn : RP w vn ns) (hl : RP w vl ls) (hk : k < ns.length) (hn12 : ns.length ≤ 12) (hm20 : ls.length ≤ 20) (hld : ∀ j : Nat, j < ls.length → leadB ns (ndI ls j) = true) :
    Calls Tryz.prog 131 #[.agg #[vn, vl], .int .i64 k] w fun e w' => ∃ b off n c, ∃ p : Nat, e = .returned (.slice (some ⟨b, off, none⟩) n c) ∧ 0 < n ∧ b < w'.heap.size ∧ w'.cell? ⟨b, off, none⟩ = some (.int .i64 p) ∧
      (partsK ns.length ls ls.length).getD k 0 = (p : Int) ∧ p ≤ k ∧ Below w.heap.size w w' := by
  refine (iPartOf_any vn vl ns ls k w hn hl hk hn12 hm20 hld).mono ?_
  rintro e w' ⟨v, rfl, ho, hb⟩
  obtain ⟨p, h1, h2, h3⟩ := part_first (ends_in hld) hk
  obtain ⟨hp, hp'⟩ := List.getElem?_eq_some_iff.1 h3
  obtain ⟨A, c, rfl, _, _, hcell⟩ := ho.reads.form
  obtain ⟨b, off, rfl, hlt, hc⟩ := hcell (by rw [natI_length]; exact hp)
  refine ⟨b, off, _, c, p, rfl, by rw [natI_length]; exact hp, hlt, ?_, h1, h2, hb⟩
  have := hc 0 (by rw [natI_length]; exact hp)
  rw [Nat.add_zero] at this
  rw [this]
  unfold natI
  rw [List.getD, List.getElem?_map, h3]
  rfl

set_option maxHeartbeats 4000000 in
set_option maxRecDepth 100000 in
theorem iCParts_any (vn vl : Value) (ns ls : List Pr) (w : World) (hn : RP w vn ns) (hl : RP w vl ls) :
    Calls Tryz.prog 191 #[.agg #[vn, vl]] w fun e w' => e = .returned (.int .i64 (partsW ns ls)) ∧ Below w.heap.size w w' := by
  cases hw : winB ns ls
  · have HR : Hid (partsW ns ls = 0) := Lib.hid (by simp [partsW, hw])
    go_enter Tryz.func191, Tryz.ntmps191
    go_wp2_with fail
    refine (iWinOk_at _ _ ns ls _ _ (hn.below (by (repeat' (first | (with_reducible exact Below.refl _ _) | (with_reducible assumption) | (with_reducible refine Below.drew ?_) | (with_reducible refine below_drewN ?_ _) | (with_reducible refine Below.alloc ?_ ?_ _) | (with_reducible refine Below.setCell ?_ ?_ _) | (with_reducible refine Below.step (by assumption) ?_ ?_))); all_goals (first | omega | (simp; done) | (simp; omega)))) (hl.below (by (repeat' (first | (with_reducible exact Below.refl _ _) | (with_reducible assumption) | (with_reducible refine Below.drew ?_) | (with_reducible refine below_drewN ?_ _) | (with_reducible refine Below.alloc ?_ ?_ _) | (with_reducible refine Below.setCell ?_ ?_ _) | (with_reducible refine Below.step (by assumption) ?_ ?_))); all_goals (first | omega | (simp; done) | (simp; omega)))) hw).mono ?_
    rintro e w1 ⟨rfl, hb1⟩; (first | (with_reducible have hcf1 := bcell_drew hb1) | have hcf1 := bcell hb1); obtain ⟨hc1, hf1⟩ := hcf1; have hz1 := hb1.size; (try simp at hz1); (try have hp1_0 : w.heap.size < w1.heap.size := by omega); (try have hp1_1 : w.heap.size + 1 < w1.heap.size := by omega); (try have hp1_2 : w.heap.size + 1 + 1 < w1.heap.size := by omega); (try have hp1_3 : w.heap.size + 1 + 1 + 1 < w1.heap.size := by omega)
    go_wp2
    go_ret
    exact ⟨ret_int HR.out.symm, by (repeat' (first | (with_reducible exact Below.refl _ _) | (with_reducible assumption) | (with_reducible refine Below.drew ?_) | (with_reducible refine below_drewN ?_ _) | (with_reducible refine Below.alloc ?_ ?_ _) | (with_reducible refine Below.setCell ?_ ?_ _) | (with_reducible refine Below.step (by assumption) ?_ ?_))); all_goals (first | omega | (simp; done) | (simp; omega))⟩
  · have HR : Hid (partsW ns ls = (partC ns.length ls ns.length : Int)) := Lib.hid (by simp [partsW, hw])
    have hwin := winB_true.1 hw
    have hn12 := hwin.2.1
    have hm20 := hwin.2.2.1
    have HLD : Hid (∀ j : Nat, j < ls.length → leadB ns (ndI ls j) = true) := Lib.hid (fun j hj => (hwin.2.2.2.2.2 j hj).1)
    clear hwin
    obtain ⟨An, cn, rfl, hcn, hmn, _⟩ := hn.formI
    unfold maxLen at hmn
    go_enter Tryz.func191, Tryz.ntmps191
    go_wp2_with fail
    refine (iWinOk_at _ _ ns ls _ _ (hn.below (by (repeat' (first | (with_reducible exact Below.refl _ _) | (with_reducible assumption) | (with_reducible refine Below.drew ?_) | (with_reducible refine below_drewN ?_ _) | (with_reducible refine Below.alloc ?_ ?_ _) | (with_reducible refine Below.setCell ?_ ?_ _) | (with_reducible refine Below.step (by assumption) ?_ ?_))); all_goals (first | omega | (simp; done) | (simp; omega)))) (hl.below (by (repeat' (first | (with_reducible exact Below.refl _ _) | (with_reducible assumption) | (with_reducible refine Below.drew ?_) | (with_reducible refine below_drewN ?_ _) | (with_reducible refine Below.alloc ?_ ?_ _) | (with_reducible refine Below.setCell ?_ ?_ _) | (with_reducible refine Below.step (by assumption) ?_ ?_))); all_goals (first | omega | (simp; done) | (simp; omega)))) hw).mono ?_
    rintro e w1 ⟨rfl, hb1⟩; (first | (with_reducible have hcf1 := bcell_drew hb1) | have hcf1 := bcell hb1); obtain ⟨hc1, hf1⟩ := hcf1; have hz1 := hb1.size; (try simp at hz1); (try have hp1_0 : w.heap.size < w1.heap.size := by omega); (try have hp1_1 : w.heap.size + 1 < w1.heap.size := by omega); (try have hp1_2 : w.heap.size + 1 + 1 < w1.heap.size := by omega); (try have hp1_3 : w.heap.size + 1 + 1 + 1 < w1.heap.size := by omega)
    have hW1 : Blk w1 w.heap.size 38 #[.slice An ns.length cn, vl] := Blk.below (Blk.newAt rfl) hb1 (by first | omega | (simp; done) | (simp; omega))
    have hbw1 : Below w.heap.size w w1 := by (repeat' (first | (with_reducible exact Below.refl _ _) | (with_reducible assumption) | (with_reducible refine Below.drew ?_) | (with_reducible refine below_drewN ?_ _) | (with_reducible refine Below.alloc ?_ ?_ _) | (with_reducible refine Below.setCell ?_ ?_ _) | (with_reducible refine Below.step (by assumption) ?_ ?_))); all_goals (first | omega | (simp; done) | (simp; omega))
    clear hb1 hc1 hf1
    (have a_0 := hW1.cell 0); (have a_1 := hW1.cell 1); simp only [List.getElem?_toArray, List.getElem?_cons_succ, List.getElem?_cons_zero] at a_0 a_1
    go_wp2
    go_loopw [3, 11] (fun x i wr => ∃ k : Nat, k ≤ ns.length ∧ i = .int .i64 k ∧ x = .int .i64 (partC ns.length ls k) ∧ Blk wr w.heap.size 38 #[.slice An ns.length cn, vl] ∧ Below w.heap.size w wr) (fun _ i _ => ns.length - (intOf i).toNat)
    case atStart => exact ⟨0, Nat.zero_le _, rfl, rfl, hW1, hbw1⟩
    case round =>
      obtain ⟨k, hk, rfl, rfl, hW, hbl⟩ := hrel
      clear hW1 hbw1 a_0 a_1
      have hsz := hW.lt
      have hjl := partC_le ns.length ls k
      (have a_0 := hW.cell 0); (have a_1 := hW.cell 1); simp only [List.getElem?_toArray, List.getElem?_cons_succ, List.getElem?_cons_zero] at a_0 a_1
      by_cases hlt : k < ns.length
      · have HY := Lib.hid (fun h => partC_yes (n := ns.length) (ls := ls) (k := k) h)
        have HNO := Lib.hid (fun h => partC_no (n := ns.length) (ls := ls) (k := k) h)
        generalize partC ns.length ls k = J at *
        go_wp2_with fail
        refine (iPartFirst_any _ _ ns ls k _ (hn.below hbl) (hl.below hbl) hlt hn12 hm20 HLD.out).mono ?_
        rintro e w2 ⟨b, off, n, c, p, rfl, hn0, hbl2, hc2, hp, hpk, hb2⟩
        have hW2 := hW.below hb2 hsz
        have hbw2 := hbl.trans (hb2.mono hbl.size)
        have hi1 : (0 : Int) < (n : Int) := by omega
        clear hb2 hW hbl a_0 a_1
        by_cases hpe : p = k
        · have HS := Lib.hid (HY.out (by rw [hp, hpe]))
          have e1 : ((p : Int) == (k : Int)) = true := beq_iff_eq.2 (by omega)
          clear hp HY HNO hpe
          go_wp2
          go_roundw
          case rel => exact ⟨k + 1, by omega, by go_num, by rw [HS.out]; go_num, hW2, hbw2⟩
          case measure => simp [intOf]; omega
        · have HS := Lib.hid (HNO.out (by rw [hp]; omega))
          have e1 : ((p : Int) == (k : Int)) = false := beq_eq_false_iff_ne.2 (by omega)
          clear hp HY HNO hpe
          go_wp2
          go_roundw
          case rel => exact ⟨k + 1, by omega, by go_num, by rw [HS.out], hW2, hbw2⟩
          case measure => simp [intOf]; omega
      · have hkk : k = ns.length := by omega
        subst hkk
        go_wp2
        go_ret
        exact ⟨ret_int HR.out.symm, hbl⟩

set_option maxHeartbeats 4000000 in
set_option maxRecDepth 100000 in
theorem sCParts_any (vn vl : Value) (ns ls : List Pr) (w : World) (hn : RP w vn ns) (hl : RP w vl ls) :
    Calls Tryz.prog 173 #[.agg #[vn, vl]] w fun e w' => e = .returned (.int .i64 (partsW ns ls)) ∧ Below w.heap.size w w' := by
  cases hw : winB ns ls
  · have HR : Hid (partsW ns ls = 0) := Lib.hid (by simp [partsW, hw])
    go_enter Tryz.func173, Tryz.ntmps173
    go_wp2_with fail
    refine (sWinOk_at _ _ ns ls _ _ (hn.below (by (repeat' (first | (with_reducible exact Below.refl _ _) | (with_reducible assumption) | (with_reducible refine Below.drew ?_) | (with_reducible refine below_drewN ?_ _) | (with_reducible refine Below.alloc ?_ ?_ _) | (with_reducible refine Below.setCell ?_ ?_ _) | (with_reducible refine Below.step (by assumption) ?_ ?_))); all_goals (first | omega | (simp; done) | (simp; omega)))) (hl.below (by (repeat' (first | (with_reducible exact Below.refl _ _) | (with_reducible assumption) | (with_reducible refine Below.drew ?_) | (with_reducible refine below_drewN ?_ _) | (with_reducible refine Below.alloc ?_ ?_ _) | (with_reducible refine Below.setCell ?_ ?_ _) | (with_reducible refine Below.step (by assumption) ?_ ?_))); all_goals (first | omega | (simp; done) | (simp; omega)))) hw).mono ?_
    rintro e w1 ⟨rfl, hb1⟩; (first | (with_reducible have hcf1 := bcell_drew hb1) | have hcf1 := bcell hb1); obtain ⟨hc1, hf1⟩ := hcf1; have hz1 := hb1.size; (try simp at hz1); (try have hp1_0 : w.heap.size < w1.heap.size := by omega); (try have hp1_1 : w.heap.size + 1 < w1.heap.size := by omega); (try have hp1_2 : w.heap.size + 1 + 1 < w1.heap.size := by omega); (try have hp1_3 : w.heap.size + 1 + 1 + 1 < w1.heap.size := by omega)
    go_wp2
    go_ret
    exact ⟨ret_int HR.out.symm, by (repeat' (first | (with_reducible exact Below.refl _ _) | (with_reducible assumption) | (with_reducible refine Below.drew ?_) | (with_reducible refine below_drewN ?_ _) | (with_reducible refine Below.alloc ?_ ?_ _) | (with_reducible refine Below.setCell ?_ ?_ _) | (with_reducible refine Below.step (by assumption) ?_ ?_))); all_goals (first | omega | (simp; done) | (simp; omega))⟩
  · have HR : Hid (partsW ns ls = (partC ns.length ls ns.length : Int)) := Lib.hid (by simp [partsW, hw])
    have hwin := winB_true.1 hw
    have hn0 := hwin.1
    have hn12 := hwin.2.1
    have hm20 := hwin.2.2.1
    have HLD : Hid (∀ j : Nat, j < ls.length → leadB ns (ndI ls j) = true) := Lib.hid (fun j hj => (hwin.2.2.2.2.2 j hj).1)
    clear hwin
    go_enter Tryz.func173, Tryz.ntmps173
    go_wp2_with fail
    refine (sWinOk_at _ _ ns ls _ _ (hn.below (by (repeat' (first | (with_reducible exact Below.refl _ _) | (with_reducible assumption) | (with_reducible refine Below.drew ?_) | (with_reducible refine below_drewN ?_ _) | (with_reducible refine Below.alloc ?_ ?_ _) | (with_reducible refine Below.setCell ?_ ?_ _) | (with_reducible refine Below.step (by assumption) ?_ ?_))); all_goals (first | omega | (simp; done) | (simp; omega)))) (hl.below (by (repeat' (first | (with_reducible exact Below.refl _ _) | (with_reducible assumption) | (with_reducible refine Below.drew ?_) | (with_reducible refine below_drewN ?_ _) | (with_reducible refine Below.alloc ?_ ?_ _) | (with_reducible refine Below.setCell ?_ ?_ _) | (with_reducible refine Below.step (by assumption) ?_ ?_))); all_goals (first | omega | (simp; done) | (simp; omega)))) hw).mono ?_
    rintro e w1 ⟨rfl, hb1⟩; (first | (with_reducible have hcf1 := bcell_drew hb1) | have hcf1 := bcell hb1); obtain ⟨hc1, hf1⟩ := hcf1; have hz1 := hb1.size; (try simp at hz1); (try have hp1_0 : w.heap.size < w1.heap.size := by omega); (try have hp1_1 : w.heap.size + 1 < w1.heap.size := by omega); (try have hp1_2 : w.heap.size + 1 + 1 < w1.heap.size := by omega); (try have hp1_3 : w.heap.size + 1 + 1 + 1 < w1.heap.size := by omega)
    have hW1 : Blk w1 w.heap.size 38 #[vn, vl] := Blk.below (Blk.newAt rfl) hb1 (by first | omega | (simp; done) | (simp; omega))
    have hbw1 : Below w.heap.size w w1 := by (repeat' (first | (with_reducible exact Below.refl _ _) | (with_reducible assumption) | (with_reducible refine Below.drew ?_) | (with_reducible refine below_drewN ?_ _) | (with_reducible refine Below.alloc ?_ ?_ _) | (with_reducible refine Below.setCell ?_ ?_ _) | (with_reducible refine Below.step (by assumption) ?_ ?_))); all_goals (first | omega | (simp; done) | (simp; omega))
    clear hb1 hc1 hf1
    (have a_0 := hW1.cell 0); (have a_1 := hW1.cell 1); simp only [List.getElem?_toArray, List.getElem?_cons_succ, List.getElem?_cons_zero] at a_0 a_1
    go_wp2_with fail
    refine (sParts_any _ _ ns ls _ (hn.below hbw1) (hl.below hbw1) hm20 hn12 hn0 HLD.out).mono ?_
    rintro e w2 ⟨v2, rfl, ho2, hb2⟩
    have hlen := partsK_len ns.length ls ls.length
    have hbw2 := hbw1.trans (hb2.mono hbw1.size)
    obtain ⟨A, c, rfl, _, _, hcell⟩ := ho2.reads.form
    rw [hlen] at hcell ⊢
    obtain ⟨b, off, rfl, hbl2, hcl⟩ := hcell hn0
    have HCL := Lib.hid hcl
    clear hcell hcl hlen ho2 hb2 hW1 hbw1 a_0 a_1
    go_wp2
    go_loopw [4, 5] (fun x i wr => ∃ k : Nat, k ≤ ns.length ∧ i = .int .i64 k ∧ x = .int .i64 (partC ns.length ls k) ∧ wr = w2) (fun _ i _ => ns.length - (intOf i).toNat)
    case atStart => exact ⟨0, Nat.zero_le _, rfl, rfl, rfl⟩
    case round =>
      obtain ⟨k, hk, rfl, rfl, rfl⟩ := hrel
      have hjl := partC_le ns.length ls k
      by_cases hlt : k < ns.length
      · have HY := Lib.hid (fun h => partC_yes (n := ns.length) (ls := ls) (k := k) h)
        have HNO := Lib.hid (fun h => partC_no (n := ns.length) (ls := ls) (k := k) h)
        have hck := HCL.out k hlt
        generalize partC ns.length ls k = J at *
        generalize (partsK ns.length ls ls.length).getD k 0 = p at *
        have hi1 : (k : Int) < (ns.length : Int) := by omega
        have hi0 : (0 : Int) ≤ (k : Int) := by omega
        by_cases hpe : p = (k : Int)
        · have HS := Lib.hid (HY.out hpe)
          have e1 : (p == (k : Int)) = true := beq_iff_eq.2 hpe
          clear HY HNO hpe
          go_wp2
          go_roundw
          case rel => exact ⟨k + 1, by omega, by go_num, by rw [HS.out]; go_num, by trivial⟩
          case measure => simp [intOf]; omega
        · have HS := Lib.hid (HNO.out hpe)
          have e1 : (p == (k : Int)) = false := beq_eq_false_iff_ne.2 hpe
          clear HY HNO hpe
          go_wp2
          go_roundw
          case rel => exact ⟨k + 1, by omega, by go_num, by rw [HS.out], by trivial⟩
          case measure => simp [intOf]; omega
      · have hkk : k = ns.length := by omega
        subst hkk
        go_wp2
        go_ret
        exact ⟨ret_int HR.out.symm, hbw2⟩

theorem sCParts_at (vn vl : Value) (ns ls : List Pr) (x : Int) (w : World) (hn : RP w vn ns) (hl : RP w vl ls) (hx : partsW ns ls = x) :
    Calls Tryz.prog 173 #[.agg #[vn, vl]] w fun e w' => e = .returned (.int .i64 x) ∧ Below w.heap.size w w' := by
  subst hx; exact sCParts_any vn vl ns ls w hn hl

theorem iCParts_at (vn vl : Value) (ns ls : List Pr) (x : Int) (w : World) (hn : RP w vn ns) (hl : RP w vl ls) (hx : partsW ns ls = x) :
    Calls Tryz.prog 191 #[.agg #[vn, vl]] w fun e w' => e = .returned (.int .i64 x) ∧ Below w.heap.size w w' := by
  subst hx; exact iCParts_any vn vl ns ls w hn hl

set_option maxHeartbeats 4000000 in
set_option maxRecDepth 100000 in
theorem sCFaces_any (vn vl : Value) (ns ls : List Pr) (w : World) (hn : RP w vn ns) (hl : RP w vl ls) :
    Calls Tryz.prog 121 #[.agg #[vn, vl]] w fun e w' => e = .returned (.int .i64 (cfacesW ns ls)) ∧ Below w.heap.size w w' := by
  cases hw : winB ns ls
  · have HR : Hid (cfacesW ns ls = 0) := Lib.hid (by simp [cfacesW, hw])
    go_enter Tryz.func121, Tryz.ntmps121
    go_wp2_with fail
    refine (sWinOk_at _ _ ns ls _ _ (hn.below (by (repeat' (first | (with_reducible exact Below.refl _ _) | (with_reducible assumption) | (with_reducible refine Below.drew ?_) | (with_reducible refine below_drewN ?_ _) | (with_reducible refine Below.alloc ?_ ?_ _) | (with_reducible refine Below.setCell ?_ ?_ _) | (with_reducible refine Below.step (by assumption) ?_ ?_))); all_goals (first | omega | (simp; done) | (simp; omega)))) (hl.below (by (repeat' (first | (with_reducible exact Below.refl _ _) | (with_reducible assumption) | (with_reducible refine Below.drew ?_) | (with_reducible refine below_drewN ?_ _) | (with_reducible refine Below.alloc ?_ ?_ _) | (with_reducible refine Below.setCell ?_ ?_ _) | (with_reducible refine Below.step (by assumption) ?_ ?_))); all_goals (first | omega | (simp; done) | (simp; omega)))) hw).mono ?_
    rintro e w1 ⟨rfl, hb1⟩; (first | (with_reducible have hcf1 := bcell_drew hb1) | have hcf1 := bcell hb1); obtain ⟨hc1, hf1⟩ := hcf1; have hz1 := hb1.size; (try simp at hz1); (try have hp1_0 : w.heap.size < w1.heap.size := by omega); (try have hp1_1 : w.heap.size + 1 < w1.heap.size := by omega); (try have hp1_2 : w.heap.size + 1 + 1 < w1.heap.size := by omega); (try have hp1_3 : w.heap.size + 1 + 1 + 1 < w1.heap.size := by omega)
    go_wp2
    go_ret
    exact ⟨ret_int HR.out.symm, by (repeat' (first | (with_reducible exact Below.refl _ _) | (with_reducible assumption) | (with_reducible refine Below.drew ?_) | (with_reducible refine below_drewN ?_ _) | (with_reducible refine Below.alloc ?_ ?_ _) | (with_reducible refine Below.setCell ?_ ?_ _) | (with_reducible refine Below.step (by assumption) ?_ ?_))); all_goals (first | omega | (simp; done) | (simp; omega))⟩
  · have hwin := winB_true.1 hw
    have hn12 := hwin.2.1
    have hm20 := hwin.2.2.1
    have hpb := partsW_bd ns ls
    obtain ⟨P, hP⟩ : ∃ P, partsW ns ls = P := ⟨_, rfl⟩
    have HR : Hid (cfacesW ns ls = (ls.length : Int) - ns.length + 1 + P) := Lib.hid (by unfold cfacesW; rw [hw, if_pos rfl, hP])
    rw [hP] at hpb
    have HP := Lib.hid hP
    clear hwin hP
    obtain ⟨An, cn, rfl, hcn, hmn, _⟩ := hn.formI
    obtain ⟨Al, cl, rfl, hcl, hml, _⟩ := hl.formI
    unfold maxLen at hmn hml
    go_enter Tryz.func121, Tryz.ntmps121
    go_wp2_with fail
    refine (sWinOk_at _ _ ns ls _ _ (hn.below (by (repeat' (first | (with_reducible exact Below.refl _ _) | (with_reducible assumption) | (with_reducible refine Below.drew ?_) | (with_reducible refine below_drewN ?_ _) | (with_reducible refine Below.alloc ?_ ?_ _) | (with_reducible refine Below.setCell ?_ ?_ _) | (with_reducible refine Below.step (by assumption) ?_ ?_))); all_goals (first | omega | (simp; done) | (simp; omega)))) (hl.below (by (repeat' (first | (with_reducible exact Below.refl _ _) | (with_reducible assumption) | (with_reducible refine Below.drew ?_) | (with_reducible refine below_drewN ?_ _) | (with_reducible refine Below.alloc ?_ ?_ _) | (with_reducible refine Below.setCell ?_ ?_ _) | (with_reducible refine Below.step (by assumption) ?_ ?_))); all_goals (first | omega | (simp; done) | (simp; omega)))) hw).mono ?_
    rintro e w1 ⟨rfl, hb1⟩; (first | (with_reducible have hcf1 := bcell_drew hb1) | have hcf1 := bcell hb1); obtain ⟨hc1, hf1⟩ := hcf1; have hz1 := hb1.size; (try simp at hz1); (try have hp1_0 : w.heap.size < w1.heap.size := by omega); (try have hp1_1 : w.heap.size + 1 < w1.heap.size := by omega); (try have hp1_2 : w.heap.size + 1 + 1 < w1.heap.size := by omega); (try have hp1_3 : w.heap.size + 1 + 1 + 1 < w1.heap.size := by omega)
    have hW1 : Blk w1 w.heap.size 38 #[.slice An ns.length cn, .slice Al ls.length cl] := Blk.below (Blk.newAt rfl) hb1 (by first | omega | (simp; done) | (simp; omega))
    have hbw1 : Below w.heap.size w w1 := by (repeat' (first | (with_reducible exact Below.refl _ _) | (with_reducible assumption) | (with_reducible refine Below.drew ?_) | (with_reducible refine below_drewN ?_ _) | (with_reducible refine Below.alloc ?_ ?_ _) | (with_reducible refine Below.setCell ?_ ?_ _) | (with_reducible refine Below.step (by assumption) ?_ ?_))); all_goals (first | omega | (simp; done) | (simp; omega))
    have rn1 := hn.below hbw1
    have rl1 := hl.below hbw1
    have hlt1 := hW1.lt
    have hw1a : IntKind.i64.wrap ((ls.length : Int) - (ns.length : Int)) = (ls.length : Int) - (ns.length : Int) := IntWalk.i64_in _ (by omega)
    have hw1b : IntKind.i64.wrap ((ls.length : Int) - (ns.length : Int) + 1) = (ls.length : Int) - (ns.length : Int) + 1 := IntWalk.i64_in _ (by omega)
    have hw1c : IntKind.i64.wrap ((ls.length : Int) - (ns.length : Int) + 1 + P) = (ls.length : Int) - (ns.length : Int) + 1 + P := IntWalk.i64_in _ (by omega)
    clear hb1 hc1 hf1 hn hl
    (have a_0 := hW1.cell 0); (have a_1 := hW1.cell 1); simp only [List.getElem?_toArray, List.getElem?_cons_succ, List.getElem?_cons_zero] at a_0 a_1
    go_wp2_with fail
    (refine wp_region_quietG (by kernel_rfl) (by kernel_rfl) (fun hG => ?_))
    repeat (go_big_quiet_step ((go_at_call 173; exact quietG (sCParts_at _ _ ns ls P _ (rn1.below (Grw.below _)) (rl1.below (Grw.below _)) HP.out))))
    refine wpQuiet_nil ?_
    clear hG hw1a hw1b hw1c
    rintro w2 ⟨⟨_, hs2⟩, rfl⟩
    have hbw2 := hbw1.trans (hs2.mono hbw1.size)
    go_wp2
    go_ret
    exact ⟨ret_int HR.out.symm, hbw2⟩

set_option maxHeartbeats 4000000 in
set_option maxRecDepth 100000 in
theorem iCFaces_any (vn vl : Value) (ns ls : List Pr) (w : World) (hn : RP w vn ns) (hl : RP w vl ls) :
    Calls Tryz.prog 132 #[.agg #[vn, vl]] w fun e w' => e = .returned (.int .i64 (cfacesW ns ls)) ∧ Below w.heap.size w w' := by
  cases hw : winB ns ls
  · have HR : Hid (cfacesW ns ls = 0) := Lib.hid (by simp [cfacesW, hw])
    go_enter Tryz.func132, Tryz.ntmps132
    go_wp2_with fail
    refine (iWinOk_at _ _ ns ls _ _ (hn.below (by (repeat' (first | (with_reducible exact Below.refl _ _) | (with_reducible assumption) | (with_reducible refine Below.drew ?_) | (with_reducible refine below_drewN ?_ _) | (with_reducible refine Below.alloc ?_ ?_ _) | (with_reducible refine Below.setCell ?_ ?_ _) | (with_reducible refine Below.step (by assumption) ?_ ?_))); all_goals (first | omega | (simp; done) | (simp; omega)))) (hl.below (by (repeat' (first | (with_reducible exact Below.refl _ _) | (with_reducible assumption) | (with_reducible refine Below.drew ?_) | (with_reducible refine below_drewN ?_ _) | (with_reducible refine Below.alloc ?_ ?_ _) | (with_reducible refine Below.setCell ?_ ?_ _) | (with_reducible refine Below.step (by assumption) ?_ ?_))); all_goals (first | omega | (simp; done) | (simp; omega)))) hw).mono ?_
    rintro e w1 ⟨rfl, hb1⟩; (first | (with_reducible have hcf1 := bcell_drew hb1) | have hcf1 := bcell hb1); obtain ⟨hc1, hf1⟩ := hcf1; have hz1 := hb1.size; (try simp at hz1); (try have hp1_0 : w.heap.size < w1.heap.size := by omega); (try have hp1_1 : w.heap.size + 1 < w1.heap.size := by omega); (try have hp1_2 : w.heap.size + 1 + 1 < w1.heap.size := by omega); (try have hp1_3 : w.heap.size + 1 + 1 + 1 < w1.heap.size := by omega)
    go_wp2
    go_ret
    exact ⟨ret_int HR.out.symm, by (repeat' (first | (with_reducible exact Below.refl _ _) | (with_reducible assumption) | (with_reducible refine Below.drew ?_) | (with_reducible refine below_drewN ?_ _) | (with_reducible refine Below.alloc ?_ ?_ _) | (with_reducible refine Below.setCell ?_ ?_ _) | (with_reducible refine Below.step (by assumption) ?_ ?_))); all_goals (first | omega | (simp; done) | (simp; omega))⟩
  · have hwin := winB_true.1 hw
    have hn12 := hwin.2.1
    have hm20 := hwin.2.2.1
    have hpb := partsW_bd ns ls
    obtain ⟨P, hP⟩ : ∃ P, partsW ns ls = P := ⟨_, rfl⟩
    have HR : Hid (cfacesW ns ls = (ls.length : Int) - ns.length + 1 + P) := Lib.hid (by unfold cfacesW; rw [hw, if_pos rfl, hP])
    rw [hP] at hpb
    have HP := Lib.hid hP
    clear hwin hP
    obtain ⟨An, cn, rfl, hcn, hmn, _⟩ := hn.formI
    obtain ⟨Al, cl, rfl, hcl, hml, _⟩ := hl.formI
    unfold maxLen at hmn hml
    go_enter Tryz.func132, Tryz.ntmps132
    go_wp2_with fail
    refine (iWinOk_at _ _ ns ls _ _ (hn.below (by (repeat' (first | (with_reducible exact Below.refl _ _) | (with_reducible assumption) | (with_reducible refine Below.drew ?_) | (with_reducible refine below_drewN ?_ _) | (with_reducible refine Below.alloc ?_ ?_ _) | (with_reducible refine Below.setCell ?_ ?_ _) | (with_reducible refine Below.step (by assumption) ?_ ?_))); all_goals (first | omega | (simp; done) | (simp; omega)))) (hl.below (by (repeat' (first | (with_reducible exact Below.refl _ _) | (with_reducible assumption) | (with_reducible refine Below.drew ?_) | (with_reducible refine below_drewN ?_ _) | (with_reducible refine Below.alloc ?_ ?_ _) | (with_reducible refine Below.setCell ?_ ?_ _) | (with_reducible refine Below.step (by assumption) ?_ ?_))); all_goals (first | omega | (simp; done) | (simp; omega)))) hw).mono ?_
    rintro e w1 ⟨rfl, hb1⟩; (first | (with_reducible have hcf1 := bcell_drew hb1) | have hcf1 := bcell hb1); obtain ⟨hc1, hf1⟩ := hcf1; have hz1 := hb1.size; (try simp at hz1); (try have hp1_0 : w.heap.size < w1.heap.size := by omega); (try have hp1_1 : w.heap.size + 1 < w1.heap.size := by omega); (try have hp1_2 : w.heap.size + 1 + 1 < w1.heap.size := by omega); (try have hp1_3 : w.heap.size + 1 + 1 + 1 < w1.heap.size := by omega)
    have hW1 : Blk w1 w.heap.size 38 #[.slice An ns.length cn, .slice Al ls.length cl] := Blk.below (Blk.newAt rfl) hb1 (by first | omega | (simp; done) | (simp; omega))
    have hbw1 : Below w.heap.size w w1 := by (repeat' (first | (with_reducible exact Below.refl _ _) | (with_reducible assumption) | (with_reducible refine Below.drew ?_) | (with_reducible refine below_drewN ?_ _) | (with_reducible refine Below.alloc ?_ ?_ _) | (with_reducible refine Below.setCell ?_ ?_ _) | (with_reducible refine Below.step (by assumption) ?_ ?_))); all_goals (first | omega | (simp; done) | (simp; omega))
    have rn1 := hn.below hbw1
    have rl1 := hl.below hbw1
    have hlt1 := hW1.lt
    have hw1a : IntKind.i64.wrap ((ls.length : Int) - (ns.length : Int)) = (ls.length : Int) - (ns.length : Int) := IntWalk.i64_in _ (by omega)
    have hw1b : IntKind.i64.wrap ((ls.length : Int) - (ns.length : Int) + 1) = (ls.length : Int) - (ns.length : Int) + 1 := IntWalk.i64_in _ (by omega)
    have hw1c : IntKind.i64.wrap ((ls.length : Int) - (ns.length : Int) + 1 + P) = (ls.length : Int) - (ns.length : Int) + 1 + P := IntWalk.i64_in _ (by omega)
    clear hb1 hc1 hf1 hn hl
    (have a_0 := hW1.cell 0); (have a_1 := hW1.cell 1); simp only [List.getElem?_toArray, List.getElem?_cons_succ, List.getElem?_cons_zero] at a_0 a_1
    go_wp2_with fail
    (refine wp_region_quietG (by kernel_rfl) (by kernel_rfl) (fun hG => ?_))
    repeat (go_big_quiet_step ((go_at_call 191; exact quietG (iCParts_at _ _ ns ls P _ (rn1.below (Grw.below _)) (rl1.below (Grw.below _)) HP.out))))
    refine wpQuiet_nil ?_
    clear hG hw1a hw1b hw1c
    rintro w2 ⟨⟨_, hs2⟩, rfl⟩
    have hbw2 := hbw1.trans (hs2.mono hbw1.size)
    go_wp2
    go_ret
    exact ⟨ret_int HR.out.symm, hbw2⟩

set_option maxHeartbeats 4000000 in
set_option maxRecDepth 100000 in
theorem sPanes_any (vn vl : Value) (ns ls : List Pr) (w : World) (hn : RP w vn ns) (hl : RP w vl ls) :
    Calls Tryz.prog 63 #[.agg #[vn, vl]] w fun e w' => e = .returned (.int .i64 (panesW ns ls)) ∧ Below w.heap.size w w' := by
  have hb := cfacesW_bd ns ls
  have HR : Hid (panesW ns ls = mx2 0 (cfacesW ns ls - 1)) := Lib.hid (by rw [mx2_eq]; unfold panesW; split <;> omega)
  go_enter Tryz.func63, Tryz.ntmps63
  go_wp2_with fail
  refine (sCFaces_any _ _ ns ls _ (hn.below (by (repeat' (first | (with_reducible exact Below.refl _ _) | (with_reducible assumption) | (with_reducible refine Below.drew ?_) | (with_reducible refine below_drewN ?_ _) | (with_reducible refine Below.alloc ?_ ?_ _) | (with_reducible refine Below.setCell ?_ ?_ _) | (with_reducible refine Below.step (by assumption) ?_ ?_))); all_goals (first | omega | (simp; done) | (simp; omega)))) (hl.below (by (repeat' (first | (with_reducible exact Below.refl _ _) | (with_reducible assumption) | (with_reducible refine Below.drew ?_) | (with_reducible refine below_drewN ?_ _) | (with_reducible refine Below.alloc ?_ ?_ _) | (with_reducible refine Below.setCell ?_ ?_ _) | (with_reducible refine Below.step (by assumption) ?_ ?_))); all_goals (first | omega | (simp; done) | (simp; omega))))).mono ?_
  rintro e w1 ⟨rfl, hb1⟩
  have hbw1 : Below w.heap.size w w1 := by (repeat' (first | (with_reducible exact Below.refl _ _) | (with_reducible assumption) | (with_reducible refine Below.drew ?_) | (with_reducible refine below_drewN ?_ _) | (with_reducible refine Below.alloc ?_ ?_ _) | (with_reducible refine Below.setCell ?_ ?_ _) | (with_reducible refine Below.step (by assumption) ?_ ?_))); all_goals (first | omega | (simp; done) | (simp; omega))
  clear hb1
  generalize cfacesW ns ls = C at *
  go_wp2
  go_ret
  exact ⟨ret_int HR.out.symm, hbw1⟩

set_option maxHeartbeats 4000000 in
set_option maxRecDepth 100000 in
theorem iPanes_any (vn vl : Value) (ns ls : List Pr) (w : World) (hn : RP w vn ns) (hl : RP w vl ls) :
    Calls Tryz.prog 73 #[.agg #[vn, vl]] w fun e w' => e = .returned (.int .i64 (panesW ns ls)) ∧ Below w.heap.size w w' := by
  have hb := cfacesW_bd ns ls
  have HR : Hid (panesW ns ls = mx2 0 (cfacesW ns ls - 1)) := Lib.hid (by rw [mx2_eq]; unfold panesW; split <;> omega)
  go_enter Tryz.func73, Tryz.ntmps73
  go_wp2_with fail
  refine (iCFaces_any _ _ ns ls _ (hn.below (by (repeat' (first | (with_reducible exact Below.refl _ _) | (with_reducible assumption) | (with_reducible refine Below.drew ?_) | (with_reducible refine below_drewN ?_ _) | (with_reducible refine Below.alloc ?_ ?_ _) | (with_reducible refine Below.setCell ?_ ?_ _) | (with_reducible refine Below.step (by assumption) ?_ ?_))); all_goals (first | omega | (simp; done) | (simp; omega)))) (hl.below (by (repeat' (first | (with_reducible exact Below.refl _ _) | (with_reducible assumption) | (with_reducible refine Below.drew ?_) | (with_reducible refine below_drewN ?_ _) | (with_reducible refine Below.alloc ?_ ?_ _) | (with_reducible refine Below.setCell ?_ ?_ _) | (with_reducible refine Below.step (by assumption) ?_ ?_))); all_goals (first | omega | (simp; done) | (simp; omega))))).mono ?_
  rintro e w1 ⟨rfl, hb1⟩
  have hbw1 : Below w.heap.size w w1 := by (repeat' (first | (with_reducible exact Below.refl _ _) | (with_reducible assumption) | (with_reducible refine Below.drew ?_) | (with_reducible refine below_drewN ?_ _) | (with_reducible refine Below.alloc ?_ ?_ _) | (with_reducible refine Below.setCell ?_ ?_ _) | (with_reducible refine Below.step (by assumption) ?_ ?_))); all_goals (first | omega | (simp; done) | (simp; omega))
  clear hb1
  generalize cfacesW ns ls = C at *
  go_wp2
  go_ret
  exact ⟨ret_int HR.out.symm, hbw1⟩

theorem sPanes_at (vn vl : Value) (ns ls : List Pr) (x : Int) (w : World) (hn : RP w vn ns) (hl : RP w vl ls) (hx : panesW ns ls = x) :
    Calls Tryz.prog 63 #[.agg #[vn, vl]] w fun e w' => e = .returned (.int .i64 x) ∧ Below w.heap.size w w' := by
  subst hx; exact sPanes_any vn vl ns ls w hn hl

theorem iPanes_at (vn vl : Value) (ns ls : List Pr) (x : Int) (w : World) (hn : RP w vn ns) (hl : RP w vl ls) (hx : panesW ns ls = x) :
    Calls Tryz.prog 73 #[.agg #[vn, vl]] w fun e w' => e = .returned (.int .i64 x) ∧ Below w.heap.size w w' := by
  subst hx; exact iPanes_any vn vl ns ls w hn hl

end Go.Proofs.YtoknmjpnelbplaaGreat

namespace Go.Proofs.YtoknmjpnelbplaaGreat
open Go.RowKit

theorem sDeps_at (v : Value) (l : List Dp) (b : Bool) (w : World) (h : RDp w v l) (hb : depsB l = b) :
    Calls Tryz.prog 60 #[v] w fun e w' => e = .returned (.bool b) ∧ Below w.heap.size w w' := by
  subst hb; exact sDeps_any v l w h

theorem iDeps_at (v : Value) (l : List Dp) (b : Bool) (w : World) (h : RDp w v l) (hb : depsB l = b) :
    Calls Tryz.prog 69 #[v] w fun e w' => e = .returned (.bool b) ∧ Below w.heap.size w w' := by
  subst hb; exact iDeps_any v l w h

def allPl (l : List Dp) (P : Int) (k : Nat) : Prop := ∀ j, j < k → (dpI l j).k ≤ P
theorem allPl_true {l : List Dp} {P : Int} (h : allPl l P l.length) : l.all (fun d => decide (d.k ≤ P)) = true := by
  rw [List.all_eq_true]
  intro d hd
  obtain ⟨j, hj, rfl⟩ := List.getElem_of_mem hd
  have := h j hj
  rw [dpI_get hj] at this
  simpa using this
theorem allPl_bad {l : List Dp} {P : Int} {k : Nat} (hk : k < l.length) (h : P < (dpI l k).k) : l.all (fun d => decide (d.k ≤ P)) = false := by
  cases hc : l.all (fun d => decide (d.k ≤ P))
  · rfl
  · have := List.all_eq_true.1 hc l[k] (List.getElem_mem hk)
    rw [dpI_get hk] at h
    simp at this
    omega
theorem allPl_succ {l : List Dp} {P : Int} {k : Nat} (h : allPl l P k) (hk : (dpI l k).k ≤ P) : allPl l P (k + 1) := fun j hj => by
  by_cases e : j = k
  · subst e; exact hk
  · exact h j (by omega)

set_option maxHeartbeats 32000000 in
set_option maxRecDepth 100000 in
theorem iSok_any (v0 v1 v2 v3 v4 v5 v6 : Value) (S : St) (w : World) (h : RSt w v0 v1 v2 v3 v4 v5 v6 S) :
    Calls Tryz.prog 18 #[.agg #[v0, v1, v2, v3, v4, v5, v6, .int .i64 S.fund]] w fun e w' => e = .returned (.bool (okStB S)) ∧ Below w.heap.size w w' := by
  obtain ⟨B2, d2, ev2, _⟩ := h.dr.nn.formI
  obtain ⟨B3, d3, ev3, _⟩ := h.dr.nl.formI
  obtain ⟨B5, d5, ev5, hc5, hm5, _⟩ := h.cs.form
  obtain ⟨B6, d6, ev6, hc6, hm6, hat⟩ := h.ds.at_
  subst ev2 ev3 ev5 ev6
  unfold maxLen at hm5 hm6
  have hb0 : Below w.heap.size w (w.alloc (.cells #[v0, v1, .slice B2 S.D.nn.length d2, .slice B3 S.D.nl.length d3, v4, .slice B5 S.cs.length d5, .slice B6 S.ds.length d6, .int .i64 S.fund] 44)) := by (repeat' (first | (with_reducible exact Below.refl _ _) | (with_reducible assumption) | (with_reducible refine Below.drew ?_) | (with_reducible refine below_drewN ?_ _) | (with_reducible refine Below.alloc ?_ ?_ _) | (with_reducible refine Below.setCell ?_ ?_ _) | (with_reducible refine Below.step (by assumption) ?_ ?_))); all_goals (first | omega | (simp; done) | (simp; omega))
  have hX0 : Blk (w.alloc (.cells #[v0, v1, .slice B2 S.D.nn.length d2, .slice B3 S.D.nl.length d3, v4, .slice B5 S.cs.length d5, .slice B6 S.ds.length d6, .int .i64 S.fund] 44)) w.heap.size 44 #[v0, v1, .slice B2 S.D.nn.length d2, .slice B3 S.D.nl.length d3, v4, .slice B5 S.cs.length d5, .slice B6 S.ds.length d6, .int .i64 S.fund] := Blk.newAt rfl
  have HAT := Lib.hid hat
  have HH := Lib.hid h
  clear hat h
  obtain ⟨od, hod⟩ : ∃ x, okD S.D = x := ⟨_, rfl⟩
  obtain ⟨dB, hdB⟩ : ∃ x, depsB S.ds = x := ⟨_, rfl⟩
  obtain ⟨fB, hfB⟩ : ∃ x, inB S.fund 0 1000000 = x := ⟨_, rfl⟩
  obtain ⟨pB, hpB⟩ : ∃ x, properB S.D.nn S.D.nl S.cs = x := ⟨_, rfl⟩
  obtain ⟨wB, hwB⟩ : ∃ x, wholeB S.D.nn S.D.nl = x := ⟨_, rfl⟩
  obtain ⟨P, hP⟩ : ∃ x, panesW S.D.nn S.D.nl = x := ⟨_, rfl⟩
  have HDEF : Hid (okStB S = (od && (dB && (fB && ((decide (S.cs.length = 0) || pB) && ((decide (S.ds.length = 0) || wB) && S.ds.all (fun d => decide (d.k ≤ P)))))))) := Lib.hid (by unfold okStB; rw [hod, hdB, hfB, hpB, hwB, hP])
  have HOD := Lib.hid hod
  have HDB := Lib.hid hdB
  have HFB := Lib.hid hfB
  have HPB := Lib.hid hpB
  have HWB := Lib.hid hwB
  have HPP := Lib.hid hP
  clear hod hdB hfB hpB hwB hP
  go_enter Tryz.func18, Tryz.ntmps18
  go_wp2_with fail
  refine (iDok_at _ _ _ _ _ S.D od _ (HH.out.dr.below hb0) HOD).mono ?_
  rintro e w1 ⟨rfl, hb1⟩
  have hbw1 := hb0.trans (hb1.mono hb0.size)
  have hX1 := hX0.below hb1 hX0.lt
  clear hb1 hb0 hX0
  cases od
  · have HX : Hid (okStB S = false) := Lib.hid (by rw [HDEF.out]; rfl)
    go_wp2
    go_ret
    exact ⟨ret_bool HX.out.symm, hbw1⟩
  (have x_0 := hX1.cell 0); (have x_1 := hX1.cell 1); (have x_2 := hX1.cell 2); (have x_3 := hX1.cell 3); (have x_4 := hX1.cell 4); (have x_5 := hX1.cell 5); (have x_6 := hX1.cell 6); (have x_7 := hX1.cell 7); simp only [List.getElem?_toArray, List.getElem?_cons_succ, List.getElem?_cons_zero] at x_0 x_1 x_2 x_3 x_4 x_5 x_6 x_7
  go_wp2_with fail
  refine (iDeps_at _ S.ds dB _ (HH.out.ds.below hbw1) HDB.out).mono ?_
  rintro e w2 ⟨rfl, hb2⟩
  have hbw2 := hbw1.trans (hb2.mono hbw1.size)
  have hX2 := hX1.below hb2 hX1.lt
  clear hb2 hbw1 hX1 x_0 x_1 x_2 x_3 x_4 x_5 x_6 x_7
  cases dB
  · have HX : Hid (okStB S = false) := Lib.hid (by rw [HDEF.out]; rfl)
    go_wp2
    go_ret
    exact ⟨ret_bool HX.out.symm, hbw2⟩
  (have x_0 := hX2.cell 0); (have x_1 := hX2.cell 1); (have x_2 := hX2.cell 2); (have x_3 := hX2.cell 3); (have x_4 := hX2.cell 4); (have x_5 := hX2.cell 5); (have x_6 := hX2.cell 6); (have x_7 := hX2.cell 7); simp only [List.getElem?_toArray, List.getElem?_cons_succ, List.getElem?_cons_zero] at x_0 x_1 x_2 x_3 x_4 x_5 x_6 x_7
  have hXl2 := hX2.lt
  go_wp2_with fail
  refine (within_at S.fund 0 1000000 fB _ HFB.out).mono ?_
  rintro e w' ⟨rfl, rfl⟩
  cases fB
  · have HX : Hid (okStB S = false) := Lib.hid (by rw [HDEF.out]; rfl)
    go_wp2
    go_ret
    exact ⟨ret_bool HX.out.symm, hbw2⟩
  go_upto_region 4 with (fail)
  obtain ⟨w3, hw3⟩ : ∃ u, u = w2.alloc (.cells #[.slice B2 S.D.nn.length d2, .slice B3 S.D.nl.length d3] 38) := ⟨_, rfl⟩
  have hN3 : Blk w3 w2.heap.size 38 #[.slice B2 S.D.nn.length d2, .slice B3 S.D.nl.length d3] := hw3 ▸ Blk.newAt rfl
  have hb3 : Below w2.heap.size w2 w3 := hw3 ▸ (Below.refl _ _).alloc (Nat.le_refl _) _
  rw [← hw3]
  clear hw3
  have hbw3 := hbw2.trans (hb3.mono hbw2.size)
  have hX3 := hX2.below hb3 hXl2
  have hXl3 := hX3.lt
  have hNl3 := hN3.lt
  clear hb3 hbw2 hX2 x_0 x_1 x_2 x_3 x_4 x_5 x_6 x_7 hXl2
  generalize w2.heap.size = Nb at *
  (have x_0 := hX3.cell 0); (have x_1 := hX3.cell 1); (have x_2 := hX3.cell 2); (have x_3 := hX3.cell 3); (have x_4 := hX3.cell 4); (have x_5 := hX3.cell 5); (have x_6 := hX3.cell 6); (have x_7 := hX3.cell 7); simp only [List.getElem?_toArray, List.getElem?_cons_succ, List.getElem?_cons_zero] at x_0 x_1 x_2 x_3 x_4 x_5 x_6 x_7
  (have n_0 := hN3.cell 0); (have n_1 := hN3.cell 1); simp only [List.getElem?_toArray, List.getElem?_cons_succ, List.getElem?_cons_zero] at n_0 n_1
  by_cases hc0 : 0 < S.cs.length
  · have e1 : (0 : Int) < (S.cs.length : Int) := by omega
    have HC0 : Hid (decide (S.cs.length = 0) = false) := Lib.hid (decide_eq_false (by omega))
    go_wp2_with fail
    refine (iProper_at _ _ _ S.D.nn S.D.nl S.cs pB _ (HH.out.dr.nn.below hbw3) (HH.out.dr.nl.below hbw3) (HH.out.cs.below hbw3) HPB.out).mono ?_
    rintro e w4 ⟨rfl, hb4⟩
    have hbw4 := hbw3.trans (hb4.mono hbw3.size)
    have hX4 := hX3.below hb4 hX3.lt
    have hN4 := hN3.below hb4 hN3.lt
    clear hb4 hbw3 hX3 hN3 hXl3 hNl3 x_0 x_1 x_2 x_3 x_4 x_5 x_6 x_7 n_0 n_1
    have hXl4 := hX4.lt
    have hNl4 := hN4.lt
    (have x_0 := hX4.cell 0); (have x_1 := hX4.cell 1); (have x_2 := hX4.cell 2); (have x_3 := hX4.cell 3); (have x_4 := hX4.cell 4); (have x_5 := hX4.cell 5); (have x_6 := hX4.cell 6); (have x_7 := hX4.cell 7); simp only [List.getElem?_toArray, List.getElem?_cons_succ, List.getElem?_cons_zero] at x_0 x_1 x_2 x_3 x_4 x_5 x_6 x_7
    (have n_0 := hN4.cell 0); (have n_1 := hN4.cell 1); simp only [List.getElem?_toArray, List.getElem?_cons_succ, List.getElem?_cons_zero] at n_0 n_1
    clear e1 hc0
    cases pB
    · have HX : Hid (okStB S = false) := Lib.hid (by rw [HDEF.out, HC0.out]; simp)
      go_wp2
      go_ret
      exact ⟨ret_bool HX.out.symm, hbw4⟩
    · skip
      by_cases hd0 : 0 < S.ds.length
      · have e2 : (0 : Int) < (S.ds.length : Int) := by omega
        have HD0 : Hid (decide (S.ds.length = 0) = false) := Lib.hid (decide_eq_false (by omega))
        go_wp2_with fail
        refine (iWhole_at _ _ S.D.nn S.D.nl wB _ (HH.out.dr.nn.below hbw4) (HH.out.dr.nl.below hbw4) HWB.out).mono ?_
        rintro e w5 ⟨rfl, hb5⟩
        have hbw5 := hbw4.trans (hb5.mono hbw4.size)
        have hX5 := hX4.below hb5 hX4.lt
        have hN5 := hN4.below hb5 hN4.lt
        clear hb5 hbw4 hX4 hN4 hXl4 hNl4 x_0 x_1 x_2 x_3 x_4 x_5 x_6 x_7 n_0 n_1
        have hXl5 := hX5.lt
        have hNl5 := hN5.lt
        (have x_0 := hX5.cell 0); (have x_1 := hX5.cell 1); (have x_2 := hX5.cell 2); (have x_3 := hX5.cell 3); (have x_4 := hX5.cell 4); (have x_5 := hX5.cell 5); (have x_6 := hX5.cell 6); (have x_7 := hX5.cell 7); simp only [List.getElem?_toArray, List.getElem?_cons_succ, List.getElem?_cons_zero] at x_0 x_1 x_2 x_3 x_4 x_5 x_6 x_7
        (have n_0 := hN5.cell 0); (have n_1 := hN5.cell 1); simp only [List.getElem?_toArray, List.getElem?_cons_succ, List.getElem?_cons_zero] at n_0 n_1
        clear e2
        cases wB
        · have HX : Hid (okStB S = false) := Lib.hid (by rw [HDEF.out, HD0.out]; simp)
          go_wp2
          go_ret
          exact ⟨ret_bool HX.out.symm, hbw5⟩
        · skip
          have HAL := Lib.hid (fun k (hk : k < S.ds.length) (h : P < (dpI S.ds k).k) => allPl_bad hk h)
          have HSU := Lib.hid (fun k (h : allPl S.ds P k) h2 => allPl_succ (k := k) h h2)
          have HEN := Lib.hid (fun (h : allPl S.ds P S.ds.length) => allPl_true h)
          clear x_0 x_1 x_2 x_3 x_4 x_5 x_6 x_7 n_0 n_1
          (have x_0 := hX5.cell 0); (have x_1 := hX5.cell 1); (have x_2 := hX5.cell 2); (have x_3 := hX5.cell 3); (have x_4 := hX5.cell 4); (have x_5 := hX5.cell 5); (have x_6 := hX5.cell 6); (have x_7 := hX5.cell 7); simp only [List.getElem?_toArray, List.getElem?_cons_succ, List.getElem?_cons_zero] at x_0 x_1 x_2 x_3 x_4 x_5 x_6 x_7
          (have n_0 := hN5.cell 0); (have n_1 := hN5.cell 1); simp only [List.getElem?_toArray, List.getElem?_cons_succ, List.getElem?_cons_zero] at n_0 n_1
          go_wp2
          go_loopw [50] (fun y wr => ∃ k : Nat, k ≤ S.ds.length ∧ y = .int .i64 k ∧ Hid (allPl S.ds P k) ∧ Below w5.heap.size w5 wr) (fun y _ => S.ds.length - (intOf y).toNat)
          case atStart => exact ⟨0, Nat.zero_le _, rfl, Lib.hid (fun j hj => absurd hj (by omega)), Below.refl _ _⟩
          case round =>
            obtain ⟨k, hk, rfl, HT, hbl⟩ := hrel
            clear x_0 x_1 x_2 x_3 x_4 x_5 x_6 x_7 n_0 n_1
            have hbr := hbw5.trans (hbl.mono hbw5.size)
            have hXr := hX5.below hbl hXl5
            have hNr := hN5.below hbl hNl5
            have hXlr := hXr.lt
            have hNlr := hNr.lt
            (have x_0 := hXr.cell 0); (have x_1 := hXr.cell 1); (have x_2 := hXr.cell 2); (have x_3 := hXr.cell 3); (have x_4 := hXr.cell 4); (have x_5 := hXr.cell 5); (have x_6 := hXr.cell 6); (have x_7 := hXr.cell 7); simp only [List.getElem?_toArray, List.getElem?_cons_succ, List.getElem?_cons_zero] at x_0 x_1 x_2 x_3 x_4 x_5 x_6 x_7
            (have n_0 := hNr.cell 0); (have n_1 := hNr.cell 1); simp only [List.getElem?_toArray, List.getElem?_cons_succ, List.getElem?_cons_zero] at n_0 n_1
            by_cases hlt : k < S.ds.length
            · obtain ⟨b, off, rfl, hd⟩ := HAT.out (by omega)
              have hd := hd.below hbr
              obtain ⟨q0, q1, q2⟩ := hd.2 k hlt
              have hbz := hd.1
              have hlt1 : (k : Int) < (S.ds.length : Int) := by omega
              have ik1 : (0 : Int) ≤ (k : Int) := by omega
              have HA1 := Lib.hid (HAL.out k hlt)
              have HS1 := Lib.hid (HSU.out k HT.out)
              clear hd
              generalize dpI S.ds k = D at *
              go_upto_region 9 with (fail)
              obtain ⟨wq, hwq⟩ : ∃ v, v = wr.alloc (.cells #[.int .i64 D.k, .int .i64 D.a, .int .i64 D.b] 91) := ⟨_, rfl⟩
              have hq : Blk wq wr.heap.size 91 #[.int .i64 D.k, .int .i64 D.a, .int .i64 D.b] := hwq ▸ Blk.newAt rfl
              have hbq : Below wr.heap.size wr wq := hwq ▸ (Below.refl _ _).alloc (Nat.le_refl _) _
              rw [← hwq]
              clear hwq
              have hNq := hNr.below hbq hNlr
              have hNlq := hNq.lt
              have hbrq := hbr.trans (hbq.mono hbr.size)
              have hblq := hbl.trans (hbq.mono hbl.size)
              have rn := HH.out.dr.nn.below hbrq
              have rl := HH.out.dr.nl.below hbrq
              have hql := hq.lt
              clear x_0 x_1 x_2 x_3 x_4 x_5 x_6 x_7 n_0 n_1 q0 q1 q2 hXr hNr hbq hbl hbr
              (have y_0 := hq.cell 0); (have y_1 := hq.cell 1); (have y_2 := hq.cell 2); simp only [List.getElem?_toArray, List.getElem?_cons_succ, List.getElem?_cons_zero] at y_0 y_1 y_2
              (have n_0 := hNq.cell 0); (have n_1 := hNq.cell 1); simp only [List.getElem?_toArray, List.getElem?_cons_succ, List.getElem?_cons_zero] at n_0 n_1
              generalize wr.heap.size = Bq at *
              by_cases hp : P < D.k
              · have e1 : decide (P < D.k) = true := decide_eq_true hp
                have HX : Hid (okStB S = false) := Lib.hid (by rw [HDEF.out, HA1.out hp]; simp)
                clear hp
                go_wp2_with fail
                (refine wp_region_quietG (by kernel_rfl) (by kernel_rfl) (fun hG => ?_))
                repeat (go_big_quiet_step ((go_at_call 73; exact quietG (iPanes_at _ _ S.D.nn S.D.nl P _ (rn.below (Grw.below _)) (rl.below (Grw.below _)) HPP.out))))
                refine wpQuiet_nil ?_
                clear hG
                rintro w8 ⟨⟨_, hs8⟩, rfl⟩
                have hbl8 := hblq.trans (hs8.mono hblq.size)
                clear hs8 hblq y_0 y_1 y_2 n_0 n_1
                go_wp2
                go_ret
                exact ⟨ret_bool HX.out.symm, hbw5.trans (hbl8.mono hbw5.size)⟩
              · have e1 : decide (P < D.k) = false := decide_eq_false hp
                have HX := Lib.hid (HS1.out (by omega))
                clear hp
                go_wp2_with fail
                (refine wp_region_quietG (by kernel_rfl) (by kernel_rfl) (fun hG => ?_))
                repeat (go_big_quiet_step ((go_at_call 73; exact quietG (iPanes_at _ _ S.D.nn S.D.nl P _ (rn.below (Grw.below _)) (rl.below (Grw.below _)) HPP.out))))
                refine wpQuiet_nil ?_
                clear hG
                rintro w8 ⟨⟨_, hs8⟩, rfl⟩
                have hbl8 := hblq.trans (hs8.mono hblq.size)
                clear hs8 hblq y_0 y_1 y_2 n_0 n_1
                go_wp2
                go_roundw
                case rel => exact ⟨k + 1, by omega, by go_num, HX, hbl8⟩
                case measure => simp [intOf]; omega
            · have hkk : k = S.ds.length := by omega
              subst hkk
              have HEN1 := Lib.hid (HEN.out HT.out)
              have HX : Hid (okStB S = true) := Lib.hid (by rw [HDEF.out, HEN1.out, HC0.out, HD0.out]; rfl)
              go_wp2
              go_ret
              exact ⟨ret_bool HX.out.symm, hbr⟩
      · have e2 : ¬ (0 : Int) < (S.ds.length : Int) := by omega
        have HD0 : Hid (decide (S.ds.length = 0) = true) := Lib.hid (decide_eq_true (by omega))
        clear hd0
        have HAL := Lib.hid (fun k (hk : k < S.ds.length) (h : P < (dpI S.ds k).k) => allPl_bad hk h)
        have HSU := Lib.hid (fun k (h : allPl S.ds P k) h2 => allPl_succ (k := k) h h2)
        have HEN := Lib.hid (fun (h : allPl S.ds P S.ds.length) => allPl_true h)
        clear x_0 x_1 x_2 x_3 x_4 x_5 x_6 x_7 n_0 n_1
        (have x_0 := hX4.cell 0); (have x_1 := hX4.cell 1); (have x_2 := hX4.cell 2); (have x_3 := hX4.cell 3); (have x_4 := hX4.cell 4); (have x_5 := hX4.cell 5); (have x_6 := hX4.cell 6); (have x_7 := hX4.cell 7); simp only [List.getElem?_toArray, List.getElem?_cons_succ, List.getElem?_cons_zero] at x_0 x_1 x_2 x_3 x_4 x_5 x_6 x_7
        (have n_0 := hN4.cell 0); (have n_1 := hN4.cell 1); simp only [List.getElem?_toArray, List.getElem?_cons_succ, List.getElem?_cons_zero] at n_0 n_1
        go_wp2
        go_loopw [50] (fun y wr => ∃ k : Nat, k ≤ S.ds.length ∧ y = .int .i64 k ∧ Hid (allPl S.ds P k) ∧ Below w4.heap.size w4 wr) (fun y _ => S.ds.length - (intOf y).toNat)
        case atStart => exact ⟨0, Nat.zero_le _, rfl, Lib.hid (fun j hj => absurd hj (by omega)), Below.refl _ _⟩
        case round =>
          obtain ⟨k, hk, rfl, HT, hbl⟩ := hrel
          clear x_0 x_1 x_2 x_3 x_4 x_5 x_6 x_7 n_0 n_1
          have hbr := hbw4.trans (hbl.mono hbw4.size)
          have hXr := hX4.below hbl hXl4
          have hNr := hN4.below hbl hNl4
          have hXlr := hXr.lt
          have hNlr := hNr.lt
          (have x_0 := hXr.cell 0); (have x_1 := hXr.cell 1); (have x_2 := hXr.cell 2); (have x_3 := hXr.cell 3); (have x_4 := hXr.cell 4); (have x_5 := hXr.cell 5); (have x_6 := hXr.cell 6); (have x_7 := hXr.cell 7); simp only [List.getElem?_toArray, List.getElem?_cons_succ, List.getElem?_cons_zero] at x_0 x_1 x_2 x_3 x_4 x_5 x_6 x_7
          (have n_0 := hNr.cell 0); (have n_1 := hNr.cell 1); simp only [List.getElem?_toArray, List.getElem?_cons_succ, List.getElem?_cons_zero] at n_0 n_1
          by_cases hlt : k < S.ds.length
          · exact absurd hlt (by omega)
          · have hkk : k = S.ds.length := by omega
            subst hkk
            have HEN1 := Lib.hid (HEN.out HT.out)
            have HX : Hid (okStB S = true) := Lib.hid (by rw [HDEF.out, HEN1.out, HC0.out, HD0.out]; rfl)
            go_wp2
            go_ret
            exact ⟨ret_bool HX.out.symm, hbr⟩
  · have e1 : ¬ (0 : Int) < (S.cs.length : Int) := by omega
    have HC0 : Hid (decide (S.cs.length = 0) = true) := Lib.hid (decide_eq_true (by omega))
    clear hc0
    by_cases hd0 : 0 < S.ds.length
    · have e2 : (0 : Int) < (S.ds.length : Int) := by omega
      have HD0 : Hid (decide (S.ds.length = 0) = false) := Lib.hid (decide_eq_false (by omega))
      go_wp2_with fail
      refine (iWhole_at _ _ S.D.nn S.D.nl wB _ (HH.out.dr.nn.below hbw3) (HH.out.dr.nl.below hbw3) HWB.out).mono ?_
      rintro e w5 ⟨rfl, hb5⟩
      have hbw5 := hbw3.trans (hb5.mono hbw3.size)
      have hX5 := hX3.below hb5 hX3.lt
      have hN5 := hN3.below hb5 hN3.lt
      clear hb5 hbw3 hX3 hN3 hXl3 hNl3 x_0 x_1 x_2 x_3 x_4 x_5 x_6 x_7 n_0 n_1
      have hXl5 := hX5.lt
      have hNl5 := hN5.lt
      (have x_0 := hX5.cell 0); (have x_1 := hX5.cell 1); (have x_2 := hX5.cell 2); (have x_3 := hX5.cell 3); (have x_4 := hX5.cell 4); (have x_5 := hX5.cell 5); (have x_6 := hX5.cell 6); (have x_7 := hX5.cell 7); simp only [List.getElem?_toArray, List.getElem?_cons_succ, List.getElem?_cons_zero] at x_0 x_1 x_2 x_3 x_4 x_5 x_6 x_7
      (have n_0 := hN5.cell 0); (have n_1 := hN5.cell 1); simp only [List.getElem?_toArray, List.getElem?_cons_succ, List.getElem?_cons_zero] at n_0 n_1
      clear e2
      cases wB
      · have HX : Hid (okStB S = false) := Lib.hid (by rw [HDEF.out, HD0.out]; simp)
        go_wp2
        go_ret
        exact ⟨ret_bool HX.out.symm, hbw5⟩
      · skip
        have HAL := Lib.hid (fun k (hk : k < S.ds.length) (h : P < (dpI S.ds k).k) => allPl_bad hk h)
        have HSU := Lib.hid (fun k (h : allPl S.ds P k) h2 => allPl_succ (k := k) h h2)
        have HEN := Lib.hid (fun (h : allPl S.ds P S.ds.length) => allPl_true h)
        clear x_0 x_1 x_2 x_3 x_4 x_5 x_6 x_7 n_0 n_1
        (have x_0 := hX5.cell 0); (have x_1 := hX5.cell 1); (have x_2 := hX5.cell 2); (have x_3 := hX5.cell 3); (have x_4 := hX5.cell 4); (have x_5 := hX5.cell 5); (have x_6 := hX5.cell 6); (have x_7 := hX5.cell 7); simp only [List.getElem?_toArray, List.getElem?_cons_succ, List.getElem?_cons_zero] at x_0 x_1 x_2 x_3 x_4 x_5 x_6 x_7
        (have n_0 := hN5.cell 0); (have n_1 := hN5.cell 1); simp only [List.getElem?_toArray, List.getElem?_cons_succ, List.getElem?_cons_zero] at n_0 n_1
        go_wp2
        go_loopw [50] (fun y wr => ∃ k : Nat, k ≤ S.ds.length ∧ y = .int .i64 k ∧ Hid (allPl S.ds P k) ∧ Below w5.heap.size w5 wr) (fun y _ => S.ds.length - (intOf y).toNat)
        case atStart => exact ⟨0, Nat.zero_le _, rfl, Lib.hid (fun j hj => absurd hj (by omega)), Below.refl _ _⟩
        case round =>
          obtain ⟨k, hk, rfl, HT, hbl⟩ := hrel
          clear x_0 x_1 x_2 x_3 x_4 x_5 x_6 x_7 n_0 n_1
          have hbr := hbw5.trans (hbl.mono hbw5.size)
          have hXr := hX5.below hbl hXl5
          have hNr := hN5.below hbl hNl5
          have hXlr := hXr.lt
          have hNlr := hNr.lt
          (have x_0 := hXr.cell 0); (have x_1 := hXr.cell 1); (have x_2 := hXr.cell 2); (have x_3 := hXr.cell 3); (have x_4 := hXr.cell 4); (have x_5 := hXr.cell 5); (have x_6 := hXr.cell 6); (have x_7 := hXr.cell 7); simp only [List.getElem?_toArray, List.getElem?_cons_succ, List.getElem?_cons_zero] at x_0 x_1 x_2 x_3 x_4 x_5 x_6 x_7
          (have n_0 := hNr.cell 0); (have n_1 := hNr.cell 1); simp only [List.getElem?_toArray, List.getElem?_cons_succ, List.getElem?_cons_zero] at n_0 n_1
          by_cases hlt : k < S.ds.length
          · obtain ⟨b, off, rfl, hd⟩ := HAT.out (by omega)
            have hd := hd.below hbr
            obtain ⟨q0, q1, q2⟩ := hd.2 k hlt
            have hbz := hd.1
            have hlt1 : (k : Int) < (S.ds.length : Int) := by omega
            have ik1 : (0 : Int) ≤ (k : Int) := by omega
            have HA1 := Lib.hid (HAL.out k hlt)
            have HS1 := Lib.hid (HSU.out k HT.out)
            clear hd
            generalize dpI S.ds k = D at *
            go_upto_region 9 with (fail)
            obtain ⟨wq, hwq⟩ : ∃ v, v = wr.alloc (.cells #[.int .i64 D.k, .int .i64 D.a, .int .i64 D.b] 91) := ⟨_, rfl⟩
            have hq : Blk wq wr.heap.size 91 #[.int .i64 D.k, .int .i64 D.a, .int .i64 D.b] := hwq ▸ Blk.newAt rfl
            have hbq : Below wr.heap.size wr wq := hwq ▸ (Below.refl _ _).alloc (Nat.le_refl _) _
            rw [← hwq]
            clear hwq
            have hNq := hNr.below hbq hNlr
            have hNlq := hNq.lt
            have hbrq := hbr.trans (hbq.mono hbr.size)
            have hblq := hbl.trans (hbq.mono hbl.size)
            have rn := HH.out.dr.nn.below hbrq
            have rl := HH.out.dr.nl.below hbrq
            have hql := hq.lt
            clear x_0 x_1 x_2 x_3 x_4 x_5 x_6 x_7 n_0 n_1 q0 q1 q2 hXr hNr hbq hbl hbr
            (have y_0 := hq.cell 0); (have y_1 := hq.cell 1); (have y_2 := hq.cell 2); simp only [List.getElem?_toArray, List.getElem?_cons_succ, List.getElem?_cons_zero] at y_0 y_1 y_2
            (have n_0 := hNq.cell 0); (have n_1 := hNq.cell 1); simp only [List.getElem?_toArray, List.getElem?_cons_succ, List.getElem?_cons_zero] at n_0 n_1
            generalize wr.heap.size = Bq at *
            by_cases hp : P < D.k
            · have e1 : decide (P < D.k) = true := decide_eq_true hp
              have HX : Hid (okStB S = false) := Lib.hid (by rw [HDEF.out, HA1.out hp]; simp)
              clear hp
              go_wp2_with fail
              (refine wp_region_quietG (by kernel_rfl) (by kernel_rfl) (fun hG => ?_))
              repeat (go_big_quiet_step ((go_at_call 73; exact quietG (iPanes_at _ _ S.D.nn S.D.nl P _ (rn.below (Grw.below _)) (rl.below (Grw.below _)) HPP.out))))
              refine wpQuiet_nil ?_
              clear hG
              rintro w8 ⟨⟨_, hs8⟩, rfl⟩
              have hbl8 := hblq.trans (hs8.mono hblq.size)
              clear hs8 hblq y_0 y_1 y_2 n_0 n_1
              go_wp2
              go_ret
              exact ⟨ret_bool HX.out.symm, hbw5.trans (hbl8.mono hbw5.size)⟩
            · have e1 : decide (P < D.k) = false := decide_eq_false hp
              have HX := Lib.hid (HS1.out (by omega))
              clear hp
              go_wp2_with fail
              (refine wp_region_quietG (by kernel_rfl) (by kernel_rfl) (fun hG => ?_))
              repeat (go_big_quiet_step ((go_at_call 73; exact quietG (iPanes_at _ _ S.D.nn S.D.nl P _ (rn.below (Grw.below _)) (rl.below (Grw.below _)) HPP.out))))
              refine wpQuiet_nil ?_
              clear hG
              rintro w8 ⟨⟨_, hs8⟩, rfl⟩
              have hbl8 := hblq.trans (hs8.mono hblq.size)
              clear hs8 hblq y_0 y_1 y_2 n_0 n_1
              go_wp2
              go_roundw
              case rel => exact ⟨k + 1, by omega, by go_num, HX, hbl8⟩
              case measure => simp [intOf]; omega
          · have hkk : k = S.ds.length := by omega
            subst hkk
            have HEN1 := Lib.hid (HEN.out HT.out)
            have HX : Hid (okStB S = true) := Lib.hid (by rw [HDEF.out, HEN1.out, HC0.out, HD0.out]; rfl)
            go_wp2
            go_ret
            exact ⟨ret_bool HX.out.symm, hbr⟩
    · have e2 : ¬ (0 : Int) < (S.ds.length : Int) := by omega
      have HD0 : Hid (decide (S.ds.length = 0) = true) := Lib.hid (decide_eq_true (by omega))
      clear hd0
      have HAL := Lib.hid (fun k (hk : k < S.ds.length) (h : P < (dpI S.ds k).k) => allPl_bad hk h)
      have HSU := Lib.hid (fun k (h : allPl S.ds P k) h2 => allPl_succ (k := k) h h2)
      have HEN := Lib.hid (fun (h : allPl S.ds P S.ds.length) => allPl_true h)
      clear x_0 x_1 x_2 x_3 x_4 x_5 x_6 x_7 n_0 n_1
      (have x_0 := hX3.cell 0); (have x_1 := hX3.cell 1); (have x_2 := hX3.cell 2); (have x_3 := hX3.cell 3); (have x_4 := hX3.cell 4); (have x_5 := hX3.cell 5); (have x_6 := hX3.cell 6); (have x_7 := hX3.cell 7); simp only [List.getElem?_toArray, List.getElem?_cons_succ, List.getElem?_cons_zero] at x_0 x_1 x_2 x_3 x_4 x_5 x_6 x_7
      (have n_0 := hN3.cell 0); (have n_1 := hN3.cell 1); simp only [List.getElem?_toArray, List.getElem?_cons_succ, List.getElem?_cons_zero] at n_0 n_1
      go_wp2
      go_loopw [50] (fun y wr => ∃ k : Nat, k ≤ S.ds.length ∧ y = .int .i64 k ∧ Hid (allPl S.ds P k) ∧ Below w3.heap.size w3 wr) (fun y _ => S.ds.length - (intOf y).toNat)
      case atStart => exact ⟨0, Nat.zero_le _, rfl, Lib.hid (fun j hj => absurd hj (by omega)), Below.refl _ _⟩
      case round =>
        obtain ⟨k, hk, rfl, HT, hbl⟩ := hrel
        clear x_0 x_1 x_2 x_3 x_4 x_5 x_6 x_7 n_0 n_1
        have hbr := hbw3.trans (hbl.mono hbw3.size)
        have hXr := hX3.below hbl hXl3
        have hNr := hN3.below hbl hNl3
        have hXlr := hXr.lt
        have hNlr := hNr.lt
        (have x_0 := hXr.cell 0); (have x_1 := hXr.cell 1); (have x_2 := hXr.cell 2); (have x_3 := hXr.cell 3); (have x_4 := hXr.cell 4); (have x_5 := hXr.cell 5); (have x_6 := hXr.cell 6); (have x_7 := hXr.cell 7); simp only [List.getElem?_toArray, List.getElem?_cons_succ, List.getElem?_cons_zero] at x_0 x_1 x_2 x_3 x_4 x_5 x_6 x_7
        (have n_0 := hNr.cell 0); (have n_1 := hNr.cell 1); simp only [List.getElem?_toArray, List.getElem?_cons_succ, List.getElem?_cons_zero] at n_0 n_1
        by_cases hlt : k < S.ds.length
        · exact absurd hlt (by omega)
        · have hkk : k = S.ds.length := by omega
          subst hkk
          have HEN1 := Lib.hid (HEN.out HT.out)
          have HX : Hid (okStB S = true) := Lib.hid (by rw [HDEF.out, HEN1.out, HC0.out, HD0.out]; rfl)
          go_wp2
          go_ret
          exact ⟨ret_bool HX.out.symm, hbr⟩

set_option maxHeartbeats 32000000 in
set_option maxRecDepth 100000 in
theorem sSok_any (v0 v1 v2 v3 v4 v5 v6 : Value) (S : St) (w : World) (h : RSt w v0 v1 v2 v3 v4 v5 v6 S) :
    Calls Tryz.prog 16 #[.agg #[v0, v1, v2, v3, v4, v5, v6, .int .i64 S.fund]] w fun e w' => e = .returned (.bool (okStB S)) ∧ Below w.heap.size w w' := by
  obtain ⟨B2, d2, ev2, _⟩ := h.dr.nn.formI
  obtain ⟨B3, d3, ev3, _⟩ := h.dr.nl.formI
  obtain ⟨B5, d5, ev5, hc5, hm5, _⟩ := h.cs.form
  obtain ⟨B6, d6, ev6, hc6, hm6, hat⟩ := h.ds.at_
  subst ev2 ev3 ev5 ev6
  unfold maxLen at hm5 hm6
  have hb0 : Below w.heap.size w (w.alloc (.cells #[v0, v1, .slice B2 S.D.nn.length d2, .slice B3 S.D.nl.length d3, v4, .slice B5 S.cs.length d5, .slice B6 S.ds.length d6, .int .i64 S.fund] 44)) := by (repeat' (first | (with_reducible exact Below.refl _ _) | (with_reducible assumption) | (with_reducible refine Below.drew ?_) | (with_reducible refine below_drewN ?_ _) | (with_reducible refine Below.alloc ?_ ?_ _) | (with_reducible refine Below.setCell ?_ ?_ _) | (with_reducible refine Below.step (by assumption) ?_ ?_))); all_goals (first | omega | (simp; done) | (simp; omega))
  have hX0 : Blk (w.alloc (.cells #[v0, v1, .slice B2 S.D.nn.length d2, .slice B3 S.D.nl.length d3, v4, .slice B5 S.cs.length d5, .slice B6 S.ds.length d6, .int .i64 S.fund] 44)) w.heap.size 44 #[v0, v1, .slice B2 S.D.nn.length d2, .slice B3 S.D.nl.length d3, v4, .slice B5 S.cs.length d5, .slice B6 S.ds.length d6, .int .i64 S.fund] := Blk.newAt rfl
  have HAT := Lib.hid hat
  have HH := Lib.hid h
  clear hat h
  obtain ⟨od, hod⟩ : ∃ x, okD S.D = x := ⟨_, rfl⟩
  obtain ⟨dB, hdB⟩ : ∃ x, depsB S.ds = x := ⟨_, rfl⟩
  obtain ⟨fB, hfB⟩ : ∃ x, inB S.fund 0 1000000 = x := ⟨_, rfl⟩
  obtain ⟨pB, hpB⟩ : ∃ x, properB S.D.nn S.D.nl S.cs = x := ⟨_, rfl⟩
  obtain ⟨wB, hwB⟩ : ∃ x, wholeB S.D.nn S.D.nl = x := ⟨_, rfl⟩
  obtain ⟨P, hP⟩ : ∃ x, panesW S.D.nn S.D.nl = x := ⟨_, rfl⟩
  have HDEF : Hid (okStB S = (od && (dB && (fB && ((decide (S.cs.length = 0) || pB) && ((decide (S.ds.length = 0) || wB) && S.ds.all (fun d => decide (d.k ≤ P)))))))) := Lib.hid (by unfold okStB; rw [hod, hdB, hfB, hpB, hwB, hP])
  have HOD := Lib.hid hod
  have HDB := Lib.hid hdB
  have HFB := Lib.hid hfB
  have HPB := Lib.hid hpB
  have HWB := Lib.hid hwB
  have HPP := Lib.hid hP
  clear hod hdB hfB hpB hwB hP
  go_enter Tryz.func16, Tryz.ntmps16
  go_wp2_with fail
  refine (sDok_at _ _ _ _ _ S.D od _ (HH.out.dr.below hb0) HOD).mono ?_
  rintro e w1 ⟨rfl, hb1⟩
  have hbw1 := hb0.trans (hb1.mono hb0.size)
  have hX1 := hX0.below hb1 hX0.lt
  clear hb1 hb0 hX0
  cases od
  · have HX : Hid (okStB S = false) := Lib.hid (by rw [HDEF.out]; rfl)
    go_wp2
    go_ret
    exact ⟨ret_bool HX.out.symm, hbw1⟩
  (have x_0 := hX1.cell 0); (have x_1 := hX1.cell 1); (have x_2 := hX1.cell 2); (have x_3 := hX1.cell 3); (have x_4 := hX1.cell 4); (have x_5 := hX1.cell 5); (have x_6 := hX1.cell 6); (have x_7 := hX1.cell 7); simp only [List.getElem?_toArray, List.getElem?_cons_succ, List.getElem?_cons_zero] at x_0 x_1 x_2 x_3 x_4 x_5 x_6 x_7
  go_wp2_with fail
  refine (sDeps_at _ S.ds dB _ (HH.out.ds.below hbw1) HDB.out).mono ?_
  rintro e w2 ⟨rfl, hb2⟩
  have hbw2 := hbw1.trans (hb2.mono hbw1.size)
  have hX2 := hX1.below hb2 hX1.lt
  clear hb2 hbw1 hX1 x_0 x_1 x_2 x_3 x_4 x_5 x_6 x_7
  cases dB
  · have HX : Hid (okStB S = false) := Lib.hid (by rw [HDEF.out]; rfl)
    go_wp2
    go_ret
    exact ⟨ret_bool HX.out.symm, hbw2⟩
  (have x_0 := hX2.cell 0); (have x_1 := hX2.cell 1); (have x_2 := hX2.cell 2); (have x_3 := hX2.cell 3); (have x_4 := hX2.cell 4); (have x_5 := hX2.cell 5); (have x_6 := hX2.cell 6); (have x_7 := hX2.cell 7); simp only [List.getElem?_toArray, List.getElem?_cons_succ, List.getElem?_cons_zero] at x_0 x_1 x_2 x_3 x_4 x_5 x_6 x_7
  have hXl2 := hX2.lt
  go_wp2_with fail
  refine (l01In_at S.fund 0 1000000 fB _ HFB.out).mono ?_
  rintro e w' ⟨rfl, rfl⟩
  cases fB
  · have HX : Hid (okStB S = false) := Lib.hid (by rw [HDEF.out]; rfl)
    go_wp2
    go_ret
    exact ⟨ret_bool HX.out.symm, hbw2⟩
  go_upto_region 4 with (fail)
  obtain ⟨w3, hw3⟩ : ∃ u, u = w2.alloc (.cells #[.slice B2 S.D.nn.length d2, .slice B3 S.D.nl.length d3] 38) := ⟨_, rfl⟩
  have hN3 : Blk w3 w2.heap.size 38 #[.slice B2 S.D.nn.length d2, .slice B3 S.D.nl.length d3] := hw3 ▸ Blk.newAt rfl
  have hb3 : Below w2.heap.size w2 w3 := hw3 ▸ (Below.refl _ _).alloc (Nat.le_refl _) _
  rw [← hw3]
  clear hw3
  have hbw3 := hbw2.trans (hb3.mono hbw2.size)
  have hX3 := hX2.below hb3 hXl2
  have hXl3 := hX3.lt
  have hNl3 := hN3.lt
  clear hb3 hbw2 hX2 x_0 x_1 x_2 x_3 x_4 x_5 x_6 x_7 hXl2
  generalize w2.heap.size = Nb at *
  (have x_0 := hX3.cell 0); (have x_1 := hX3.cell 1); (have x_2 := hX3.cell 2); (have x_3 := hX3.cell 3); (have x_4 := hX3.cell 4); (have x_5 := hX3.cell 5); (have x_6 := hX3.cell 6); (have x_7 := hX3.cell 7); simp only [List.getElem?_toArray, List.getElem?_cons_succ, List.getElem?_cons_zero] at x_0 x_1 x_2 x_3 x_4 x_5 x_6 x_7
  (have n_0 := hN3.cell 0); (have n_1 := hN3.cell 1); simp only [List.getElem?_toArray, List.getElem?_cons_succ, List.getElem?_cons_zero] at n_0 n_1
  by_cases hc0 : 0 < S.cs.length
  · have e1 : (0 : Int) < (S.cs.length : Int) := by omega
    have HC0 : Hid (decide (S.cs.length = 0) = false) := Lib.hid (decide_eq_false (by omega))
    go_wp2_with fail
    refine (sProper_at _ _ _ S.D.nn S.D.nl S.cs pB _ (HH.out.dr.nn.below hbw3) (HH.out.dr.nl.below hbw3) (HH.out.cs.below hbw3) HPB.out).mono ?_
    rintro e w4 ⟨rfl, hb4⟩
    have hbw4 := hbw3.trans (hb4.mono hbw3.size)
    have hX4 := hX3.below hb4 hX3.lt
    have hN4 := hN3.below hb4 hN3.lt
    clear hb4 hbw3 hX3 hN3 hXl3 hNl3 x_0 x_1 x_2 x_3 x_4 x_5 x_6 x_7 n_0 n_1
    have hXl4 := hX4.lt
    have hNl4 := hN4.lt
    (have x_0 := hX4.cell 0); (have x_1 := hX4.cell 1); (have x_2 := hX4.cell 2); (have x_3 := hX4.cell 3); (have x_4 := hX4.cell 4); (have x_5 := hX4.cell 5); (have x_6 := hX4.cell 6); (have x_7 := hX4.cell 7); simp only [List.getElem?_toArray, List.getElem?_cons_succ, List.getElem?_cons_zero] at x_0 x_1 x_2 x_3 x_4 x_5 x_6 x_7
    (have n_0 := hN4.cell 0); (have n_1 := hN4.cell 1); simp only [List.getElem?_toArray, List.getElem?_cons_succ, List.getElem?_cons_zero] at n_0 n_1
    clear e1 hc0
    cases pB
    · have HX : Hid (okStB S = false) := Lib.hid (by rw [HDEF.out, HC0.out]; simp)
      go_wp2
      go_ret
      exact ⟨ret_bool HX.out.symm, hbw4⟩
    · skip
      go_wp2_with fail
      refine (sPanes_at _ _ S.D.nn S.D.nl P _ (HH.out.dr.nn.below hbw4) (HH.out.dr.nl.below hbw4) HPP.out).mono ?_
      rintro e w6 ⟨rfl, hb6⟩
      have hbw6 := hbw4.trans (hb6.mono hbw4.size)
      have hX6 := hX4.below hb6 hX4.lt
      have hN6 := hN4.below hb6 hN4.lt
      clear hb6 hbw4 hX4 hN4 hXl4 hNl4 x_0 x_1 x_2 x_3 x_4 x_5 x_6 x_7 n_0 n_1
      have hXl6 := hX6.lt
      have hNl6 := hN6.lt
      (have x_0 := hX6.cell 0); (have x_1 := hX6.cell 1); (have x_2 := hX6.cell 2); (have x_3 := hX6.cell 3); (have x_4 := hX6.cell 4); (have x_5 := hX6.cell 5); (have x_6 := hX6.cell 6); (have x_7 := hX6.cell 7); simp only [List.getElem?_toArray, List.getElem?_cons_succ, List.getElem?_cons_zero] at x_0 x_1 x_2 x_3 x_4 x_5 x_6 x_7
      (have n_0 := hN6.cell 0); (have n_1 := hN6.cell 1); simp only [List.getElem?_toArray, List.getElem?_cons_succ, List.getElem?_cons_zero] at n_0 n_1
      have HAL := Lib.hid (fun k (hk : k < S.ds.length) (h : P < (dpI S.ds k).k) => allPl_bad hk h)
      have HSU := Lib.hid (fun k (h : allPl S.ds P k) h2 => allPl_succ (k := k) h h2)
      have HEN := Lib.hid (fun (h : allPl S.ds P S.ds.length) => allPl_true h)
      clear x_0 x_1 x_2 x_3 x_4 x_5 x_6 x_7 n_0 n_1
      (have x_0 := hX6.cell 0); (have x_1 := hX6.cell 1); (have x_2 := hX6.cell 2); (have x_3 := hX6.cell 3); (have x_4 := hX6.cell 4); (have x_5 := hX6.cell 5); (have x_6 := hX6.cell 6); (have x_7 := hX6.cell 7); simp only [List.getElem?_toArray, List.getElem?_cons_succ, List.getElem?_cons_zero] at x_0 x_1 x_2 x_3 x_4 x_5 x_6 x_7
      (have n_0 := hN6.cell 0); (have n_1 := hN6.cell 1); simp only [List.getElem?_toArray, List.getElem?_cons_succ, List.getElem?_cons_zero] at n_0 n_1
      go_wp2
      go_loopw [5] (fun y wr => ∃ k : Nat, k ≤ S.ds.length ∧ y = .int .i64 k ∧ Hid (allPl S.ds P k) ∧ Below w6.heap.size w6 wr) (fun y _ => S.ds.length - (intOf y).toNat)
      case atStart => exact ⟨0, Nat.zero_le _, rfl, Lib.hid (fun j hj => absurd hj (by omega)), Below.refl _ _⟩
      case round =>
        obtain ⟨k, hk, rfl, HT, hbl⟩ := hrel
        clear x_0 x_1 x_2 x_3 x_4 x_5 x_6 x_7 n_0 n_1
        have hbr := hbw6.trans (hbl.mono hbw6.size)
        have hXr := hX6.below hbl hXl6
        have hNr := hN6.below hbl hNl6
        have hXlr := hXr.lt
        have hNlr := hNr.lt
        (have x_0 := hXr.cell 0); (have x_1 := hXr.cell 1); (have x_2 := hXr.cell 2); (have x_3 := hXr.cell 3); (have x_4 := hXr.cell 4); (have x_5 := hXr.cell 5); (have x_6 := hXr.cell 6); (have x_7 := hXr.cell 7); simp only [List.getElem?_toArray, List.getElem?_cons_succ, List.getElem?_cons_zero] at x_0 x_1 x_2 x_3 x_4 x_5 x_6 x_7
        (have n_0 := hNr.cell 0); (have n_1 := hNr.cell 1); simp only [List.getElem?_toArray, List.getElem?_cons_succ, List.getElem?_cons_zero] at n_0 n_1
        by_cases hlt : k < S.ds.length
        · obtain ⟨b, off, rfl, hd⟩ := HAT.out (by omega)
          have hd := hd.below hbr
          obtain ⟨q0, q1, q2⟩ := hd.2 k hlt
          have hbz := hd.1
          have hlt1 : (k : Int) < (S.ds.length : Int) := by omega
          have ik1 : (0 : Int) ≤ (k : Int) := by omega
          have HA1 := Lib.hid (HAL.out k hlt)
          have HS1 := Lib.hid (HSU.out k HT.out)
          clear hd
          generalize dpI S.ds k = D at *
          by_cases hp : P < D.k
          · have e1 : decide (P < D.k) = true := decide_eq_true hp
            have HX : Hid (okStB S = false) := Lib.hid (by rw [HDEF.out, HA1.out hp]; simp)
            clear hp
            go_wp2
            go_ret
            exact ⟨ret_bool HX.out.symm, hbr⟩
          · have e1 : decide (P < D.k) = false := decide_eq_false hp
            have HX := Lib.hid (HS1.out (by omega))
            clear hp
            go_wp2
            go_roundw
            case rel => exact ⟨k + 1, by omega, by go_num, HX, hbl⟩
            case measure => simp [intOf]; omega
        · have hkk : k = S.ds.length := by omega
          subst hkk
          have HEN1 := Lib.hid (HEN.out HT.out)
          by_cases hd0 : S.ds.length = 0
          · have HX : Hid (okStB S = true) := Lib.hid (by rw [HDEF.out, HEN1.out, HC0.out, decide_eq_true hd0]; rfl)
            have e1 : ((S.ds.length : Int) == 0) = true := beq_iff_eq.2 (by omega)
            go_wp2
            go_ret
            exact ⟨ret_bool HX.out.symm, hbr⟩
          · have HX : Hid (okStB S = wB) := Lib.hid (by rw [HDEF.out, HEN1.out, HC0.out, decide_eq_false hd0]; cases wB <;> rfl)
            have e1 : ((S.ds.length : Int) == 0) = false := beq_eq_false_iff_ne.2 (by omega)
            go_wp2_with fail
            refine (sWhole_at _ _ S.D.nn S.D.nl wB _ (HH.out.dr.nn.below hbr) (HH.out.dr.nl.below hbr) HWB.out).mono ?_
            rintro e w9 ⟨rfl, hb9⟩
            have hbr9 := hbr.trans (hb9.mono hbr.size)
            clear e1
            go_wp2
            go_ret
            exact ⟨ret_bool HX.out.symm, hbr9⟩
  · have e1 : ¬ (0 : Int) < (S.cs.length : Int) := by omega
    have HC0 : Hid (decide (S.cs.length = 0) = true) := Lib.hid (decide_eq_true (by omega))
    clear hc0
    go_wp2_with fail
    refine (sPanes_at _ _ S.D.nn S.D.nl P _ (HH.out.dr.nn.below hbw3) (HH.out.dr.nl.below hbw3) HPP.out).mono ?_
    rintro e w6 ⟨rfl, hb6⟩
    have hbw6 := hbw3.trans (hb6.mono hbw3.size)
    have hX6 := hX3.below hb6 hX3.lt
    have hN6 := hN3.below hb6 hN3.lt
    clear hb6 hbw3 hX3 hN3 hXl3 hNl3 x_0 x_1 x_2 x_3 x_4 x_5 x_6 x_7 n_0 n_1
    have hXl6 := hX6.lt
    have hNl6 := hN6.lt
    (have x_0 := hX6.cell 0); (have x_1 := hX6.cell 1); (have x_2 := hX6.cell 2); (have x_3 := hX6.cell 3); (have x_4 := hX6.cell 4); (have x_5 := hX6.cell 5); (have x_6 := hX6.cell 6); (have x_7 := hX6.cell 7); simp only [List.getElem?_toArray, List.getElem?_cons_succ, List.getElem?_cons_zero] at x_0 x_1 x_2 x_3 x_4 x_5 x_6 x_7
    (have n_0 := hN6.cell 0); (have n_1 := hN6.cell 1); simp only [List.getElem?_toArray, List.getElem?_cons_succ, List.getElem?_cons_zero] at n_0 n_1
    have HAL := Lib.hid (fun k (hk : k < S.ds.length) (h : P < (dpI S.ds k).k) => allPl_bad hk h)
    have HSU := Lib.hid (fun k (h : allPl S.ds P k) h2 => allPl_succ (k := k) h h2)
    have HEN := Lib.hid (fun (h : allPl S.ds P S.ds.length) => allPl_true h)
    clear x_0 x_1 x_2 x_3 x_4 x_5 x_6 x_7 n_0 n_1
    (have x_0 := hX6.cell 0); (have x_1 := hX6.cell 1); (have x_2 := hX6.cell 2); (have x_3 := hX6.cell 3); (have x_4 := hX6.cell 4); (have x_5 := hX6.cell 5); (have x_6 := hX6.cell 6); (have x_7 := hX6.cell 7); simp only [List.getElem?_toArray, List.getElem?_cons_succ, List.getElem?_cons_zero] at x_0 x_1 x_2 x_3 x_4 x_5 x_6 x_7
    (have n_0 := hN6.cell 0); (have n_1 := hN6.cell 1); simp only [List.getElem?_toArray, List.getElem?_cons_succ, List.getElem?_cons_zero] at n_0 n_1
    go_wp2
    go_loopw [5] (fun y wr => ∃ k : Nat, k ≤ S.ds.length ∧ y = .int .i64 k ∧ Hid (allPl S.ds P k) ∧ Below w6.heap.size w6 wr) (fun y _ => S.ds.length - (intOf y).toNat)
    case atStart => exact ⟨0, Nat.zero_le _, rfl, Lib.hid (fun j hj => absurd hj (by omega)), Below.refl _ _⟩
    case round =>
      obtain ⟨k, hk, rfl, HT, hbl⟩ := hrel
      clear x_0 x_1 x_2 x_3 x_4 x_5 x_6 x_7 n_0 n_1
      have hbr := hbw6.trans (hbl.mono hbw6.size)
      have hXr := hX6.below hbl hXl6
      have hNr := hN6.below hbl hNl6
      have hXlr := hXr.lt
      have hNlr := hNr.lt
      (have x_0 := hXr.cell 0); (have x_1 := hXr.cell 1); (have x_2 := hXr.cell 2); (have x_3 := hXr.cell 3); (have x_4 := hXr.cell 4); (have x_5 := hXr.cell 5); (have x_6 := hXr.cell 6); (have x_7 := hXr.cell 7); simp only [List.getElem?_toArray, List.getElem?_cons_succ, List.getElem?_cons_zero] at x_0 x_1 x_2 x_3 x_4 x_5 x_6 x_7
      (have n_0 := hNr.cell 0); (have n_1 := hNr.cell 1); simp only [List.getElem?_toArray, List.getElem?_cons_succ, List.getElem?_cons_zero] at n_0 n_1
      by_cases hlt : k < S.ds.length
      · obtain ⟨b, off, rfl, hd⟩ := HAT.out (by omega)
        have hd := hd.below hbr
        obtain ⟨q0, q1, q2⟩ := hd.2 k hlt
        have hbz := hd.1
        have hlt1 : (k : Int) < (S.ds.length : Int) := by omega
        have ik1 : (0 : Int) ≤ (k : Int) := by omega
        have HA1 := Lib.hid (HAL.out k hlt)
        have HS1 := Lib.hid (HSU.out k HT.out)
        clear hd
        generalize dpI S.ds k = D at *
        by_cases hp : P < D.k
        · have e1 : decide (P < D.k) = true := decide_eq_true hp
          have HX : Hid (okStB S = false) := Lib.hid (by rw [HDEF.out, HA1.out hp]; simp)
          clear hp
          go_wp2
          go_ret
          exact ⟨ret_bool HX.out.symm, hbr⟩
        · have e1 : decide (P < D.k) = false := decide_eq_false hp
          have HX := Lib.hid (HS1.out (by omega))
          clear hp
          go_wp2
          go_roundw
          case rel => exact ⟨k + 1, by omega, by go_num, HX, hbl⟩
          case measure => simp [intOf]; omega
      · have hkk : k = S.ds.length := by omega
        subst hkk
        have HEN1 := Lib.hid (HEN.out HT.out)
        by_cases hd0 : S.ds.length = 0
        · have HX : Hid (okStB S = true) := Lib.hid (by rw [HDEF.out, HEN1.out, HC0.out, decide_eq_true hd0]; rfl)
          have e1 : ((S.ds.length : Int) == 0) = true := beq_iff_eq.2 (by omega)
          go_wp2
          go_ret
          exact ⟨ret_bool HX.out.symm, hbr⟩
        · have HX : Hid (okStB S = wB) := Lib.hid (by rw [HDEF.out, HEN1.out, HC0.out, decide_eq_false hd0]; cases wB <;> rfl)
          have e1 : ((S.ds.length : Int) == 0) = false := beq_eq_false_iff_ne.2 (by omega)
          go_wp2_with fail
          refine (sWhole_at _ _ S.D.nn S.D.nl wB _ (HH.out.dr.nn.below hbr) (HH.out.dr.nl.below hbr) HWB.out).mono ?_
          rintro e w9 ⟨rfl, hb9⟩
          have hbr9 := hbr.trans (hb9.mono hbr.size)
          clear e1
          go_wp2
          go_ret
          exact ⟨ret_bool HX.out.symm, hbr9⟩

theorem sStudioOk_at (v0 v1 v2 v3 v4 v5 v6 : Value) (S : St) (r : Bool) (w : World) (h : RSt w v0 v1 v2 v3 v4 v5 v6 S) (hx : Hid (okStB S = r)) :
    Calls Tryz.prog 16 #[.agg #[v0, v1, v2, v3, v4, v5, v6, .int .i64 S.fund]] w fun e w' => e = .returned (.bool r) ∧ Below w.heap.size w w' := by
  rw [← hx.out]; exact sSok_any v0 v1 v2 v3 v4 v5 v6 S w h

theorem iStudioOk_at (v0 v1 v2 v3 v4 v5 v6 : Value) (S : St) (r : Bool) (w : World) (h : RSt w v0 v1 v2 v3 v4 v5 v6 S) (hx : Hid (okStB S = r)) :
    Calls Tryz.prog 18 #[.agg #[v0, v1, v2, v3, v4, v5, v6, .int .i64 S.fund]] w fun e w' => e = .returned (.bool r) ∧ Below w.heap.size w w' := by
  rw [← hx.out]; exact iSok_any v0 v1 v2 v3 v4 v5 v6 S w h

end Go.Proofs.YtoknmjpnelbplaaGreat

namespace Go.Proofs.YtoknmjpnelbplaaGreat
open Go.RowKit

noncomputable def compB (S : St) : Bool := okStB S && (wholeB S.D.nn S.D.nl && (decide (0 < S.cs.length) && decide (S.ds.length = 0)))

set_option maxHeartbeats 8000000 in
set_option maxRecDepth 100000 in
theorem sIsComplete_at (v0 v1 v2 v3 v4 v5 v6 : Value) (S : St) (r : Bool) (w : World) (h : RSt w v0 v1 v2 v3 v4 v5 v6 S) (hx : Hid (compB S = r)) :
    Calls Tryz.prog 20 #[.agg #[v0, v1, v2, v3, v4, v5, v6, .int .i64 S.fund]] w fun e w' => e = .returned (.bool r) ∧ Below w.heap.size w w' := by
  obtain ⟨B5, d5, ev5, hc5, hm5, _⟩ := h.cs.form
  obtain ⟨B6, d6, ev6, hc6, hm6, _⟩ := h.ds.form
  subst ev5 ev6
  unfold maxLen at hm5 hm6
  have hb0 : Below w.heap.size w (w.alloc (.cells #[v0, v1, v2, v3, v4, .slice B5 S.cs.length d5, .slice B6 S.ds.length d6, .int .i64 S.fund] 44)) := by (repeat' (first | (with_reducible exact Below.refl _ _) | (with_reducible assumption) | (with_reducible refine Below.drew ?_) | (with_reducible refine below_drewN ?_ _) | (with_reducible refine Below.alloc ?_ ?_ _) | (with_reducible refine Below.setCell ?_ ?_ _) | (with_reducible refine Below.step (by assumption) ?_ ?_))); all_goals (first | omega | (simp; done) | (simp; omega))
  have hX0 : Blk (w.alloc (.cells #[v0, v1, v2, v3, v4, .slice B5 S.cs.length d5, .slice B6 S.ds.length d6, .int .i64 S.fund] 44)) w.heap.size 44 #[v0, v1, v2, v3, v4, .slice B5 S.cs.length d5, .slice B6 S.ds.length d6, .int .i64 S.fund] := Blk.newAt rfl
  have HH := Lib.hid h
  clear h
  obtain ⟨ob, hob⟩ : ∃ x, okStB S = x := ⟨_, rfl⟩
  obtain ⟨wB, hwB⟩ : ∃ x, wholeB S.D.nn S.D.nl = x := ⟨_, rfl⟩
  have HDEF : Hid ((ob && (wB && (decide (0 < S.cs.length) && decide (S.ds.length = 0)))) = r) := Lib.hid (by rw [← hx.out]; unfold compB; rw [hob, hwB])
  have HOB := Lib.hid hob
  have HWB := Lib.hid hwB
  clear hob hwB hx
  go_enter Tryz.func20, Tryz.ntmps20
  go_wp2_with fail
  refine (sStudioOk_at _ _ _ _ _ _ _ S ob _ (HH.out.below hb0) HOB).mono ?_
  rintro e w1 ⟨rfl, hb1⟩
  have hbw1 := hb0.trans (hb1.mono hb0.size)
  have hX1 := hX0.below hb1 hX0.lt
  clear hb1 hb0 hX0
  cases ob
  · have HX : Hid (false = r) := Lib.hid (by rw [← HDEF.out]; rfl)
    go_wp2
    go_ret
    exact ⟨ret_bool HX.out, hbw1⟩
  · (have x_0 := hX1.cell 0); (have x_1 := hX1.cell 1); (have x_2 := hX1.cell 2); (have x_3 := hX1.cell 3); (have x_4 := hX1.cell 4); (have x_5 := hX1.cell 5); (have x_6 := hX1.cell 6); (have x_7 := hX1.cell 7); simp only [List.getElem?_toArray, List.getElem?_cons_succ, List.getElem?_cons_zero] at x_0 x_1 x_2 x_3 x_4 x_5 x_6 x_7
    go_wp2_with fail
    refine (sWhole_at _ _ S.D.nn S.D.nl wB _ (HH.out.dr.nn.below hbw1) (HH.out.dr.nl.below hbw1) HWB.out).mono ?_
    rintro e w2 ⟨rfl, hb2⟩
    have hbw2 := hbw1.trans (hb2.mono hbw1.size)
    have hX2 := hX1.below hb2 hX1.lt
    clear hb2 hbw1 hX1 x_0 x_1 x_2 x_3 x_4 x_5 x_6 x_7
    cases wB
    · have HX : Hid (false = r) := Lib.hid (by rw [← HDEF.out]; rfl)
      go_wp2
      go_ret
      exact ⟨ret_bool HX.out, hbw2⟩
    · (have x_0 := hX2.cell 0); (have x_1 := hX2.cell 1); (have x_2 := hX2.cell 2); (have x_3 := hX2.cell 3); (have x_4 := hX2.cell 4); (have x_5 := hX2.cell 5); (have x_6 := hX2.cell 6); (have x_7 := hX2.cell 7); simp only [List.getElem?_toArray, List.getElem?_cons_succ, List.getElem?_cons_zero] at x_0 x_1 x_2 x_3 x_4 x_5 x_6 x_7
      by_cases hc0 : 0 < S.cs.length
      · have e1 : (0 : Int) < (S.cs.length : Int) := by omega
        by_cases hd0 : S.ds.length = 0
        · have e2 : ((S.ds.length : Int) == 0) = true := beq_iff_eq.2 (by omega)
          have HX : Hid (true = r) := Lib.hid (by rw [← HDEF.out, decide_eq_true hc0, decide_eq_true hd0]; rfl)
          clear hd0
          go_wp2
          go_ret
          exact ⟨ret_bool HX.out, hbw2⟩
        · have e2 : ((S.ds.length : Int) == 0) = false := beq_eq_false_iff_ne.2 (by omega)
          have HX : Hid (false = r) := Lib.hid (by rw [← HDEF.out, decide_eq_true hc0, decide_eq_false hd0]; rfl)
          clear hd0
          go_wp2
          go_ret
          exact ⟨ret_bool HX.out, hbw2⟩
      · have e1 : ¬ (0 : Int) < (S.cs.length : Int) := by omega
        have HX : Hid (false = r) := Lib.hid (by rw [← HDEF.out, decide_eq_false hc0]; rfl)
        clear hc0
        go_wp2
        go_ret
        exact ⟨ret_bool HX.out, hbw2⟩

set_option maxHeartbeats 8000000 in
set_option maxRecDepth 100000 in
theorem iIsComplete_at (v0 v1 v2 v3 v4 v5 v6 : Value) (S : St) (r : Bool) (w : World) (h : RSt w v0 v1 v2 v3 v4 v5 v6 S) (hx : Hid (compB S = r)) :
    Calls Tryz.prog 21 #[.agg #[v0, v1, v2, v3, v4, v5, v6, .int .i64 S.fund]] w fun e w' => e = .returned (.bool r) ∧ Below w.heap.size w w' := by
  obtain ⟨B5, d5, ev5, hc5, hm5, _⟩ := h.cs.form
  obtain ⟨B6, d6, ev6, hc6, hm6, _⟩ := h.ds.form
  subst ev5 ev6
  unfold maxLen at hm5 hm6
  have hb0 : Below w.heap.size w (w.alloc (.cells #[v0, v1, v2, v3, v4, .slice B5 S.cs.length d5, .slice B6 S.ds.length d6, .int .i64 S.fund] 44)) := by (repeat' (first | (with_reducible exact Below.refl _ _) | (with_reducible assumption) | (with_reducible refine Below.drew ?_) | (with_reducible refine below_drewN ?_ _) | (with_reducible refine Below.alloc ?_ ?_ _) | (with_reducible refine Below.setCell ?_ ?_ _) | (with_reducible refine Below.step (by assumption) ?_ ?_))); all_goals (first | omega | (simp; done) | (simp; omega))
  have hX0 : Blk (w.alloc (.cells #[v0, v1, v2, v3, v4, .slice B5 S.cs.length d5, .slice B6 S.ds.length d6, .int .i64 S.fund] 44)) w.heap.size 44 #[v0, v1, v2, v3, v4, .slice B5 S.cs.length d5, .slice B6 S.ds.length d6, .int .i64 S.fund] := Blk.newAt rfl
  have HH := Lib.hid h
  clear h
  obtain ⟨ob, hob⟩ : ∃ x, okStB S = x := ⟨_, rfl⟩
  obtain ⟨wB, hwB⟩ : ∃ x, wholeB S.D.nn S.D.nl = x := ⟨_, rfl⟩
  have HDEF : Hid ((ob && (wB && (decide (0 < S.cs.length) && decide (S.ds.length = 0)))) = r) := Lib.hid (by rw [← hx.out]; unfold compB; rw [hob, hwB])
  have HOB := Lib.hid hob
  have HWB := Lib.hid hwB
  clear hob hwB hx
  go_enter Tryz.func21, Tryz.ntmps21
  go_wp2_with fail
  refine (iStudioOk_at _ _ _ _ _ _ _ S ob _ (HH.out.below hb0) HOB).mono ?_
  rintro e w1 ⟨rfl, hb1⟩
  have hbw1 := hb0.trans (hb1.mono hb0.size)
  have hX1 := hX0.below hb1 hX0.lt
  clear hb1 hb0 hX0
  cases ob
  · have HX : Hid (false = r) := Lib.hid (by rw [← HDEF.out]; rfl)
    go_wp2
    go_ret
    exact ⟨ret_bool HX.out, hbw1⟩
  · (have x_0 := hX1.cell 0); (have x_1 := hX1.cell 1); (have x_2 := hX1.cell 2); (have x_3 := hX1.cell 3); (have x_4 := hX1.cell 4); (have x_5 := hX1.cell 5); (have x_6 := hX1.cell 6); (have x_7 := hX1.cell 7); simp only [List.getElem?_toArray, List.getElem?_cons_succ, List.getElem?_cons_zero] at x_0 x_1 x_2 x_3 x_4 x_5 x_6 x_7
    go_wp2_with fail
    refine (iWhole_at _ _ S.D.nn S.D.nl wB _ (HH.out.dr.nn.below hbw1) (HH.out.dr.nl.below hbw1) HWB.out).mono ?_
    rintro e w2 ⟨rfl, hb2⟩
    have hbw2 := hbw1.trans (hb2.mono hbw1.size)
    have hX2 := hX1.below hb2 hX1.lt
    clear hb2 hbw1 hX1 x_0 x_1 x_2 x_3 x_4 x_5 x_6 x_7
    cases wB
    · have HX : Hid (false = r) := Lib.hid (by rw [← HDEF.out]; rfl)
      go_wp2
      go_ret
      exact ⟨ret_bool HX.out, hbw2⟩
    · (have x_0 := hX2.cell 0); (have x_1 := hX2.cell 1); (have x_2 := hX2.cell 2); (have x_3 := hX2.cell 3); (have x_4 := hX2.cell 4); (have x_5 := hX2.cell 5); (have x_6 := hX2.cell 6); (have x_7 := hX2.cell 7); simp only [List.getElem?_toArray, List.getElem?_cons_succ, List.getElem?_cons_zero] at x_0 x_1 x_2 x_3 x_4 x_5 x_6 x_7
      by_cases hc0 : 0 < S.cs.length
      · have e1 : (0 : Int) < (S.cs.length : Int) := by omega
        by_cases hd0 : S.ds.length = 0
        · have e2 : ((S.ds.length : Int) == 0) = true := beq_iff_eq.2 (by omega)
          have HX : Hid (true = r) := Lib.hid (by rw [← HDEF.out, decide_eq_true hc0, decide_eq_true hd0]; rfl)
          clear hd0
          go_wp2
          go_ret
          exact ⟨ret_bool HX.out, hbw2⟩
        · have e2 : ((S.ds.length : Int) == 0) = false := beq_eq_false_iff_ne.2 (by omega)
          have HX : Hid (false = r) := Lib.hid (by rw [← HDEF.out, decide_eq_true hc0, decide_eq_false hd0]; rfl)
          clear hd0
          go_wp2
          go_ret
          exact ⟨ret_bool HX.out, hbw2⟩
      · have e1 : ¬ (0 : Int) < (S.cs.length : Int) := by omega
        have HX : Hid (false = r) := Lib.hid (by rw [← HDEF.out, decide_eq_false hc0]; rfl)
        clear hc0
        go_wp2
        go_ret
        exact ⟨ret_bool HX.out, hbw2⟩

end Go.Proofs.YtoknmjpnelbplaaGreat

namespace Go.Proofs.YtoknmjpnelbplaaGreat
open Go.RowKit

set_option maxHeartbeats 16000000 in
set_option maxRecDepth 100000 in
theorem isCompleteLaw_any (v0 v1 v2 v3 v4 v5 v6 : Value) (S : St) (w : World) (h : RSt w v0 v1 v2 v3 v4 v5 v6 S) :
    Calls Tryz.prog 4 #[.agg #[v0, v1, v2, v3, v4, v5, v6, .int .i64 S.fund]] w fun e w' => e = .returned (.bool true) ∧ Below w.heap.size w w' := by
  obtain ⟨x, hx⟩ : ∃ x, szSt S = x := ⟨_, rfl⟩
  have HX := Lib.hid hx
  by_cases hx0 : x < 0
  · clear hx
    go_enter Tryz.func4, Tryz.ntmps4
    go_wp2_with fail
    refine (szStudio_at _ _ _ _ _ _ _ S x _ (h.below (by (repeat (first | exact Below.refl _ _ | assumption | refine Below.drew ?_ | refine below_drewN ?_ _ | refine Below.alloc ?_ (by first | omega | (simp; done) | (simp; omega)) _ | refine Below.setCell ?_ (by first | omega | (simp; done) | (simp; omega)) _ | refine Below.step (by assumption) ?_ (by first | omega | (simp; done) | (simp; omega)) | refine Below.mark (by assumption) (by assumption) ?_ (by first | omega | (simp; done) | (simp; omega)) (by first | omega | (simp; done) | (simp; omega)))))) HX).mono ?_
    rintro e w1 ⟨rfl, hb1⟩; (first | (with_reducible have hcf1 := bcell_drew hb1) | have hcf1 := bcell hb1); obtain ⟨hc1, hf1⟩ := hcf1; have hz1 := hb1.size; (try simp at hz1); (try have hp1_0 : w.heap.size < w1.heap.size := by omega); (try have hp1_1 : w.heap.size + 1 < w1.heap.size := by omega); (try have hp1_2 : w.heap.size + 1 + 1 < w1.heap.size := by omega); (try have hp1_3 : w.heap.size + 1 + 1 + 1 < w1.heap.size := by omega)
    go_wp2
    go_ret
    exact ⟨rfl, by (repeat' (first | (with_reducible exact Below.refl _ _) | (with_reducible assumption) | (with_reducible refine Below.drew ?_) | (with_reducible refine below_drewN ?_ _) | (with_reducible refine Below.alloc ?_ ?_ _) | (with_reducible refine Below.setCell ?_ ?_ _) | (with_reducible refine Below.step (by assumption) ?_ ?_))); all_goals (first | omega | (simp; done) | (simp; omega))⟩
  · have hle : StLe S := szSt_le (by rw [hx]; exact hx0)
    have HLE := Lib.hid hle
    obtain ⟨r, hr⟩ : ∃ r, compB S = r := ⟨_, rfl⟩
    have HR := Lib.hid hr
    clear hx hle hr
    go_enter Tryz.func4, Tryz.ntmps4
    go_wp2_with fail
    refine (szStudio_at _ _ _ _ _ _ _ S x _ (h.below (by (repeat (first | exact Below.refl _ _ | assumption | refine Below.drew ?_ | refine below_drewN ?_ _ | refine Below.alloc ?_ (by first | omega | (simp; done) | (simp; omega)) _ | refine Below.setCell ?_ (by first | omega | (simp; done) | (simp; omega)) _ | refine Below.step (by assumption) ?_ (by first | omega | (simp; done) | (simp; omega)) | refine Below.mark (by assumption) (by assumption) ?_ (by first | omega | (simp; done) | (simp; omega)) (by first | omega | (simp; done) | (simp; omega)))))) HX).mono ?_
    rintro e w1 ⟨rfl, hb1⟩
    have hz1 := hb1.size
    simp at hz1
    have hbw1 : Below w.heap.size w w1 := by (repeat' (first | (with_reducible exact Below.refl _ _) | (with_reducible assumption) | (with_reducible refine Below.drew ?_) | (with_reducible refine below_drewN ?_ _) | (with_reducible refine Below.alloc ?_ ?_ _) | (with_reducible refine Below.setCell ?_ ?_ _) | (with_reducible refine Below.step (by assumption) ?_ ?_))); all_goals (first | omega | (simp; done) | (simp; omega))
    have hV1 : Blk w1 w.heap.size 32 #[v0, v1, v2, v3, v4, v5, v6, .int .i64 S.fund] := Blk.below (Blk.newAt rfl) hb1 (by first | omega | (simp; done) | (simp; omega))
    clear hb1 HX
    (have a_0 := hV1.cell 0); (have a_1 := hV1.cell 1); (have a_2 := hV1.cell 2); (have a_3 := hV1.cell 3); (have a_4 := hV1.cell 4); (have a_5 := hV1.cell 5); (have a_6 := hV1.cell 6); (have a_7 := hV1.cell 7); simp only [List.getElem?_toArray, List.getElem?_cons_succ, List.getElem?_cons_zero] at a_0 a_1 a_2 a_3 a_4 a_5 a_6 a_7
    go_wp2_with fail
    refine (toStudio_any _ _ _ _ _ _ _ S _ (h.below hbw1) HLE.out).mono ?_
    rintro e w2 ⟨A0, c0, A1, c1, A2, c2, A3, c3, A4, c4, A5, c5, A6, c6, fs, rfl, ho2, hb2⟩
    have hV2 := hV1.below hb2 hV1.lt
    have hbw2 := hbw1.trans (hb2.mono hbw1.size)
    clear hb2 hV1 a_0 a_1 a_2 a_3 a_4 a_5 a_6 a_7
    go_wp2_with fail
    refine (sIsComplete_at _ _ _ _ _ _ _ S r _ ho2.reads HR).mono ?_
    rintro e w3 ⟨rfl, hb3⟩
    have hV3 := hV2.below hb3 hV2.lt
    have hbw3 := hbw2.trans (hb3.mono hbw2.size)
    clear hb3 hV2 ho2
    (have a_0 := hV3.cell 0); (have a_1 := hV3.cell 1); (have a_2 := hV3.cell 2); (have a_3 := hV3.cell 3); (have a_4 := hV3.cell 4); (have a_5 := hV3.cell 5); (have a_6 := hV3.cell 6); (have a_7 := hV3.cell 7); simp only [List.getElem?_toArray, List.getElem?_cons_succ, List.getElem?_cons_zero] at a_0 a_1 a_2 a_3 a_4 a_5 a_6 a_7
    go_wp2_with fail
    refine (toStudio_any _ _ _ _ _ _ _ S _ (h.below hbw3) HLE.out).mono ?_
    rintro e w4 ⟨B0, d0, B1, d1, B2, d2, B3, d3, B4, d4, B5, d5, B6, d6, gs, rfl, ho4, hb4⟩
    have hV4 := hV3.below hb4 hV3.lt
    have hbw4 := hbw3.trans (hb4.mono hbw3.size)
    clear hb4 hV3 a_0 a_1 a_2 a_3 a_4 a_5 a_6 a_7
    have hV4l := hV4.lt
    go_wp2_with fail
    obtain ⟨u4, hu4⟩ : ∃ v, v = w4.alloc (.cells #[.slice B0 S.D.fn.length d0, .slice B1 S.D.fl.length d1, .slice B2 S.D.nn.length d2, .slice B3 S.D.nl.length d3, .slice B4 S.D.ss.length d4, .slice B5 S.cs.length d5, .slice B6 S.ds.length d6, .int .i64 S.fund] 44) := ⟨_, rfl⟩
    have hX4 : Blk u4 w4.heap.size 44 #[.slice B0 S.D.fn.length d0, .slice B1 S.D.fl.length d1, .slice B2 S.D.nn.length d2, .slice B3 S.D.nl.length d3, .slice B4 S.D.ss.length d4, .slice B5 S.cs.length d5, .slice B6 S.ds.length d6, .int .i64 S.fund] := hu4 ▸ Blk.newAt rfl
    have hV4' : Blk u4 _ _ _ := hu4 ▸ hV4.alloc _
    have ho4' := hu4 ▸ ho4.alloc (.cells #[.slice B0 S.D.fn.length d0, .slice B1 S.D.fl.length d1, .slice B2 S.D.nn.length d2, .slice B3 S.D.nl.length d3, .slice B4 S.D.ss.length d4, .slice B5 S.cs.length d5, .slice B6 S.ds.length d6, .int .i64 S.fund] 44)
    have hbv4 : Below w.heap.size w u4 := hu4 ▸ hbw4.alloc hbw4.size _
    rw [← hu4]
    clear hu4 hV4 ho4 hbw4 hV4l
    refine (iIsComplete_at _ _ _ _ _ _ _ S r _ ho4'.reads HR).mono ?_
    rintro e w5 ⟨rfl, hb5⟩
    have hV5 := hV4'.below hb5 hV4'.lt
    have hX5 := hX4.below hb5 hX4.lt
    have ho5 := Lib.hid (ho4'.kept hb5)
    have hbw5 := hbv4.trans (hb5.mono hbv4.size)
    clear hb5 hV4' hX4 ho4' hbv4
    generalize w4.heap.size = B at *
    have n1 := hV5.lt
    have n2 := hX5.lt
    (have a_0 := hV5.cell 0); (have a_1 := hV5.cell 1); (have a_2 := hV5.cell 2); (have a_3 := hV5.cell 3); (have a_4 := hV5.cell 4); (have a_5 := hV5.cell 5); (have a_6 := hV5.cell 6); (have a_7 := hV5.cell 7); simp only [List.getElem?_toArray, List.getElem?_cons_succ, List.getElem?_cons_zero] at a_0 a_1 a_2 a_3 a_4 a_5 a_6 a_7
    (have x_0 := hX5.cell 0); (have x_1 := hX5.cell 1); (have x_2 := hX5.cell 2); (have x_3 := hX5.cell 3); (have x_4 := hX5.cell 4); (have x_5 := hX5.cell 5); (have x_6 := hX5.cell 6); (have x_7 := hX5.cell 7); simp only [List.getElem?_toArray, List.getElem?_cons_succ, List.getElem?_cons_zero] at x_0 x_1 x_2 x_3 x_4 x_5 x_6 x_7
    have hd5 := Lib.hid (h.below hbw5)
    have hz5 := hbw5.size
    clear hV5 hX5 hbw3 hbw2 hbw1 hz1
    go_wp2_with fail
    go_region_held3 (fun w' => w'.cell? ⟨w.heap.size, 0, none⟩ = some (v0) ∧ w'.cell? ⟨w.heap.size, 1, none⟩ = some (v1) ∧ w'.cell? ⟨w.heap.size, 2, none⟩ = some (v2) ∧ w'.cell? ⟨w.heap.size, 3, none⟩ = some (v3) ∧ w'.cell? ⟨w.heap.size, 4, none⟩ = some (v4) ∧ w'.cell? ⟨w.heap.size, 5, none⟩ = some (v5) ∧ w'.cell? ⟨w.heap.size, 6, none⟩ = some (v6) ∧ w'.cell? ⟨w.heap.size, 7, none⟩ = some (.int .i64 S.fund) ∧ w'.cell? ⟨B, 0, none⟩ = some (.slice B0 S.D.fn.length d0) ∧ w'.cell? ⟨B, 1, none⟩ = some (.slice B1 S.D.fl.length d1) ∧ w'.cell? ⟨B, 2, none⟩ = some (.slice B2 S.D.nn.length d2) ∧ w'.cell? ⟨B, 3, none⟩ = some (.slice B3 S.D.nl.length d3) ∧ w'.cell? ⟨B, 4, none⟩ = some (.slice B4 S.D.ss.length d4) ∧ w'.cell? ⟨B, 5, none⟩ = some (.slice B5 S.cs.length d5) ∧ w'.cell? ⟨B, 6, none⟩ = some (.slice B6 S.ds.length d6) ∧ w'.cell? ⟨B, 7, none⟩ = some (.int .i64 S.fund))
      (go_keep)
      (first | (go_at_call 17; refine Calls.mono (toStudio_any v0 v1 v2 v3 v4 v5 v6 S _ (hd5.out.below ?c1) HLE.out) ?_; (case c1 => (repeat' (first | (with_reducible exact Below.refl _ _) | (with_reducible assumption) | (with_reducible refine Below.drew ?_) | (with_reducible refine below_drewN ?_ _) | (with_reducible refine Below.alloc ?_ ?_ _) | (with_reducible refine Below.setCell ?_ ?_ _) | (with_reducible refine Below.step (by assumption) ?_ ?_))); all_goals (first | omega | (simp; done) | (simp; omega))); rintro e w6 ⟨E0, e0, E1, e1, E2, e2, E3, e3, E4, e4, E5, e5, E6, e6, ks, rfl, ho6, hb6⟩; (first | (with_reducible have hcf6 := bcell_drew hb6) | have hcf6 := bcell hb6); obtain ⟨hc6, hf6⟩ := hcf6; have hz6 := hb6.size; (try simp at hz6); (try have hp6_0 : w.heap.size < w6.heap.size := by omega); (try have hp6_1 : w.heap.size + 1 < w6.heap.size := by omega); (try have hp6_2 : w.heap.size + 1 + 1 < w6.heap.size := by omega); (try have hp6_3 : w.heap.size + 1 + 1 + 1 < w6.heap.size := by omega); (have mm6 : B < w6.heap.size := by omega)) | (go_at_call 19; refine (eqStudio_any _ _ _ _ _ _ _ _ _ _ _ _ _ _ S _ (ho5.out.reads.below ?c2) ho6.reads).mono ?_; (case c2 => (repeat' (first | (with_reducible exact Below.refl _ _) | (with_reducible assumption) | (with_reducible refine Below.drew ?_) | (with_reducible refine below_drewN ?_ _) | (with_reducible refine Below.alloc ?_ ?_ _) | (with_reducible refine Below.setCell ?_ ?_ _) | (with_reducible refine Below.step (by assumption) ?_ ?_))); all_goals (first | omega | (simp; done) | (simp; omega))); rintro e w7 ⟨rfl, hb7⟩; (first | (with_reducible have hcf7 := bcell_drew hb7) | have hcf7 := bcell hb7); obtain ⟨hc7, hf7⟩ := hcf7; have hz7 := hb7.size; (try simp at hz7); (try have hp7_0 : w.heap.size < w7.heap.size := by omega); (try have hp7_1 : w.heap.size + 1 < w7.heap.size := by omega); (try have hp7_2 : w.heap.size + 1 + 1 < w7.heap.size := by omega); (try have hp7_3 : w.heap.size + 1 + 1 + 1 < w7.heap.size := by omega)))
    go_wp2
    go_ret
    exact ⟨rfl, by (repeat' (first | (with_reducible exact Below.refl _ _) | (with_reducible assumption) | (with_reducible refine Below.drew ?_) | (with_reducible refine below_drewN ?_ _) | (with_reducible refine Below.alloc ?_ ?_ _) | (with_reducible refine Below.setCell ?_ ?_ _) | (with_reducible refine Below.step (by assumption) ?_ ?_))); all_goals (first | omega | (simp; done) | (simp; omega))⟩

end Go.Proofs.YtoknmjpnelbplaaGreat

namespace Go.Proofs.YtoknmjpnelbplaaGreat
open Go.ChangeShapes Go.WideShapes Go.ChangeAt Go.RowKit Go.Joins

set_option maxRecDepth 100000 in
theorem comp_lifted (os : Os) (started : os.Started) (H : Type) (enc : TypeId × Value → H) : ReturnsInHanded {} Tryz.checked os 4 .any (Rows.fnExactIsCompleteSpec.pre6 enc Tryz.prog Tryz.f4 Rows.fnExactIsCompleteRow.domain false) (Rows.fnExactIsCompleteSpec.post enc Tryz.prog Tryz.f4 false true false false) := by
  refine returnsInHanded_of_change (C := Tryz.checked) ownK started (by kernel_rfl) Tryz.func4 (ChangeSpec.witness6 (enc := enc) (C := Tryz.checked) false ⟨#[], #[.agg #[.slice none 0 0, .slice none 0 0, .slice none 0 0, .slice none 0 0, .slice none 0 0, .slice none 0 0, .slice none 0 0, .int .i64 0]], []⟩ 8 (by kernel_rfl) (by kernel_rfl) (by kernel_rfl) (by kernel_rfl)) ?_
  intro W base args ds gs before hval0 hW hcnd _; have hval : ∀ (j : Nat) t v, Tryz.f4.params[j]? = some t → args[j]? = some v → Value.okWide Tryz.prog W .any base t v := hval0; have hW' := hW; obtain ⟨p, q, hA0, hV, rfl, hfz, hnd⟩ := hW; have hA : DataW.TrodAll enc Tryz.prog W 0 (fun _ => true) true Tryz.f4.params.toList args.toList ds p := hA0; rw [Tryz.params4] at hA hval
  obtain ⟨v0, d0, rfl, rfl, h0⟩ := trodAll_one hA
  obtain ⟨x00, x01, x02, x03, x04, x05, x06, S0, rfl, hs0⟩ := open_studio (hval 0 32 v0 rfl rfl) h0
  refine (isCompleteLaw_any _ _ _ _ _ _ _ S0 W hs0).mono fun e W' ⟨he, hb⟩ => ?_
  subst he
  exact ⟨_, rfl, law_post laidOutK Tryz.underlying4 rfl rfl (fun ds h => by match ds, h with | [_], _ => rfl) (by rw [Tryz.params4]; simp only [List.mem_cons, List.mem_nil_iff, or_false, forall_eq_or_imp, forall_eq]; repeat (first | exact ⟨by kernel_rfl, of_decide_eq_true (by kernel_rfl)⟩ | refine ⟨⟨by kernel_rfl, of_decide_eq_true (by kernel_rfl)⟩, ?_⟩)) hW' rfl hb⟩

set_option maxHeartbeats 8000000 in
theorem comp_holds : Rows.FnExactIsCompleteSaid :=
  OpenClaim.holds_of_wide 4 Tryz.f4 rfl rfl rfl rfl rfl rfl rfl ⟨rfl, rfl, rfl, rfl, rfl⟩ rfl rfl rfl rfl rfl (by as_aux_lemma => kernel_rfl) Tryz.func4 (by show joinedFacts Tryz.prog 4 Tryz.f4 Rows.fnExactIsCompleteSpec Rows.fnExactIsCompleteRow = true; unfold joinedFacts; simp only [Bool.and_eq_true]; (repeat' apply And.intro); all_goals first | with_reducible exact laidOutK | with_reducible exact mapsRowedK | with_reducible exact mayEnterK | with_reducible exact lift_eq rfl | with_reducible exact make_eq rfl | as_aux_lemma => kernel_rfl) (by as_aux_lemma => exact of_decide_eq_true (by kernel_rfl)) (by unfold Func.isWrapper; rw [if_neg (by as_aux_lemma => exact of_decide_eq_false (by kernel_rfl))]; exact ⟨rfl, rfl⟩) (fun os started H enc _ => comp_lifted os started H enc)

end Go.Proofs.YtoknmjpnelbplaaGreat
