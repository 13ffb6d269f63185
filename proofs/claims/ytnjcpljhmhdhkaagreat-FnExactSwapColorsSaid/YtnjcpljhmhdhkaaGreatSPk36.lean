/- part 36 -/
import Derived.Test.YtnjcpljhmhdhkaaGreatSPk35
import Derived.Deep.RegionHeld3
import Derived.Deep.DeepCutAuto
import Derived.BigRegion
set_option linter.unusedSimpArgs false
set_option linter.unusedVariables false
namespace Go.Proofs.YtnjcpljhmhdhkaaGreat
open Go.RowKit
theorem besK_same {s : List Int} {F k : Nat} (h : s.getD (2 * k) 0 = s.getD (2 * k + 1) 0) : besK s F (k + 1) = besK s F k := by simp only [besK]; rw [if_pos h]
theorem besK_diff {s : List Int} {F k a b : Nat} (ha : s.getD (2 * k) 0 = (a : Int)) (hb : s.getD (2 * k + 1) 0 = (b : Int)) (h : a ≠ b) : besK s F (k + 1) = setT (setT (besK s F k) a b) b a := by
  simp only [besK]; rw [if_neg (by omega), ha, hb, Int.toNat_natCast, Int.toNat_natCast]
theorem infoRowB : (Tryz.prog.info? 182).map (fun i => (i.zero, i.size, i.bytes)) = some (some (.slice none 0 0), 1, 24) := by kernel_rfl
theorem wpList_append_tab {w : World} {ops : Array Oper} {rest : List Oper} {o : Oper} {a : Act} {Q : Exit → Act → World → Prop} (hgd : o.guard = none) (s x : Operand)
    (ho : o.op = .call { callee := .builtin .append, args := #[s, x], argTypes := #[169, 169] })
    (base : Nat) (v : Value) (F g : Nat) (gs : List Nat) (T : List (List Bool)) (r : List Bool) (hs : a.eval s = v) (g1 : Nat) (hx : a.eval x = .slice (some ⟨g1, 0, none⟩) 1 1) (hg : w.cell? ⟨g1, 0, none⟩ = some (rowV F g))
    (hown : OwnTab base w v F gs T) (hr : OwnE 4 Value.bool base w (rowV F g) r) (hgn : ∀ k, k < T.length → gs.getD k 0 ≠ g) (hlen : T.length ≤ 1048576) (hbase : base ≤ w.heap.size)
    (h : ∀ v' w', OwnTab base w' v' F (gs ++ [g]) (T ++ [r]) → w.grownBy w' v.ownBlock → wpList Tryz.prog ops Q rest (a.put o.dst v') w') : wpList Tryz.prog ops Q (o :: rest) a w := by
  obtain ⟨i, hi, hz, hsize, hby⟩ := info_parts infoRowB
  have hl := hown.len
  exact wpList_append_own w hgd s x 169 ho base 182 i (.slice none 0 0) 1 24 Tryz.underlying169 hi hz hsize hby rfl (by decide) v gs.length (gs.map (rowV F)) hs hown.out ⟨g1, 0, none⟩ 1 1 [rowV F g] hx rfl
    (fun j y hj => by
      match j, hj with
      | 0, hj => cases hj; exact hg
      | j + 1, hj => simp at hj)
    (by
      intro y hy
      simp at hy
      subst hy
      rfl) (by unfold maxLen; omega) (by omega) hbase fun v' w' e1 e2 _ => h v' w' (hown.snoc hr hgn e2 (by rw [← hl]; exact e1)) e2
def RetTab (F : Nat) (T : List (List Bool)) (w : World) (e : Ending) (w' : World) : Prop := ∃ v gs, e = .returned v ∧ OwnTab w.heap.size w' v F gs T ∧ Below w.heap.size w w'
theorem OwnTab.mono {base base' : Nat} {w : World} {v : Value} {F : Nat} {gs : List Nat} {T : List (List Bool)} (h : OwnTab base w v F gs T) (hb : base' ≤ base) : OwnTab base' w v F gs T :=
  ⟨World.ownsRow.mono h.out hb, h.len, h.nd, fun k hk => World.ownsRow.mono (h.row k hk) hb⟩
theorem rep_snoc {α : Type} (k : Nat) (x : α) : List.replicate k x ++ [x] = List.replicate (k + 1) x := by rw [List.replicate_succ']
set_option maxHeartbeats 16000000 in
set_option maxRecDepth 100000 in
theorem sBeside_any (vn vl : Value) (ns ls : List Pr) (w : World) (hn : RP w vn ns) (hl : RP w vl ls) (hw : wholeB ns ls = true) :
    Calls Tryz.prog 179 #[.agg #[vn, vl]] w (RetTab (facesW ns ls).length (besW ns ls) w) := by
  obtain ⟨Al, cl, rfl, hcl, hml, _⟩ := hl.formI
  unfold maxLen at hml
  have hb0 : Below w.heap.size w (w.alloc (.cells #[vn, .slice Al ls.length cl] 27)) := by exact bel_
  have hW0 : Blk (w.alloc (.cells #[vn, .slice Al ls.length cl] 27)) w.heap.size 27 #[vn, .slice Al ls.length cl] := Blk.newAt rfl
  obtain ⟨i0, hi, iz0, iz1, iz2⟩ := info_parts infoBool
  have hfp := face_pos hw
  have hm20 := (whole_win hw).1.2.2.1
  have hfl := facesW_len ns ls
  have HBD := Lib.hid (fun d (hd : d < 2 * ls.length) => sidesL_bd (ns := ns) (ls := ls) hfp hd)
  have HSL := Lib.hid (sidesL_len ns ls)
  have HR : Hid (besW ns ls = besK (sidesL ns ls) (facesW ns ls).length ls.length) := Lib.hid (by unfold besW; rw [facesW_whole hw])
  have HBL := Lib.hid (fun k => besK_len (sidesL ns ls) (facesW ns ls).length k)
  have HBR := Lib.hid (fun k f hf => besK_row (sidesL ns ls) (facesW ns ls).length k f hf)
  have HSA := Lib.hid (fun k h => besK_same (s := sidesL ns ls) (F := (facesW ns ls).length) (k := k) h)
  have HDI := Lib.hid (fun k a b ha hb h => besK_diff (s := sidesL ns ls) (F := (facesW ns ls).length) (k := k) (a := a) (b := b) ha hb h)
  have HZ : Hid (besK (sidesL ns ls) (facesW ns ls).length 0 = List.replicate (facesW ns ls).length (List.replicate (facesW ns ls).length false)) := Lib.hid rfl
  have HSD := Lib.hid (fun (v : World) (h1 : RP v vn ns) (h2 : RP v (.slice Al ls.length cl) ls) => sSides_any vn (.slice Al ls.length cl) ns ls v h1 h2 hw)
  clear hw
  go_enter Tryz.func179, Tryz.ntmps179
  go_wp2_with fail
  refine (sFaces_any _ _ ns ls _ (hn.below hb0) (hl.below hb0)).mono ?_
  rintro e w1 ⟨v1, rfl, ho1, hb1⟩
  have hbw1 := hb0.trans (hb1.mono hb0.size)
  have hW1 := hW0.below hb1 hW0.lt
  have hz1 := hW1.lt
  obtain ⟨A1, c1, rfl⟩ := ho1.form
  clear hb1 ho1 hb0 hW0
  generalize (facesW ns ls).length = F at *
  generalize sidesL ns ls = s at *
  have hT1 : OwnTab (w.heap.size + 1) (w1.alloc (.cells #[] 182)) (.slice (some ⟨w1.heap.size, 0, none⟩) 0 0) F [] (List.replicate 0 (List.replicate F false)) := by
    refine ⟨?_, rfl, List.nodup_nil, fun k hk => absurd hk (by simp)⟩
    exact World.ownsRow_made w1 #[] 0 (by omega) (by decide) (by simp)
  have hbw2 : Below w.heap.size w (w1.alloc (.cells #[] 182)) := hbw1.alloc hbw1.size _
  have hW2 := hW1.alloc (.cells #[] 182)
  clear hbw1 hW1
  go_wp2
  go_loopw [4, 5] (fun v x wr => ∃ (k : Nat) (gs : List Nat), k ≤ F ∧ x = .int .i64 k ∧ OwnTab (w.heap.size + 1) wr v F gs (List.replicate k (List.replicate F false)) ∧ Blk wr w.heap.size 27 #[vn, .slice Al ls.length cl] ∧ Below w.heap.size w wr) (fun _ x _ => F - (intOf x).toNat)
  case atStart => exact ⟨0, [], Nat.zero_le _, rfl, hT1, hW2, hbw2⟩
  case round =>
    clear hT1 hW2 hbw2
    obtain ⟨k, gs, hk, rfl, ho, hW, hB⟩ := hrel
    have hz2 := hW.lt
    by_cases hlt : k < F
    · have hlt1 : (k : Int) < (F : Int) := by omega
      go_wp2_with (at_make; refine wpList_make_full _ rfl _ _ 182 rfl (w.heap.size + 1) 4 i0 (.bool false) 1 Tryz.underlying182 hi iz0 iz1 .i64 .i64 _ _ F rfl rfl rfl rfl (by rw [iz2]; omega) (by unfold maxLen; omega) (by omega) ?_)
      intro w3 hown1 hgr1
      have hB3 : Below wr.heap.size wr w3 := (Below.refl _ _).grown hgr1 (Nat.le_refl _) (by intro k hk; cases hk)
      have hrow : OwnE 4 Value.bool (w.heap.size + 1) w3 (rowV F wr.heap.size) (List.replicate F false) := by
        unfold OwnE
        rw [List.length_replicate, ← madeB]; exact hown1
      have ho3 := ho.kept hB3
      have hW3 := hW.below hB3 hz2
      have hBw3 := hB.trans (hB3.mono hB.size)
      have hgn : ∀ j, j < (List.replicate k (List.replicate F false)).length → gs.getD j 0 ≠ wr.heap.size := fun j hj => by have := (gs_lt ho hj).2; omega
      have hz3 := hW3.lt
      clear hown1 hgr1
      have ho4 := ho3.kept (Below.alloc (Below.refl w3.heap.size w3) (Nat.le_refl _) (.cells #[rowV F wr.heap.size] 182))
      have hrow4 := OwnE.alloc hrow (.cells #[rowV F wr.heap.size] 182)
      have hW4 := hW3.alloc (.cells #[rowV F wr.heap.size] 182)
      have hB4 : Below w.heap.size w (w3.alloc (.cells #[rowV F wr.heap.size] 182)) := hBw3.alloc hBw3.size _
      clear ho hW hB hB3 ho3 hW3 hrow hBw3
      go_wp2_with (at_builtin; refine wpList_append_tab rfl _ _ rfl (w.heap.size + 1) _ F wr.heap.size gs (List.replicate k (List.replicate F false)) (List.replicate F false) rfl w3.heap.size rfl (cell_new1 rfl) ho4 hrow4 hgn (by simp; omega) (by simp; omega) ?_)
      intro v5 w5 ho5 hg5
      rw [rep_snoc] at ho5
      have hW5 : Blk w5 w.heap.size 27 #[vn, .slice Al ls.length cl] := (hg5.block w.heap.size (by simp; omega) (fun e => by have := (ho4.out.lt _ e.symm).1; omega)).trans hW4
      have hB5 := hB4.grown hg5 (by simp; omega) (fun q hq => by have := (ho4.out.lt q hq).1; omega)
      clear ho4 hrow4 hW4 hB4 hg5 hgn
      go_wp2
      go_roundw
      case rel => exact ⟨k + 1, _, by omega, by go_num, ho5, hW5, hB5⟩
      case measure => simp [intOf]; omega
    · have hkk : k = F := by omega
      subst hkk
      have hgl : gs.length = k := by have := ho.len; simpa using this
      have hT0 := ho
      rw [← HZ.out] at hT0
      obtain ⟨g, cg, rfl, hgb, hgw⟩ := hT0.blk (by rw [HBL.out]; exact hfp)
      have hik : ∀ p : Nat, p < k → (p : Int) < (gs.length : Int) := fun p hp => by omega
      obtain ⟨a_0, a_1⟩ := hW.c2
      clear ho
      go_wp2_with fail
      refine (HSD.out _ (hn.below hB) (hl.below hB)).mono ?_
      rintro e w3 ⟨v3, rfl, ho3, hb3⟩
      have hT3 := hT0.kept hb3
      have hW3 := hW.below hb3 hz2
      have hB3 := hB.trans (hb3.mono hB.size)
      have ho3' := OwnI.mono ho3 (show w.heap.size + 1 ≤ wr.heap.size by omega)
      clear hT0 hW hB hb3 ho3 a_0 a_1
      obtain ⟨As, cS, rfl⟩ := OwnE.form (t := 3) (enc := vI) ho3'
      rw [HSL.out] at ho3' ⊢
      go_wp2
      go_loopw [7] (fun x wr => ∃ j : Nat, j ≤ ls.length ∧ x = .int .i64 j ∧ OwnTab (w.heap.size + 1) wr (.slice (some ⟨g, 0, none⟩) gs.length cg) k gs (besK s k j) ∧ OwnI (w.heap.size + 1) wr (.slice As (2 * ls.length) cS) s ∧ Blk wr w.heap.size 27 #[vn, .slice Al ls.length cl] ∧ Below w.heap.size w wr) (fun x _ => ls.length - (intOf x).toNat)
      case atStart => exact ⟨0, Nat.zero_le _, rfl, hT3, ho3', hW3, hB3⟩
      case round =>
        clear hT3 ho3' hW3 hB3
        obtain ⟨j, hj, rfl, hT, hS, hW, hB⟩ := hrel
        have hsz := hW.lt
        obtain ⟨a_0, a_1⟩ := hW.c2
        by_cases hlt : j < ls.length
        · obtain ⟨p, hp, hpF⟩ := HBD.out (2 * j) (by omega)
          obtain ⟨q, hq, hqF⟩ := HBD.out (2 * j + 1) (by omega)
          obtain ⟨b, cb, eb, hcb, hbb, hbl, hcl2⟩   := OwnI.blk hS (by rw [HSL.out]; omega)
          injection eb with eb1 eb2 eb3
          subst eb1
          have hx0 := hcl2 (2 * j) (by rw [HSL.out]; omega)
          have hx1 := hcl2 (2 * j + 1) (by rw [HSL.out]; omega)
          rw [hp] at hx0
          rw [hq] at hx1
          have e0w : IntKind.i64.wrap (2 * (j : Int)) = ((2 * j : Nat) : Int) := by rw [show 2 * (j : Int) = ((2 * j : Nat) : Int) by omega]; exact IntWalk.i64_in _ (by omega)
          have e1w : IntKind.i64.wrap (((2 * j : Nat) : Int) + 1) = ((2 * j + 1 : Nat) : Int) := by rw [show ((2 * j : Nat) : Int) + 1 = ((2 * j + 1 : Nat) : Int) by omega]; exact IntWalk.i64_in _ (by omega)
          have i0 : (0 : Int) ≤ ((2 * j : Nat) : Int) := by omega
          have i1 : ((2 * j : Nat) : Int) < ((2 * ls.length : Nat) : Int) := by omega
          have i2 : (0 : Int) ≤ ((2 * j + 1 : Nat) : Int) := by omega
          have i3 : ((2 * j + 1 : Nat) : Int) < ((2 * ls.length : Nat) : Int) := by omega
          have i4 : (0 : Int) ≤ (p : Int) := by omega
          have i5 := hik p hpF
          have i6 : (0 : Int) ≤ (q : Int) := by omega
          have i7 := hik q hqF
          have i8 : (p : Int) < (k : Int) := by omega
          have i9 : (q : Int) < (k : Int) := by omega
          have ij : (j : Int) < (ls.length : Int) := by omega
          have HSA1 := Lib.hid (HSA.out j)
          have HDI1 := Lib.hid (HDI.out j p q hp hq)
          rw [hp, hq] at HSA1
          clear hcl2 hp hq eb2 eb3 hcb hbb
          by_cases hpq : p = q
          · have e1 : ((p : Int) == (q : Int)) = true := beq_iff_eq.2 (by omega)
            have e2 : ((p : Int) != (q : Int)) = false := by rw [bne, e1]; rfl
            have HX := Lib.hid (HSA1.out (by omega))
            clear hpq
            go_wp2
            go_roundw
            case rel => exact ⟨j + 1, by omega, by go_num, by rw [HX.out]; exact hT, hS, hW, hB⟩
            case measure => simp [intOf]; omega
          · have e1 : ((p : Int) == (q : Int)) = false := beq_eq_false_iff_ne.2 (by omega)
            have e2 : ((p : Int) != (q : Int)) = true := by rw [bne, e1]; rfl
            have HX := Lib.hid (HDI1.out hpq)
            have hTl := HBL.out j
            have HTR := Lib.hid (HBR.out j)
            generalize besK s k j = T at *
            have hpT : p < T.length := by omega
            have hqT : q < T.length := by omega
            have u0 := hT.cell hpT
            have u1 := hT.cell hqT
            have v0 := hT.cell2 hpT (j := q) (by rw [HTR.out p hpF]; exact hqF)
            have v1 := hT.cell2 hqT (j := p) (by rw [HTR.out q hqF]; exact hpF)
            have f0 := hT.frz2 hpT q
            have f1 := hT.frz2 hqT p
            obtain ⟨l0a, l0⟩ := gs_lt hT hpT
            obtain ⟨l1a, l1⟩ := gs_lt hT hqT
            have hgr := (hT.out.lt g rfl).2
            have HS1 := hT.set_ hpT q true
            have HS2 := HS1.set_ (a := q) (by simpa using hqT) p true
            have hTT : (T.set p ((T.getD p []).set q true)).set q (((T.set p ((T.getD p []).set q true)).getD q []).set p true) = besK s k (j + 1) := by rw [HX.out]; rfl
            rw [hTT] at HS2
            have hne := gs_ne hT hpT hqT hpq
            have hg0 := hT.apart hpT rfl
            have hg1 := hT.apart hqT rfl
            have HO := Lib.hid (show OwnI (w.heap.size + 1) ((wr.setCell ⟨gs.getD p 0, q, none⟩ (.bool true)).setCell ⟨gs.getD q 0, p, none⟩ (.bool true)) (.slice (some ⟨b, 0, none⟩) (2 * ls.length) cS) s from OwnE.other (t := 3) (enc := vI) (OwnE.other (t := 3) (enc := vI) hS (hT.row p hpT) ty_nb (grown_set (grown_refl _ _) q _)) (HS1.row q (by simpa using hqT)) ty_nb (grown_set (grown_refl _ _) p _))
            have HS2' := Lib.hid HS2
            have HW := Lib.hid (show Blk ((wr.setCell ⟨gs.getD p 0, q, none⟩ (.bool true)).setCell ⟨gs.getD q 0, p, none⟩ (.bool true)) w.heap.size 27 #[vn, .slice Al ls.length cl] from (hW.far (p := ⟨gs.getD p 0, q, none⟩) (show w.heap.size ≠ gs.getD p 0 by omega) _).far (p := ⟨gs.getD q 0, p, none⟩) (show w.heap.size ≠ gs.getD q 0 by omega) _)
            have HB := Lib.hid (show Below w.heap.size w ((wr.setCell ⟨gs.getD p 0, q, none⟩ (.bool true)).setCell ⟨gs.getD q 0, p, none⟩ (.bool true)) from (hB.setCell (p := ⟨gs.getD p 0, q, none⟩) (show w.heap.size ≤ gs.getD p 0 by omega) _).setCell (p := ⟨gs.getD q 0, p, none⟩) (show w.heap.size ≤ gs.getD q 0 by omega) _)
            clear HS1 HS2 hTT hT hS hW hB HTR
            generalize gs.getD p 0 = ga at *
            generalize gs.getD q 0 = gb at *
            generalize (T.getD p []).getD q false = x0 at *
            generalize (T.getD q []).getD p false = x1 at *
            have d1 : ¬ ga = gb := hne
            have d2 : ¬ gb = ga := fun e => hne e.symm
            have d3 : ¬ g = ga := hg0
            have d4 : ¬ ga = g := fun e => hg0 e.symm
            have d5 : ¬ g = gb := hg1
            clear hne hg0 hg1
            go_wp2
            go_roundw
            case rel => exact ⟨j + 1, by omega, by go_num, HS2'.out, HO.out, HW.out, HB.out⟩
            case measure => simp [intOf]; omega
        · have hjj : j = ls.length := by omega
          subst hjj
          have hT' := hT
          rw [hgl] at hT'
          have HT := Lib.hid hT'
          have HB := Lib.hid hB
          clear hT hT' hS hB
          go_wp2
          go_ret
          exact ⟨_, _, rfl, by rw [HR.out]; exact OwnTab.mono HT.out (show w.heap.size ≤ w.heap.size + 1 by omega), HB.out⟩
end Go.Proofs.YtnjcpljhmhdhkaaGreat

namespace Go.Proofs.YtnjcpljhmhdhkaaGreat
open Go.RowKit
theorem natI_rep (n : Nat) : natI (List.replicate n 0) = List.replicate n 0 := by simp [natI]
theorem natI_set (l : List Nat) (a x : Nat) : natI (l.set a x) = (natI l).set a (x : Int) := by simp [natI, List.map_set]
theorem nearK_same {s : List Int} {F k : Nat} (h : s.getD (2 * k) 0 = s.getD (2 * k + 1) 0) : nearK s F (k + 1) = nearK s F k := by simp only [nearK]; rw [if_pos h]
theorem nearK_diff {s : List Int} {F k a b : Nat} (ha : s.getD (2 * k) 0 = (a : Int)) (hb : s.getD (2 * k + 1) 0 = (b : Int)) (h : a ≠ b) : nearK s F (k + 1) = setN (setN (nearK s F k) a b) b a := by
  simp only [nearK]; rw [if_neg (by omega), ha, hb, Int.toNat_natCast, Int.toNat_natCast]
set_option maxHeartbeats 16000000 in
set_option maxRecDepth 100000 in
theorem iNear_any (vn vl : Value) (ns ls : List Pr) (w : World) (hn : RP w vn ns) (hl : RP w vl ls) (hw : wholeB ns ls = true) :
    Calls Tryz.prog 254 #[.agg #[vn, vl]] w (RetI (natI (nearW ns ls)) w) := by
  have hb0 : Below w.heap.size w (w.alloc (.cells #[vn, vl] 27)) := by exact bel_
  have hW0 : Blk (w.alloc (.cells #[vn, vl] 27)) w.heap.size 27 #[vn, vl] := Blk.newAt rfl
  obtain ⟨i0, hi, iz0, iz1, iz2⟩ := info_parts infoInt
  have hfp := face_pos hw
  have hm20 := (whole_win hw).1.2.2.1
  have hfl := facesW_len ns ls
  have hwf := facesW_whole hw
  have HBD := Lib.hid (fun d (hd : d < 2 * ls.length) => sidesL_bd (ns := ns) (ls := ls) hfp hd)
  have HSL := Lib.hid (sidesL_len ns ls)
  have HSI : Hid (sidesI ns ls = sidesL ns ls) := Lib.hid (by unfold sidesI; rw [hw]; rfl)
  have HR : Hid (nearW ns ls = nearK (sidesL ns ls) (facesW ns ls).length ls.length) := Lib.hid (by unfold nearW; rw [hwf])
  have HLT : Hid (∀ k, k ≤ ls.length → ∀ f, f < (facesW ns ls).length → (nearK (sidesL ns ls) (facesW ns ls).length k).getD f 0 < 2 ^ (facesW ns ls).length) := Lib.hid (fun k hk f hf => nearK_lt _ _ k (fun j hj => by
    obtain ⟨p, h1, h2⟩ := sidesL_bd (ns := ns) (ls := ls) hfp (d := j) (by omega)
    rw [h1]; omega) f hf)
  have HLN := Lib.hid (fun k => nearK_len (sidesL ns ls) (facesW ns ls).length k)
  have HSA := Lib.hid (fun k h => nearK_same (s := sidesL ns ls) (F := (facesW ns ls).length) (k := k) h)
  have HDI := Lib.hid (fun k a b ha hb h => nearK_diff (s := sidesL ns ls) (F := (facesW ns ls).length) (k := k) (a := a) (b := b) ha hb h)
  have HZ : Hid (nearK (sidesL ns ls) (facesW ns ls).length 0 = List.replicate (facesW ns ls).length 0) := Lib.hid rfl
  clear hwf hw
  go_enter Tryz.func254, Tryz.ntmps254
  go_wp2_with fail
  refine (iSides_any _ _ ns ls _ (hn.below hb0) (hl.below hb0)).mono ?_
  rw [HSI.out]
  rintro e w1 ⟨v1, rfl, ho1, hb1⟩
  have hbw1 := hb0.trans (hb1.mono hb0.size)
  have hW1 := hW0.below hb1 hW0.lt
  have hs1 := ho1.reads
  clear hb1 ho1 hb0 hW0
  obtain ⟨a_0, a_1⟩ := hW1.c2
  have hz1 := hW1.lt
  go_wp2_with fail
  refine (iFaces_any _ _ ns ls _ (hn.below hbw1) (hl.below hbw1)).mono ?_
  rintro e w2 ⟨v2, rfl, ho2, hb2⟩
  have hbw2 := hbw1.trans (hb2.mono hbw1.size)
  have hs2 := hs1.below hb2
  have hz2 : w.heap.size < w2.heap.size := Nat.lt_of_lt_of_le hz1 hb2.size
  obtain ⟨A2, c2, rfl⟩ := ho2.form
  obtain ⟨As, cS, rfl, hcs, hms, hcells⟩ := hs2.form
  rw [HSL.out] at hcells ⊢
  clear hs1 hb2 ho2 hbw1 hW1 a_0 a_1 hz1 hs2 hcs hms hn hl
  generalize (facesW ns ls).length = F at *
  generalize sidesL ns ls = s at *
  go_wp2_with (at_make; refine wpList_make_full _ rfl _ _ 31 rfl (w.heap.size + 1) 3 i0 (.int .i64 0) 1 Tryz.underlying31 hi iz0 iz1 .i64 .i64 _ _ F rfl rfl rfl rfl (by rw [iz2]; omega) (by unfold maxLen; omega) (by omega) ?_)
  intro w3 hown1 hgr1
  have hB3 : Below w2.heap.size w2 w3 := (Below.refl _ _).grown hgr1 (Nat.le_refl _) (by intro k hk; cases hk)
  have hsn : OwnI (w.heap.size + 1) w3 (.slice (some ⟨w2.heap.size, 0, none⟩) F F) (natI (nearK s F 0)) := by
    rw [HZ.out, natI_rep]
    unfold OwnI
    rw [List.length_replicate, ← madeI]; exact hown1
  have hgsz := (OwnI.lt hsn _ rfl).2
  obtain ⟨gs, hgs⟩ : ∃ g, w2.heap.size = g := ⟨_, rfl⟩
  rw [hgs] at hB3 hsn hgsz hz2 ⊢
  have HGS := Lib.hid hgs
  clear hown1 hgr1 hgs i0 hi iz0 iz1 iz2
  go_wp2
  go_loopw [5] (fun x wr => ∃ k : Nat, k ≤ ls.length ∧ x = .int .i64 k ∧ OwnI (w.heap.size + 1) wr (.slice (some ⟨gs, 0, none⟩) F F) (natI (nearK s F k)) ∧ Below gs w2 wr) (fun x _ => ls.length - (intOf x).toNat)
  case atStart => exact ⟨0, Nat.zero_le _, rfl, hsn, hB3⟩
  case round =>
    clear hsn hB3 hgsz
    obtain ⟨k, hk, rfl, ho, hB⟩ := hrel
    have ew : IntKind.i64.wrap (2 * (k : Int)) = ((2 * k : Nat) : Int) := by rw [show 2 * (k : Int) = ((2 * k : Nat) : Int) by omega]; exact IntWalk.i64_in _ (by omega)
    by_cases hlt : k < ls.length
    · obtain ⟨b, off, rfl, hb, hcl2⟩ := hcells (by omega)
      obtain ⟨p, hp, hpF⟩ := HBD.out (2 * k) (by omega)
      obtain ⟨q, hq, hqF⟩ := HBD.out (2 * k + 1) (by omega)
      rw [HGS.out] at hb
      have hx0 := (hB.cell (p := ⟨b, off + 2 * k, none⟩) hb).trans (hcl2 (2 * k) (by omega))
      have hx1 := (hB.cell (p := ⟨b, off + (2 * k + 1), none⟩) hb).trans (hcl2 (2 * k + 1) (by omega))
      rw [hp] at hx0
      rw [hq] at hx1
      have hbz : b < wr.heap.size := by have := hB.size; rw [HGS.out] at this; omega
      have e1w : IntKind.i64.wrap (((2 * k : Nat) : Int) + 1) = ((2 * k + 1 : Nat) : Int) := by rw [show ((2 * k : Nat) : Int) + 1 = ((2 * k + 1 : Nat) : Int) by omega]; exact IntWalk.i64_in _ (by omega)
      have i0 : (0 : Int) ≤ ((2 * k : Nat) : Int) := by omega
      have i1 : ((2 * k : Nat) : Int) < ((2 * ls.length : Nat) : Int) := by omega
      have i2 : (0 : Int) ≤ ((2 * k + 1 : Nat) : Int) := by omega
      have i3 : ((2 * k + 1 : Nat) : Int) < ((2 * ls.length : Nat) : Int) := by omega
      have i4 : (0 : Int) ≤ (p : Int) := by omega
      have i5 : (p : Int) < (F : Int) := by omega
      have i6 : (0 : Int) ≤ (q : Int) := by omega
      have i7 : (q : Int) < (F : Int) := by omega
      have HSA1 := Lib.hid (HSA.out k)
      have HDI1 := Lib.hid (HDI.out k p q hp hq)
      rw [hp, hq] at HSA1
      have hgl := (OwnI.lt ho gs rfl).2
      clear hcl2 hcells hp hq
      by_cases hpq : p = q
      · have e1 : ((p : Int) == (q : Int)) = true := beq_iff_eq.2 (by omega)
        have e2 : ((p : Int) != (q : Int)) = false := by rw [bne, e1]; rfl
        have HX := Lib.hid (HSA1.out (by omega))
        clear hpq
        go_wp2_with fail
        (refine wp_region_quietG (by kernel_rfl) (by kernel_rfl) (fun hG => ?_))
        repeat (go_big_quiet_step (fail))
        refine wpQuiet_nil ?_
        clear hG
        rintro w5 ⟨⟨_, hs5⟩, rfl⟩
        have HO := Lib.hid (show OwnI (w.heap.size + 1) w5 (.slice (some ⟨gs, 0, none⟩) F F) (natI (nearK s F (k + 1))) by rw [HX.out]; exact ho.kept hs5)
        have HB := Lib.hid (hB.trans (hs5.mono (by omega)))
        clear ho hB hx0 hx1
        go_wp2
        go_roundw
        case rel => exact ⟨k + 1, by omega, by go_num, HO.out, HB.out⟩
        case measure => simp [intOf]; omega
      · have e1 : ((p : Int) == (q : Int)) = false := beq_eq_false_iff_ne.2 (by omega)
        have e2 : ((p : Int) != (q : Int)) = true := by rw [bne, e1]; rfl
        have HX := Lib.hid (HDI1.out hpq)
        have hF62 : (2 : Nat) ^ F ≤ 2 ^ 40 := Nat.pow_le_pow_right (by omega) (by omega)
        have hLp := HLT.out k hk p hpF
        have hLq := HLT.out k hk q hqF
        have hll := HLN.out k
        generalize nearK s F k = L at *
        have xp := shl64 (k := p) (by omega)
        have xq := shl64 (k := q) (by omega)
        have Pp : 2 ^ p < 2 ^ 40 := Nat.pow_lt_pow_right (by omega) (by omega)
        have Pq : 2 ^ q < 2 ^ 40 := Nat.pow_lt_pow_right (by omega) (by omega)
        have o1 := bits_or_nat (a := L.getD p 0) (b := 2 ^ q) (by omega) (by omega)
        have o2 := bits_or_nat (a := L.getD q 0) (b := 2 ^ p) (by omega) (by omega)
        have hq64 : q < 64 := by omega
        have hp64 : p < 64 := by omega
        have HGQ : Hid ((setN L p q).getD q 0 = L.getD q 0) := Lib.hid (by rw [setN_get (by omega), if_neg (fun e => hpq e.symm)])
        clear hLp hLq Pp Pq hF62
        go_wp2_with fail
        (refine wp_region_quietG (by kernel_rfl) (by kernel_rfl) (fun hG => ?_))
        repeat (go_big_quiet_step (fail))
        refine wpQuiet_nil ?_
        clear hG
        rintro w5 ⟨⟨_, hs5⟩, rfl⟩
        have ho5 := ho.kept hs5
        have hB5 := hB.trans (hs5.mono (by omega))
        have hgl5 := (OwnI.lt ho5 gs rfl).2
        clear ho hB hx0 hx1 hgl hs5
        have hcp : w5.cell? ⟨gs, p, none⟩ = some (.int .i64 (L.getD p 0 : Nat)) := by
          rw [OwnE.cell (t := 3) (enc := vI) ho5 0 (q := p) (by rw [natI_length, hll]; exact hpF), natI_get]; rfl
        have fp := OwnE.frz (t := 3) (enc := vI) ho5 p
        have HS1 : Hid (OwnI (w.heap.size + 1) (w5.setCell ⟨gs, p, none⟩ (.int .i64 ((L.getD p 0 ||| 2 ^ q : Nat) : Int))) (.slice (some ⟨gs, 0, none⟩) F F) (natI (setN L p q))) := Lib.hid (by unfold setN; rw [natI_set]; exact own_set ho5 p _)
        have HB1 := Lib.hid (hB5.setCell (p := ⟨gs, p, none⟩) (Nat.le_refl _) (.int .i64 ((L.getD p 0 ||| 2 ^ q : Nat) : Int)))
        generalize hO1 : L.getD p 0 ||| 2 ^ q = O1 at *
        generalize hP2 : ((2 ^ q : Nat) : Int) = Q2 at *
        generalize L.getD p 0 = lp at *
        clear ho5 hB5 hO1 hP2
        go_wp2_with fail
        go_cut [] (fun wx => OwnI (w.heap.size + 1) wx (.slice (some ⟨gs, 0, none⟩) F F) (natI (setN L p q)) ∧ Below gs w2 wx)
        case first =>
          go_region
          all_goals go_wp2
          all_goals go_meet
          all_goals exact ⟨HS1.out, HB1.out.drew⟩
        case rest =>
          obtain ⟨ho6, hB6⟩ := hcut
          obtain ⟨w6, hw6⟩ : ∃ u, u = wc := ⟨_, rfl⟩
          subst hw6
          have hgl6 := (OwnI.lt ho6 gs rfl).2
          have hcq : w6.cell? ⟨gs, q, none⟩ = some (.int .i64 (L.getD q 0 : Nat)) := by
            rw [OwnE.cell (t := 3) (enc := vI) ho6 0 (q := q) (by rw [natI_length, setN_len, hll]; exact hqF), natI_get, HGQ.out]; rfl
          have fq := OwnE.frz (t := 3) (enc := vI) ho6 q
          have HS2 : Hid (OwnI (w.heap.size + 1) (w6.setCell ⟨gs, q, none⟩ (.int .i64 ((L.getD q 0 ||| 2 ^ p : Nat) : Int))) (.slice (some ⟨gs, 0, none⟩) F F) (natI (nearK s F (k + 1)))) := Lib.hid (by rw [HX.out]; unfold setN; rw [natI_set, show (L.set p (L.getD p 0 ||| 2 ^ q)).getD q 0 = L.getD q 0 from HGQ.out]; exact own_set ho6 q _)
          have HB2 := Lib.hid (hB6.setCell (p := ⟨gs, q, none⟩) (Nat.le_refl _) (.int .i64 ((L.getD q 0 ||| 2 ^ p : Nat) : Int)))
          generalize hO2 : L.getD q 0 ||| 2 ^ p = O2 at *
          generalize hP3 : ((2 ^ p : Nat) : Int) = P2 at *
          generalize L.getD q 0 = lq at *
          clear ho6 hB6 hO2 hP3 hcp fp HS1 HB1
          go_wp2_with fail
          go_region
          all_goals go_wp2
          all_goals go_roundw
          case rel => exact ⟨k + 1, by omega, by go_num, HS2.out, HB2.out.drew⟩
          case measure => simp [intOf]; omega
    · have hkk : k = ls.length := by omega
      subst hkk
      have HB := Lib.hid (hbw2.trans (Below.mono (by rw [HGS.out]; exact hB) hbw2.size))
      go_wp2
      go_ret
      exact ⟨_, rfl, by rw [HR.out]; exact OwnI.mono ho (by omega), HB.out⟩
end Go.Proofs.YtnjcpljhmhdhkaaGreat
