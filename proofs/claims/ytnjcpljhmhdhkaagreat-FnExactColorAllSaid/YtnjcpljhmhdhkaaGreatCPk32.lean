/- part 32 -/
import Derived.Test.YtnjcpljhmhdhkaaGreatCPk24
import Derived.Test.YtnjcpljhmhdhkaaGreatCPk25
import Derived.Test.YtnjcpljhmhdhkaaGreatCPk31
set_option linter.unusedSimpArgs false
set_option linter.unusedVariables false
namespace Go.Proofs.YtnjcpljhmhdhkaaGreat
open Go.RowKit
theorem iWhole_at (vn vl : Value) (ns ls : List Pr) (b : Bool) (w : World) (hn : RP w vn ns) (hl : RP w vl ls) (hb : wholeB ns ls = b) :
    Calls Tryz.prog 79 #[.agg #[vn, vl]] w fun e w' => e = .returned (.bool b) ∧ Below w.heap.size w w' := by
  subst hb; exact iWhole_any vn vl ns ls w hn hl
theorem cell_new1 {W : World} {v : Value} {t : TypeId} {g : Nat} (hg : g = W.heap.size) : (W.alloc (.cells #[v] t)).cell? ⟨g, 0, none⟩ = some v := (Blk.newAt hg).cell 0
theorem ty_nb : 3 ≠ 4 := by decide
theorem OwnF.made {base g : Nat} {w : World} (hg : g = w.heap.size) (hb : base ≤ w.heap.size) : OwnF base (w.alloc (.cells #[] 31)) (.slice (some ⟨g, 0, none⟩) 0 0) [] := by
  subst hg
  exact ⟨[], rfl, World.ownsRow_made _ _ _ hb (by simp [maxLen]) (by simp), fun k hk => absurd hk (by simp)⟩
theorem OwnF.grownNone {base : Nat} {w w' : World} {v : Value} {F : List (List Nat)} (h : OwnF base w v F) (hg : w.grownBy w' none) : OwnF base w' v F :=
  h.far hg (fun k hk => by cases hk)
theorem OwnF.offType {base b2 : Nat} {w w' : World} {v u : Value} {F : List (List Nat)} {l : List Bool} (h : OwnF base w v F) (hs : OwnE 4 Value.bool b2 w u l) (hg : w.grownBy w' u.ownBlock) : OwnF base w' v F := by
  obtain ⟨vs, h1, h2, h3⟩ := h
  have h2' : OwnE 31 (fun x : Value => x) base w v vs := by
    unfold OwnE
    rw [List.map_id', h1]; exact h2
  refine ⟨vs, h1, ?_, fun k hk => OwnE.other (t := 3) (enc := vI) (h3 k hk) hs ty_nb hg⟩
  have := OwnE.other h2' hs (by decide) hg
  unfold OwnE at this
  rw [List.map_id', h1] at this
  exact this
set_option maxHeartbeats 8000000 in
set_option maxRecDepth 100000 in
theorem iFaces_any (vn vl : Value) (ns ls : List Pr) (w : World) (hn : RP w vn ns) (hl : RP w vl ls) :
    Calls Tryz.prog 145 #[.agg #[vn, vl]] w (RetF (facesW ns ls) w) := by
  obtain ⟨An, cn, rfl, hcn, hmn, _⟩ := hn.formI
  obtain ⟨Al, cl, rfl, hcl, hml, _⟩ := hl.formI
  unfold maxLen at hmn hml
  have hb0 : Below w.heap.size w (w.alloc (.cells #[.slice An ns.length cn, .slice Al ls.length cl] 27)) := by exact bel_
  have hW0 : Blk (w.alloc (.cells #[.slice An ns.length cn, .slice Al ls.length cl] 27)) w.heap.size 27 #[.slice An ns.length cn, .slice Al ls.length cl] := Blk.newAt rfl
  cases hw : wholeB ns ls
  · have HR : Hid (facesW ns ls = []) := Lib.hid (by simp [facesW, hw])
    go_enter Tryz.func145, Tryz.ntmps145
    go_wp2_with fail
    refine (iWhole_at _ _ ns ls _ _ (hn.below hb0) (hl.below hb0) hw).mono ?_
    rintro e w1 ⟨rfl, hb1⟩
    have hbw1 := hb0.trans (hb1.mono hb0.size)
    go_wp2
    go_ret
    exact ⟨_, rfl, by rw [HR.out]; exact OwnF.nil _ _, hbw1⟩
  · have HR : Hid (facesW ns ls = facesK ns ls (2 * ls.length)) := Lib.hid (by simp [facesW, hw]; rfl)
    have hwin := (whole_win hw).1
    have hpos := (whole_win hw).2
    have hm20 := hwin.2.2.1
    have hld : ∀ j : Nat, j < ls.length → leadB ns (ndI ls j) = true := fun j hj => (hwin.2.2.2.2.2 j hj).1
    obtain ⟨i0, hi, iz0, iz1, iz2⟩ := info_parts infoBool
    have HWK := Lib.hid (fun (v : World) (d : Nat) (hv : Below w.heap.size w v) (hd : d < 2 * ls.length) => iWalk_any (.slice An ns.length cn) (.slice Al ls.length cl) ns ls d v (hn.below hv) (hl.below hv) hd hwin)
    have HBD := Lib.hid (fun d hd => walk_bd (ns := ns) hld (d := d) hd)
    have HWL := Lib.hid (fun d hd => walk_len (ns := ns) hld (d := d) hd)
    have HFL := Lib.hid (facesK_len ns ls)
    have HFY := Lib.hid (fun m h => facesK_yes (ns := ns) (ls := ls) (m := m) h)
    have HFN := Lib.hid (fun m h => facesK_no (ns := ns) (ls := ls) (m := m) h)
    have HF0 : Hid (facesK ns ls 0 = []) := Lib.hid rfl
    have e2 : 2 * (ls.length : Int) = ((2 * ls.length : Nat) : Int) := by omega
    clear hwin hld
    go_enter Tryz.func145, Tryz.ntmps145
    go_wp2_with fail
    refine (iWhole_at _ _ ns ls _ _ (hn.below hb0) (hl.below hb0) hw).mono ?_
    rintro e w1 ⟨rfl, hb1⟩
    have hbw1 := hb0.trans (hb1.mono hb0.size)
    have hW1 := hW0.below hb1 hW0.lt
    have hz1 := hW1.lt
    clear hb1 hb0 hW0 hw
    obtain ⟨a_0, a_1⟩ := hW1.c2
    generalize hNN : 2 * ls.length = N at *
    have hN40 : N ≤ 40 := by omega
    go_wp2_with (at_make; refine wpList_make_full _ rfl _ _ 182 rfl (w.heap.size + 1) 4 i0 (.bool false) 1 Tryz.underlying182 hi iz0 iz1 .i64 .i64 _ _ N rfl rfl rfl rfl (by rw [iz2]; omega) (by unfold maxLen; omega) (by omega) ?_)
    intro w2 hown1 hgr1
    have hb2 : Below w.heap.size w w2 := hbw1.grown hgr1 hbw1.size (by intro k hk; cases hk)
    have hW2 : Blk w2 w.heap.size 27 #[.slice An ns.length cn, .slice Al ls.length cl] := (hgr1.block _ hz1 (fun e => by cases e)).trans hW1
    have hz2 := hgr1.size
    have hsn : OwnE 4 Value.bool (w.heap.size + 1) w2 (.slice (some ⟨w1.heap.size, 0, none⟩) N N) ((List.range N).map (seenB (facesK ns ls 0))) := by
      unfold OwnE
      rw [HF0.out, mkS_start, List.length_replicate]
      rw [← madeB]; exact hown1
    have hgsz := (hsn.lt _ rfl).2
    have hO0 : OwnF (w1.heap.size + 1) w2 (.slice none 0 0) [] := OwnF.nil _ _
    have hgg := hz1
    generalize w1.heap.size = gs at *
    clear hown1 hgr1 hbw1 hW1 a_0 a_1 hz1 hz2
    obtain ⟨a_0, a_1⟩ := hW2.c2
    go_wp2
    go_loopw [4, 19] (fun v x wr => ∃ d : Nat, d ≤ N ∧ x = .int .i64 d ∧ OwnF (gs + 1) wr v (facesK ns ls d) ∧ OwnE 4 Value.bool (w.heap.size + 1) wr (.slice (some ⟨gs, 0, none⟩) N N) ((List.range N).map (seenB (facesK ns ls d))) ∧ Blk wr w.heap.size 27 #[.slice An ns.length cn, .slice Al ls.length cl] ∧ Below w.heap.size w wr) (fun _ x _ => N - (intOf x).toNat)
    case atStart => exact ⟨0, Nat.zero_le _, rfl, by rw [HF0.out]; exact hO0, hsn, hW2, hb2⟩
    case round =>
      clear hsn hW2 hb2 a_0 a_1
      obtain ⟨d, hd, rfl, ho, hsn, hW, hbl⟩ := hrel
      have hsz := hW.lt
      have hgz : gs < wr.heap.size := (hsn.lt gs rfl).2
      by_cases hlt : d < N
      · have hlt1 : (d : Int) < (N : Int) := by omega
        have hx := hsn.cell false (q := d) (by simpa using hlt)
        rw [mkS_get hlt] at hx
        have HY := Lib.hid (HFY.out d)
        have HNo := Lib.hid (HFN.out d)
        have hfl := HFL.out d
        generalize facesK ns ls d = F at *
        obtain ⟨a_0, a_1⟩ := hW.c2
        cases hs : seenB F d
        · rw [hs] at hx
          have HS := Lib.hid (HNo.out hs)
          clear hs
          go_wp2_with fail
          refine (HWK.out _ d hbl hlt).mono ?_
          rintro e w3 ⟨v3, rfl, ho3, hb3⟩
          have hF3 := ho.kept hb3
          have hS3 := hsn.kept hb3
          have hW3 := hW.below hb3 hsz
          have hbl3 := hbl.trans (hb3.mono hbl.size)
          have hI3 : OwnI (gs + 1) w3 v3 (natI (walkD ns ls d)) := ho3.mono (by omega)
          have HB := Lib.hid (HBD.out d hlt)
          have hwl := HWL.out d hlt
          generalize walkD ns ls d = f at *
          obtain ⟨A3, c3, rfl⟩ := hI3.form
          rw [natI_length] at hI3 ⊢
          rw [← mkS_zero N F f] at hS3
          clear hb3 ho3 ho hsn hW hbl a_0 a_1 hx hsz
          go_wp2
          go_loopw [31] (fun x wr => ∃ j : Nat, j ≤ f.length ∧ x = .int .i64 j ∧ OwnF (gs + 1) wr u4 F ∧ OwnE 4 Value.bool (w.heap.size + 1) wr (.slice (some ⟨gs, 0, none⟩) N N) (mkS N F f j) ∧ OwnI (gs + 1) wr (.slice A3 f.length c3) (natI f) ∧ Blk wr w.heap.size 27 #[.slice An ns.length cn, .slice Al ls.length cl] ∧ Below w.heap.size w wr) (fun x _ => f.length - (intOf x).toNat)
          case atStart => exact ⟨0, Nat.zero_le _, rfl, hF3, hS3, hI3, hW3, hbl3⟩
          case round =>
            clear hF3 hS3 hI3 hW3 hbl3
            obtain ⟨j, hj, rfl, ho, hsn, hI, hW, hbl⟩ := hrel
            have hsz := hW.lt
            by_cases hjl : j < f.length
            · have hjl1 : (j : Int) < (f.length : Int) := by omega
              have ij1 : (0 : Int) ≤ (j : Int) := by omega
              obtain ⟨A4, c4, he4, hc4, hm4, hcell4⟩ := hI.reads.form
              rw [natI_length] at he4
              cases he4
              rw [natI_length] at hcell4
              obtain ⟨b4, off4, rfl, hb4, hcl4⟩ := hcell4 (by omega)
              have hx := hcl4 j hjl
              rw [natI_get] at hx
              have hem : f.getD j 0 < N := HB.out _ (by rw [List.getD, List.getElem?_eq_getElem hjl]; exact List.getElem_mem hjl)
              have HS1 := Lib.hid (mkS_succ N F f j hjl)
              generalize f.getD j 0 = x at *
              have ix1 : (0 : Int) ≤ (x : Int) := by omega
              have ix2 : (x : Int) < (N : Int) := by omega
              have hxs := hsn.cell false (q := x) (by rw [mkS_len]; exact hem)
              obtain ⟨z, hz⟩ : ∃ z, wr.cell? ⟨gs, x, none⟩ = some z := ⟨_, hxs⟩
              have fx := hsn.frz x
              have HSN : Hid (OwnE 4 Value.bool (w.heap.size + 1) (wr.setCell ⟨gs, x, none⟩ (.bool true)) (.slice (some ⟨gs, 0, none⟩) N N) (mkS N F f (j + 1))) := Lib.hid (by rw [HS1.out]; exact hsn.set_ x true)
              have hgw : wr.grownBy (wr.setCell ⟨gs, x, none⟩ (.bool true)) (some gs) := grown_set (grown_refl _ _) x _
              have HOF := Lib.hid (ho.far hgw (fun k hk => by cases hk; omega))
              have HIF := Lib.hid (hI.far hgw (fun k hk => by cases hk; omega))
              have HWF := Lib.hid (hW.far (p := ⟨gs, x, none⟩) (show ¬ w.heap.size = gs by omega) (.bool true))
              have HBF := Lib.hid (hbl.setCell (p := ⟨gs, x, none⟩) (show w.heap.size ≤ gs by omega) (.bool true))
              clear ho hsn hI hW hbl hxs hgw hcl4 hcell4
              go_wp2
              go_roundw
              case rel => exact ⟨j + 1, by omega, by go_num, HOF.out, HSN.out, HIF.out, HWF.out, HBF.out⟩
              case measure => simp [intOf]; omega
            · have hjj : j = f.length := by omega
              subst hjj
              have HSN : Hid (OwnE 4 Value.bool (w.heap.size + 1) wr (.slice (some ⟨gs, 0, none⟩) N N) ((List.range N).map (seenB (F ++ [f])))) := Lib.hid (by rw [← mkS_all]; exact hsn)
              have hgz4 : gs < wr.heap.size := (hsn.lt gs rfl).2
              clear hsn
              go_wp2_with (at_builtin; refine wpList_append_row rfl _ _ rfl (gs + 1) _ (.slice A3 f.length c3) F f rfl wr.heap.size rfl (cell_new1 (by simp)) (ho.alloc _) (hI.alloc _) (by omega) (by simp; omega) ?_)
              intro v4 w4 hF4 hg4
              have hrb : ∀ k, (u4 : Value).ownBlock = some k → gs + 1 ≤ k ∧ k < wr.heap.size := fun k hk => ho.lt k hk
              have hbl4 : Below w.heap.size w w4 := (hbl.alloc hbl.size (.cells #[.slice A3 f.length c3] 31)).grown hg4 (by simp; have := hbl.size; omega) (fun k hk => by have := (hrb k hk).1; omega)
              have hW4 : Blk w4 w.heap.size 27 #[.slice An ns.length cn, .slice Al ls.length cl] := (hg4.block _ (by simp; omega) (fun e => by have := (hrb _ e.symm).1; omega)).trans (hW.alloc _)
              have hS4 : OwnE 4 Value.bool (w.heap.size + 1) w4 (.slice (some ⟨gs, 0, none⟩) N N) ((List.range N).map (seenB (F ++ [f]))) := by
                obtain ⟨vs, g1, g2, g3⟩ := ho.alloc (.cells #[.slice A3 f.length c3] 31)
                exact OwnE.other (HSN.out.alloc _) g2 (by decide) hg4
              clear ho hI hW hbl hg4 hrb
              go_wp2
              go_roundw
              case rel => exact ⟨d + 1, by omega, by go_num, by rw [HS.out]; exact hF4, by rw [HS.out]; exact hS4, hW4, hbl4⟩
              case measure => simp [intOf]; omega
        · rw [hs] at hx
          have HS := Lib.hid (HY.out hs)
          clear hs
          go_wp2
          go_roundw
          case rel => exact ⟨d + 1, by omega, by go_num, by rw [HS.out]; exact ho, by rw [HS.out]; exact hsn, hW, hbl⟩
          case measure => simp [intOf]; omega
      · have hdd : d = N := by omega
        subst hdd
        have HN := Lib.hid hNN
        go_wp2
        go_ret
        exact ⟨_, rfl, by rw [HR.out]; exact ho.mono (by omega), hbl⟩
set_option maxHeartbeats 8000000 in
set_option maxRecDepth 100000 in
theorem sFaces_any (vn vl : Value) (ns ls : List Pr) (w : World) (hn : RP w vn ns) (hl : RP w vl ls) :
    Calls Tryz.prog 121 #[.agg #[vn, vl]] w (RetF (facesW ns ls) w) := by
  obtain ⟨An, cn, rfl, hcn, hmn, _⟩ := hn.formI
  obtain ⟨Al, cl, rfl, hcl, hml, _⟩ := hl.formI
  unfold maxLen at hmn hml
  have hb0 : Below w.heap.size w ((w.alloc (.cells #[.slice An ns.length cn, .slice Al ls.length cl] 27)).alloc (.cells #[] 31)) := by exact bel_
  have hW0 : Blk ((w.alloc (.cells #[.slice An ns.length cn, .slice Al ls.length cl] 27)).alloc (.cells #[] 31)) w.heap.size 27 #[.slice An ns.length cn, .slice Al ls.length cl] := (Blk.newAt rfl).alloc _
  have hOz : OwnF (w.heap.size + 1) ((w.alloc (.cells #[.slice An ns.length cn, .slice Al ls.length cl] 27)).alloc (.cells #[] 31)) (.slice (some ⟨w.heap.size + 1, 0, none⟩) 0 0) [] := OwnF.made (by simp) (by simp)
  cases hw : wholeB ns ls
  · have HR : Hid (facesW ns ls = []) := Lib.hid (by simp [facesW, hw])
    go_enter Tryz.func121, Tryz.ntmps121
    go_wp2_with fail
    refine (sWhole_at _ _ ns ls _ _ (hn.below hb0) (hl.below hb0) hw).mono ?_
    rintro e w1 ⟨rfl, hb1⟩
    have hbw1 := hb0.trans (hb1.mono hb0.size)
    have hOz1 := hOz.kept hb1
    go_wp2
    go_ret
    exact ⟨_, rfl, by rw [HR.out]; exact hOz1.mono (by omega), hbw1⟩
  · have HR : Hid (facesW ns ls = facesK ns ls (2 * ls.length)) := Lib.hid (by simp [facesW, hw]; rfl)
    have hwin := (whole_win hw).1
    have hpos := (whole_win hw).2
    have hm20 := hwin.2.2.1
    have hld : ∀ j : Nat, j < ls.length → leadB ns (ndI ls j) = true := fun j hj => (hwin.2.2.2.2.2 j hj).1
    obtain ⟨i0, hi, iz0, iz1, iz2⟩ := info_parts infoBool
    have HWK := Lib.hid (fun (v : World) (d : Nat) (hv : Below w.heap.size w v) (hd : d < 2 * ls.length) => sWalk_any (.slice An ns.length cn) (.slice Al ls.length cl) ns ls d v (hn.below hv) (hl.below hv) hd hwin)
    have HBD := Lib.hid (fun d hd => walk_bd (ns := ns) hld (d := d) hd)
    have HWL := Lib.hid (fun d hd => walk_len (ns := ns) hld (d := d) hd)
    have HFL := Lib.hid (facesK_len ns ls)
    have HFY := Lib.hid (fun m h => facesK_yes (ns := ns) (ls := ls) (m := m) h)
    have HFN := Lib.hid (fun m h => facesK_no (ns := ns) (ls := ls) (m := m) h)
    have HF0 : Hid (facesK ns ls 0 = []) := Lib.hid rfl
    have e2 : 2 * (ls.length : Int) = ((2 * ls.length : Nat) : Int) := by omega
    clear hwin hld
    go_enter Tryz.func121, Tryz.ntmps121
    go_wp2_with fail
    refine (sWhole_at _ _ ns ls _ _ (hn.below hb0) (hl.below hb0) hw).mono ?_
    rintro e w1 ⟨rfl, hb1⟩
    have hbw1 := hb0.trans (hb1.mono hb0.size)
    have hW1 := hW0.below hb1 hW0.lt
    have hOz1 := hOz.kept hb1
    have hz1 := hW1.lt
    clear hb1 hb0 hW0 hw
    obtain ⟨a_0, a_1⟩ := hW1.c2
    generalize hNN : 2 * ls.length = N at *
    have hN40 : N ≤ 40 := by omega
    go_wp2_with (at_make; refine wpList_make_full _ rfl _ _ 182 rfl (w.heap.size + 1) 4 i0 (.bool false) 1 Tryz.underlying182 hi iz0 iz1 .i64 .i64 _ _ N rfl rfl rfl rfl (by rw [iz2]; omega) (by unfold maxLen; omega) (by omega) ?_)
    intro w2 hown1 hgr1
    have hb2 : Below w.heap.size w w2 := hbw1.grown hgr1 hbw1.size (by intro k hk; cases hk)
    have hW2 : Blk w2 w.heap.size 27 #[.slice An ns.length cn, .slice Al ls.length cl] := (hgr1.block _ hz1 (fun e => by cases e)).trans hW1
    have hz2 := hgr1.size
    have hsn : OwnE 4 Value.bool (w.heap.size + 1) w2 (.slice (some ⟨w1.heap.size, 0, none⟩) N N) ((List.range N).map (seenB (facesK ns ls 0))) := by
      unfold OwnE
      rw [HF0.out, mkS_start, List.length_replicate]
      rw [← madeB]; exact hown1
    have hgsz := (hsn.lt _ rfl).2
    have hO0 : OwnF (w.heap.size + 1) w2 (.slice (some ⟨w.heap.size + 1, 0, none⟩) 0 0) [] := hOz1.grownNone hgr1
    clear hOz hOz1
    have hgg := hz1
    generalize w1.heap.size = gs at *
    clear hown1 hgr1 hbw1 hW1 a_0 a_1 hz1 hz2
    obtain ⟨a_0, a_1⟩ := hW2.c2
    go_wp2
    go_loopw [3, 5] (fun v x wr => ∃ d : Nat, d ≤ N ∧ x = .int .i64 d ∧ OwnF (w.heap.size + 1) wr v (facesK ns ls d) ∧ OwnE 4 Value.bool (w.heap.size + 1) wr (.slice (some ⟨gs, 0, none⟩) N N) ((List.range N).map (seenB (facesK ns ls d))) ∧ Blk wr w.heap.size 27 #[.slice An ns.length cn, .slice Al ls.length cl] ∧ Below w.heap.size w wr) (fun _ x _ => N - (intOf x).toNat)
    case atStart => exact ⟨0, Nat.zero_le _, rfl, by rw [HF0.out]; exact hO0, hsn, hW2, hb2⟩
    case round =>
      clear hsn hW2 hb2 a_0 a_1
      obtain ⟨d, hd, rfl, ho, hsn, hW, hbl⟩ := hrel
      have hsz := hW.lt
      have hgz : gs < wr.heap.size := (hsn.lt gs rfl).2
      by_cases hlt : d < N
      · have hlt1 : (d : Int) < (N : Int) := by omega
        have hx := hsn.cell false (q := d) (by simpa using hlt)
        rw [mkS_get hlt] at hx
        have HY := Lib.hid (HFY.out d)
        have HNo := Lib.hid (HFN.out d)
        have hfl := HFL.out d
        generalize facesK ns ls d = F at *
        obtain ⟨a_0, a_1⟩ := hW.c2
        cases hs : seenB F d
        · rw [hs] at hx
          have HS := Lib.hid (HNo.out hs)
          clear hs
          go_wp2_with fail
          refine (HWK.out _ d hbl hlt).mono ?_
          rintro e w3 ⟨v3, rfl, ho3, hb3⟩
          have hF3 := ho.kept hb3
          have hS3 := hsn.kept hb3
          have hW3 := hW.below hb3 hsz
          have hbl3 := hbl.trans (hb3.mono hbl.size)
          have hI3 : OwnI (w.heap.size + 1) w3 v3 (natI (walkD ns ls d)) := ho3.mono (by omega)
          have HB := Lib.hid (HBD.out d hlt)
          have hwl := HWL.out d hlt
          generalize walkD ns ls d = f at *
          obtain ⟨A3, c3, rfl⟩ := hI3.form
          rw [natI_length] at hI3 ⊢
          rw [← mkS_zero N F f] at hS3
          clear hb3 ho3 ho hsn hW hbl a_0 a_1 hx hsz
          go_wp2
          go_loopw [7] (fun x wr => ∃ j : Nat, j ≤ f.length ∧ x = .int .i64 j ∧ OwnF (w.heap.size + 1) wr u3 F ∧ OwnE 4 Value.bool (w.heap.size + 1) wr (.slice (some ⟨gs, 0, none⟩) N N) (mkS N F f j) ∧ OwnI (w.heap.size + 1) wr (.slice A3 f.length c3) (natI f) ∧ Blk wr w.heap.size 27 #[.slice An ns.length cn, .slice Al ls.length cl] ∧ Below w.heap.size w wr) (fun x _ => f.length - (intOf x).toNat)
          case atStart => exact ⟨0, Nat.zero_le _, rfl, hF3, hS3, hI3, hW3, hbl3⟩
          case round =>
            clear hF3 hS3 hI3 hW3 hbl3
            obtain ⟨j, hj, rfl, ho, hsn, hI, hW, hbl⟩ := hrel
            have hsz := hW.lt
            by_cases hjl : j < f.length
            · have hjl1 : (j : Int) < (f.length : Int) := by omega
              have ij1 : (0 : Int) ≤ (j : Int) := by omega
              obtain ⟨A4, c4, he4, hc4, hm4, hcell4⟩ := hI.reads.form
              rw [natI_length] at he4
              cases he4
              rw [natI_length] at hcell4
              obtain ⟨b4, off4, rfl, hb4, hcl4⟩ := hcell4 (by omega)
              have hx := hcl4 j hjl
              rw [natI_get] at hx
              have hem : f.getD j 0 < N := HB.out _ (by rw [List.getD, List.getElem?_eq_getElem hjl]; exact List.getElem_mem hjl)
              have HS1 := Lib.hid (mkS_succ N F f j hjl)
              generalize f.getD j 0 = x at *
              have ix1 : (0 : Int) ≤ (x : Int) := by omega
              have ix2 : (x : Int) < (N : Int) := by omega
              have hxs := hsn.cell false (q := x) (by rw [mkS_len]; exact hem)
              obtain ⟨z, hz⟩ : ∃ z, wr.cell? ⟨gs, x, none⟩ = some z := ⟨_, hxs⟩
              have fx := hsn.frz x
              have HSN : Hid (OwnE 4 Value.bool (w.heap.size + 1) (wr.setCell ⟨gs, x, none⟩ (.bool true)) (.slice (some ⟨gs, 0, none⟩) N N) (mkS N F f (j + 1))) := Lib.hid (by rw [HS1.out]; exact hsn.set_ x true)
              have hgw : wr.grownBy (wr.setCell ⟨gs, x, none⟩ (.bool true)) (some gs) := grown_set (grown_refl _ _) x _
              have HOF := Lib.hid (ho.offType hsn hgw)
              have HIF := Lib.hid (OwnE.other (t := 3) (enc := vI) hI hsn ty_nb hgw)
              have HWF := Lib.hid (hW.far (p := ⟨gs, x, none⟩) (show ¬ w.heap.size = gs by omega) (.bool true))
              have HBF := Lib.hid (hbl.setCell (p := ⟨gs, x, none⟩) (show w.heap.size ≤ gs by omega) (.bool true))
              clear ho hsn hI hW hbl hxs hgw hcl4 hcell4
              go_wp2
              go_roundw
              case rel => exact ⟨j + 1, by omega, by go_num, HOF.out, HSN.out, HIF.out, HWF.out, HBF.out⟩
              case measure => simp [intOf]; omega
            · have hjj : j = f.length := by omega
              subst hjj
              have HSN : Hid (OwnE 4 Value.bool (w.heap.size + 1) wr (.slice (some ⟨gs, 0, none⟩) N N) ((List.range N).map (seenB (F ++ [f])))) := Lib.hid (by rw [← mkS_all]; exact hsn)
              have hgz4 : gs < wr.heap.size := (hsn.lt gs rfl).2
              clear hsn
              go_wp2_with (at_builtin; refine wpList_append_row rfl _ _ rfl (w.heap.size + 1) _ (.slice A3 f.length c3) F f rfl wr.heap.size rfl (cell_new1 (by simp)) (ho.alloc _) (hI.alloc _) (by omega) (by simp; omega) ?_)
              intro v4 w4 hF4 hg4
              have hrb : ∀ k, (u3 : Value).ownBlock = some k → w.heap.size + 1 ≤ k ∧ k < wr.heap.size := fun k hk => ho.lt k hk
              have hbl4 : Below w.heap.size w w4 := (hbl.alloc hbl.size (.cells #[.slice A3 f.length c3] 31)).grown hg4 (by simp; have := hbl.size; omega) (fun k hk => by have := (hrb k hk).1; omega)
              have hW4 : Blk w4 w.heap.size 27 #[.slice An ns.length cn, .slice Al ls.length cl] := (hg4.block _ (by simp; omega) (fun e => by have := (hrb _ e.symm).1; omega)).trans (hW.alloc _)
              have hS4 : OwnE 4 Value.bool (w.heap.size + 1) w4 (.slice (some ⟨gs, 0, none⟩) N N) ((List.range N).map (seenB (F ++ [f]))) := by
                obtain ⟨vs, g1, g2, g3⟩ := ho.alloc (.cells #[.slice A3 f.length c3] 31)
                exact OwnE.other (HSN.out.alloc _) g2 (by decide) hg4
              clear ho hI hW hbl hg4 hrb
              go_wp2
              go_roundw
              case rel => exact ⟨d + 1, by omega, by go_num, by rw [HS.out]; exact hF4, by rw [HS.out]; exact hS4, hW4, hbl4⟩
              case measure => simp [intOf]; omega
        · rw [hs] at hx
          have HS := Lib.hid (HY.out hs)
          clear hs
          go_wp2
          go_roundw
          case rel => exact ⟨d + 1, by omega, by go_num, by rw [HS.out]; exact ho, by rw [HS.out]; exact hsn, hW, hbl⟩
          case measure => simp [intOf]; omega
      · have hdd : d = N := by omega
        subst hdd
        have HN := Lib.hid hNN
        go_wp2
        go_ret
        exact ⟨_, rfl, by rw [HR.out]; exact ho.mono (by omega), hbl⟩
end Go.Proofs.YtnjcpljhmhdhkaaGreat

namespace Go.Proofs.YtnjcpljhmhdhkaaGreat
open Go.RowKit
theorem RF.get {w : World} {v : Value} {F : List (List Nat)} (h : RF w v F) : ∃ A c, v = .slice A F.length c ∧ F.length ≤ c ∧ F.length ≤ maxLen ∧ (0 < F.length → ∃ b off, A = some ⟨b, off, none⟩ ∧ b < w.heap.size ∧ ∀ k, k < F.length → ∃ u, w.cell? ⟨b, off + k, none⟩ = some u ∧ RI w u (natI (F.getD k []))) := by
  obtain ⟨vs, h1, h2⟩ := h
  obtain ⟨A, c, e1, e2, e3, e4⟩ := h1.get
  refine ⟨A, c, e1, e2, e3, fun hn => ?_⟩
  obtain ⟨b, off, g1, g2, g3⟩ := e4 hn
  exact ⟨b, off, g1, g2, fun k hk => ⟨_, g3 k hk, h2 k hk⟩⟩
end Go.Proofs.YtnjcpljhmhdhkaaGreat

namespace Go.Proofs.YtnjcpljhmhdhkaaGreat
open Go.RowKit
attribute [local go_sem ↓] run_mn2 run_mx2
theorem facesW_at {ns ls : List Pr} {k : Nat} (hk : k < (facesW ns ls).length) : WinOk ns ls ∧ (∀ e ∈ (facesW ns ls).getD k [], e < 2 * ls.length) ∧ 0 < ((facesW ns ls).getD k []).length ∧ ((facesW ns ls).getD k []).length ≤ 40 := by
  cases hw : wholeB ns ls
  · simp [facesW, hw] at hk
  · have hwin := (whole_win hw).1
    have hld : ∀ j : Nat, j < ls.length → leadB ns (ndI ls j) = true := fun j hj => (hwin.2.2.2.2.2 j hj).1
    have hm20 := hwin.2.2.1
    have hF : facesW ns ls = facesK ns ls (2 * ls.length) := by simp [facesW, hw]; rfl
    rw [hF] at hk ⊢
    have hm : (facesK ns ls (2 * ls.length)).getD k [] ∈ facesK ns ls (2 * ls.length) := by rw [List.getD, List.getElem?_eq_getElem hk]; exact List.getElem_mem hk
    obtain ⟨h1, h2, h3⟩ := facesK_bd hld (2 * ls.length) (Nat.le_refl _) _ hm
    exact ⟨hwin, h1, h2, by omega⟩
theorem facesW_len (ns ls : List Pr) : (facesW ns ls).length ≤ 40 := by
  cases hw : wholeB ns ls
  · simp [facesW, hw]
  · have hm20 := (whole_win hw).1.2.2.1
    have hF : facesW ns ls = facesK ns ls (2 * ls.length) := by simp [facesW, hw]; rfl
    rw [hF]
    have := facesK_len ns ls (2 * ls.length)
    omega
end Go.Proofs.YtnjcpljhmhdhkaaGreat

namespace Go.Proofs.YtnjcpljhmhdhkaaGreat
theorem set_label {n : Nat} {ls : List Pr} (hl : EndsIn n ls) {c : Nat} : ∀ k, ∀ i, i < n → (roundsS (2 ^ c) ls k).testBit i = true → (partsK n ls ls.length).getD i 0 = (partsK n ls ls.length).getD c 0 := by
  have step : ∀ (m : Nat), m ≤ ls.length → ∀ s : Nat, (∀ i, i < n → s.testBit i = true → (partsK n ls ls.length).getD i 0 = (partsK n ls ls.length).getD c 0) → ∀ i, i < n → (roundS s (ls.take m)).testBit i = true → (partsK n ls ls.length).getD i 0 = (partsK n ls ls.length).getD c 0 := by
    intro m
    induction m with
    | zero => intro _ s h i hi hb; exact h i hi (by simpa [roundS] using hb)
    | succ m ih =>
      intro hm s h i hi hb
      have ih' := ih (by omega) s h
      rw [List.take_succ_eq_append_getElem (by omega), roundS_append] at hb
      generalize roundS s (ls.take m) = t at *
      obtain ⟨p, q, g1, g2, g3, g4⟩ := hl m (by omega)
      have hpq := parts_same hl ls.length (Nat.le_refl _) m (by omega) p q g1 g2
      rw [ndI_nat ls m (by omega)] at g1 g2
      have hb' : (addS t ls[m]).testBit i = true := hb
      unfold addS at hb'
      rw [g1, g2, Int.toNat_natCast, Int.toNat_natCast] at hb'
      split at hb'
      · rename_i hor
        rw [Nat.testBit_or, Nat.testBit_or, Bool.or_eq_true, Bool.or_eq_true] at hb'
        have hlab : (partsK n ls ls.length).getD p 0 = (partsK n ls ls.length).getD c 0 := by
          rw [Bool.or_eq_true] at hor
          rcases hor with h5 | h5
          · exact ih' p g3 h5
          · rw [hpq]; exact ih' q g4 h5
        rcases hb' with h5 | h5 | h5
        · exact ih' i hi h5
        · rw [Nat.testBit_two_pow] at h5
          have : p = i := by simpa using h5
          rw [← this]; exact hlab
        · rw [Nat.testBit_two_pow] at h5
          have : q = i := by simpa using h5
          rw [← this, ← hpq]; exact hlab
      · exact ih' i hi hb'
  intro k
  induction k with
  | zero =>
    intro i hi hb
    rw [show roundsS (2 ^ c) ls 0 = 2 ^ c from rfl, Nat.testBit_two_pow] at hb
    have : c = i := by simpa using hb
    rw [this]
  | succ k ih =>
    intro i hi hb
    have := step ls.length (Nat.le_refl _) (roundsS (2 ^ c) ls k) ih i hi
    rw [List.take_length] at this
    exact this hb
theorem memS_first {S p : Nat} (hp : S.testBit p = true) (hl : ∀ i, i < p → S.testBit i = false) : ∀ n, (n ≤ p → memS S n = []) ∧ (p < n → (memS S n)[0]? = some p)
  | 0 => ⟨fun _ => rfl, fun h => absurd h (by omega)⟩
  | n + 1 => by
    have ih := memS_first hp hl n
    have e : memS S (n + 1) = memS S n ++ (if S.testBit n = true then [n] else []) := by
      unfold memS
      rw [List.range_succ, List.filter_append]
      congr 1
      by_cases h : S.testBit n = true <;> simp [h]
    constructor
    · intro h
      rw [e, ih.1 (by omega), if_neg (by rw [hl n (by omega)]; simp)]
      rfl
    · intro h
      by_cases hn : p < n
      · rw [e, List.getElem?_append_left, ih.2 hn]
        have := ih.2 hn
        exact (List.getElem?_eq_some_iff.1 this).1
      · have hpn : n = p := by omega
        subst hpn
        rw [e, ih.1 (by omega), if_pos hp]
        rfl
theorem part_first {n : Nat} {ls : List Pr} (hl : EndsIn n ls) {c : Nat} (hc : c < n) :
    ∃ p : Nat, (partsK n ls ls.length).getD c 0 = (p : Int) ∧ p ≤ c ∧ (memS (roundsS (2 ^ c) ls n) n)[0]? = some p := by
  have hl' : ∀ l ∈ ls, l.1.toNat < n ∧ l.2.toNat < n := by
    intro l hm
    obtain ⟨j, hj, e⟩ := List.getElem_of_mem hm
    obtain ⟨p, q, h1, h2, h3, h4⟩ := hl j hj
    rw [ndI_nat ls j hj, e] at h1 h2
    rw [h1, h2, Int.toNat_natCast, Int.toNat_natCast]
    exact ⟨h3, h4⟩
  have h1 : (2 : Nat) ^ c < 2 ^ n := Nat.pow_lt_pow_right (by omega) hc
  have hm1 : 0 < (memS (2 ^ c) n).length := List.length_pos_of_mem (a := c) (by simp [memS, hc, Nat.testBit_two_pow_self])
  have hf := round_fix (rounds_fix h1 hm1 hl')
  have hsub : ∀ k, (roundsS (2 ^ c) ls k).testBit c = true := by
    intro k
    induction k with
    | zero => exact Nat.testBit_two_pow_self
    | succ k ih => exact roundS_sub ls _ ih
  have hlab := set_label hl (c := c) n
  have hself := hsub n
  generalize roundsS (2 ^ c) ls n = S at *
  have hbd := parts_bd hl ls.length (Nat.le_refl _) c hc
  have hcl := parts_closed hl (fun i => S.testBit i = true) (fun j hj p q hp hq => by
    have := hf ls[j] (List.getElem_mem hj)
    rw [ndI_nat ls j hj] at hp hq
    rw [hp, hq, Int.toNat_natCast, Int.toNat_natCast] at this
    exact this) ls.length (Nat.le_refl _) c hc
  obtain ⟨p, hp⟩ : ∃ p : Nat, (partsK n ls ls.length).getD c 0 = (p : Int) := ⟨((partsK n ls ls.length).getD c 0).toNat, (Int.toNat_of_nonneg hbd.1).symm⟩
  rw [hp, Int.toNat_natCast] at hcl
  rw [hp] at hbd hlab
  refine ⟨p, hp, by omega, (memS_first (hcl.1 hself) (fun i hi => ?_) n).2 (by omega)⟩
  cases hb : S.testBit i
  · rfl
  · have h2 := hlab i (by omega) hb
    have h3 := parts_bd hl ls.length (Nat.le_refl _) i (by omega)
    omega
end Go.Proofs.YtnjcpljhmhdhkaaGreat

namespace Go.Proofs.YtnjcpljhmhdhkaaGreat
def partC (n : Nat) (ls : List Pr) : Nat → Nat
  | 0 => 0
  | k + 1 => if (partsK n ls ls.length).getD k 0 = (k : Int) then partC n ls k + 1 else partC n ls k
theorem partC_le (n : Nat) (ls : List Pr) : ∀ k, partC n ls k ≤ k
  | 0 => Nat.le_refl _
  | k + 1 => by have := partC_le n ls k; unfold partC; split <;> omega
theorem partC_yes {n : Nat} {ls : List Pr} {k : Nat} (h : (partsK n ls ls.length).getD k 0 = (k : Int)) : partC n ls (k + 1) = partC n ls k + 1 := by simp only [partC]; rw [if_pos h]
theorem partC_no {n : Nat} {ls : List Pr} {k : Nat} (h : ¬ (partsK n ls ls.length).getD k 0 = (k : Int)) : partC n ls (k + 1) = partC n ls k := by simp only [partC]; rw [if_neg h]
noncomputable def partsW (ns ls : List Pr) : Int := if winB ns ls then (partC ns.length ls ns.length : Int) else 0
noncomputable def cfacesW (ns ls : List Pr) : Int := if winB ns ls then (ls.length : Int) - ns.length + 1 + partsW ns ls else 0
noncomputable def panesW (ns ls : List Pr) : Int := if cfacesW ns ls - 1 < 0 then 0 else cfacesW ns ls - 1
theorem partsW_bd (ns ls : List Pr) : 0 ≤ partsW ns ls ∧ partsW ns ls ≤ 12 := by
  unfold partsW
  cases h : winB ns ls
  · simp
  · have := (winB_true.1 h).2.1
    have := partC_le ns.length ls ns.length
    rw [if_pos rfl]
    omega
theorem cfacesW_bd (ns ls : List Pr) : -20 ≤ cfacesW ns ls ∧ cfacesW ns ls ≤ 40 := by
  unfold cfacesW
  cases h : winB ns ls
  · simp
  · have h1 := (winB_true.1 h).2.1
    have h2 := (winB_true.1 h).2.2.1
    have := partsW_bd ns ls
    rw [if_pos rfl]
    omega
def fillRow (g : List Int) (f : List Nat) (k : Nat) : Nat → List Int
  | 0 => g
  | j + 1 => (fillRow g f k j).set (f.getD j 0) k
def fillAll (F : List (List Nat)) (z : List Int) : Nat → List Int
  | 0 => z
  | k + 1 => fillRow (fillAll F z k) (F.getD k []) k (F.getD k []).length
theorem fillRow_len (g : List Int) (f : List Nat) (k : Nat) : ∀ j, (fillRow g f k j).length = g.length
  | 0 => rfl
  | j + 1 => by simp only [fillRow, List.length_set]; exact fillRow_len g f k j
theorem fillAll_len (F : List (List Nat)) (z : List Int) : ∀ k, (fillAll F z k).length = z.length
  | 0 => rfl
  | k + 1 => by simp only [fillAll]; rw [fillRow_len]; exact fillAll_len F z k
noncomputable def sidesL (ns ls : List Pr) : List Int := fillAll (facesW ns ls) (List.replicate (2 * ls.length) 0) (facesW ns ls).length
theorem sidesL_len (ns ls : List Pr) : (sidesL ns ls).length = 2 * ls.length := by unfold sidesL; rw [fillAll_len]; simp
theorem fillRow_bd {g : List Int} {f : List Nat} {k m : Nat} (hk : k < m) (hg : ∀ x ∈ g, 0 ≤ x ∧ x < (m : Int)) : ∀ j, ∀ x ∈ fillRow g f k j, 0 ≤ x ∧ x < (m : Int)
  | 0 => hg
  | j + 1 => by
    intro x hx
    simp only [fillRow] at hx
    rcases List.mem_or_eq_of_mem_set hx with h | h
    · exact fillRow_bd hk hg j x h
    · omega
theorem fillAll_bd {F : List (List Nat)} {z : List Int} {m : Nat} (hz : ∀ x ∈ z, 0 ≤ x ∧ x < (m : Int)) : ∀ k, k ≤ m → ∀ x ∈ fillAll F z k, 0 ≤ x ∧ x < (m : Int)
  | 0, _ => hz
  | k + 1, h => fillRow_bd (by omega) (fillAll_bd hz k (by omega)) _
theorem sidesL_bd {ns ls : List Pr} (h : 0 < (facesW ns ls).length) {d : Nat} (hd : d < 2 * ls.length) : ∃ k : Nat, (sidesL ns ls).getD d 0 = (k : Int) ∧ k < (facesW ns ls).length := by
  have hb := fillAll_bd (F := facesW ns ls) (z := List.replicate (2 * ls.length) 0) (m := (facesW ns ls).length) (fun x hx => by
    have := List.eq_of_mem_replicate hx
    omega) (facesW ns ls).length (Nat.le_refl _)
  have hl : d < (sidesL ns ls).length := by rw [sidesL_len]; exact hd
  have := hb ((sidesL ns ls).getD d 0) (by rw [List.getD, List.getElem?_eq_getElem hl]; exact List.getElem_mem hl)
  exact ⟨((sidesL ns ls).getD d 0).toNat, by omega, by omega⟩
def inAll (l : List Int) (a b : Int) : Bool := l.all (fun x => inB x a b)
def inAllK (l : List Int) (a b : Int) (k : Nat) : Prop := ∀ j, j < k → inB (l.getD j 0) a b = true
theorem inAll_true {l : List Int} {a b : Int} : inAll l a b = true ↔ inAllK l a b l.length := by
  unfold inAll inAllK
  rw [List.all_eq_true]
  constructor
  · intro h j hj
    rw [List.getD, List.getElem?_eq_getElem hj]
    exact h _ (List.getElem_mem hj)
  · intro h x hx
    obtain ⟨j, hj, rfl⟩ := List.getElem_of_mem hx
    have := h j hj
    rw [List.getD, List.getElem?_eq_getElem hj] at this
    exact this
theorem inAll_bad {l : List Int} {a b : Int} {k : Nat} (hk : k < l.length) (h : inB (l.getD k 0) a b = false) : inAll l a b = false := by
  cases hc : inAll l a b
  · rfl
  · have := inAll_true.1 hc k hk
    rw [h] at this; cases this
noncomputable def colorsB (ns ls : List Pr) (cs : List Int) : Bool := wholeB ns ls && (decide (cs.length = (facesW ns ls).length) && inAll cs 0 5)
noncomputable def clashP (ns ls : List Pr) (cs : List Int) (k : Nat) : Bool :=
  decide (¬ (sidesL ns ls).getD (2 * k) 0 = (sidesL ns ls).getD (2 * k + 1) 0) && decide (cs.getD ((sidesL ns ls).getD (2 * k) 0).toNat 0 = cs.getD ((sidesL ns ls).getD (2 * k + 1) 0).toNat 0)
noncomputable def clashF (ns ls : List Pr) (cs : List Int) : Nat → Nat → Int
  | 0, _ => -1
  | m + 1, k => if clashP ns ls cs k = true then k else clashF ns ls cs m (k + 1)
noncomputable def clashI (ns ls : List Pr) (cs : List Int) : Int := if colorsB ns ls cs = true then clashF ns ls cs ls.length 0 else -1
noncomputable def properB (ns ls : List Pr) (cs : List Int) : Bool := colorsB ns ls cs && decide (clashI ns ls cs < 0)
def dpI (l : List Dp) (i : Nat) : Dp := l.getD i ⟨0, 0, 0⟩
theorem dpI_get {l : List Dp} {i : Nat} (h : i < l.length) : dpI l i = l[i] := by simp [dpI, List.getD, h]
def noPlace (l : List Dp) (x : Int) (j : Nat) : Bool := (List.range j).all (fun i => decide (¬ (dpI l i).k = x))
theorem noPlace_zero (l : List Dp) (x : Int) : noPlace l x 0 = true := rfl
theorem noPlace_succ (l : List Dp) (x : Int) (j : Nat) : noPlace l x (j + 1) = (noPlace l x j && decide (¬ (dpI l j).k = x)) := by
  unfold noPlace
  rw [List.range_succ, List.all_append]
  simp
theorem noPlace_bad {l : List Dp} {x : Int} {i j : Nat} (h : i < j) (hx : (dpI l i).k = x) : noPlace l x j = false := by
  cases hc : noPlace l x j
  · rfl
  · unfold noPlace at hc
    have := List.all_eq_true.1 hc i (List.mem_range.2 h)
    simp [hx] at this
def depB (l : List Dp) (i : Nat) : Bool :=
  inB (dpI l i).k 1 200 && (inB (dpI l i).a 1 50 && (inB (dpI l i).b 0 9999 && ((decide (i = 0) || decide ((dpI l (i - 1)).b ≤ (dpI l i).b)) && noPlace l (dpI l i).k i)))
def depsK (l : List Dp) (k : Nat) : Prop := ∀ j, j < k → depB l j = true
def depsB (l : List Dp) : Bool := decide (l.length ≤ 40) && (List.range l.length).all (depB l)
theorem depsB_true {l : List Dp} : depsB l = true ↔ l.length ≤ 40 ∧ depsK l l.length := by
  unfold depsB depsK
  rw [Bool.and_eq_true, decide_eq_true_eq, List.all_eq_true]
  constructor
  · rintro ⟨h1, h2⟩; exact ⟨h1, fun j hj => h2 j (List.mem_range.2 hj)⟩
  · rintro ⟨h1, h2⟩; exact ⟨h1, fun j hj => h2 j (List.mem_range.1 hj)⟩
theorem depsB_bad {l : List Dp} {k : Nat} (hk : k < l.length) (h : depB l k = false) : depsB l = false := by
  cases hc : depsB l
  · rfl
  · have := (depsB_true.1 hc).2 k hk
    rw [h] at this; cases this
theorem depsB_long {l : List Dp} (h : ¬ l.length ≤ 40) : depsB l = false := by unfold depsB; rw [decide_eq_false h]; rfl
theorem depsK_zero (l : List Dp) : depsK l 0 := fun j hj => absurd hj (by omega)
theorem depsK_succ {l : List Dp} {k : Nat} (h : depsK l k) (hk : depB l k = true) : depsK l (k + 1) := fun j hj => by
  by_cases e : j = k
  · subst e; exact hk
  · exact h j (by omega)
noncomputable def okStB (S : St) : Bool :=
  okD S.D && (depsB S.ds && (inB S.fund 0 1000000 && ((decide (S.cs.length = 0) || properB S.D.nn S.D.nl S.cs) && ((decide (S.ds.length = 0) || wholeB S.D.nn S.D.nl) && S.ds.all (fun d => decide (d.k ≤ panesW S.D.nn S.D.nl))))))
end Go.Proofs.YtnjcpljhmhdhkaaGreat
