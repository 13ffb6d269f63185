/- part 31 -/
import Derived.Test.YtbennlajjfkdpaaGreatDoorFPk30
set_option linter.unusedSimpArgs false
set_option linter.unusedVariables false
namespace Go.Proofs.YtbennlajjfkdpaaGreatDoor
open Go.RowKit
theorem iWhole_at (vn vl : Value) (ns ls : List Pr) (b : Bool) (w : World) (hn : RP w vn ns) (hl : RP w vl ls) (hb : wholeB ns ls = b) :
    Calls Tryz.prog 70 #[.agg #[vn, vl]] w fun e w' => e = .returned (.bool b) ∧ Below w.heap.size w w' := by
  subst hb; exact iWhole_any vn vl ns ls w hn hl
theorem cell_new1 {W : World} {v : Value} {t : TypeId} {g : Nat} (hg : g = W.heap.size) : (W.alloc (.cells #[v] t)).cell? ⟨g, 0, none⟩ = some v := (Blk.newAt hg).cell 0
theorem ty_nb : 3 ≠ 4 := by decide
theorem OwnF.made {base g : Nat} {w : World} (hg : g = w.heap.size) (hb : base ≤ w.heap.size) : OwnF base (w.alloc (.cells #[] 42)) (.slice (some ⟨g, 0, none⟩) 0 0) [] := by
  subst hg
  exact ⟨[], rfl, World.ownsRow_made _ _ _ hb (by simp [maxLen]) (by simp), fun k hk => absurd hk (by simp)⟩
theorem OwnF.grownNone {base : Nat} {w w' : World} {v : Value} {F : List (List Nat)} (h : OwnF base w v F) (hg : w.grownBy w' none) : OwnF base w' v F :=
  h.far hg (fun k hk => by cases hk)
theorem OwnF.offType {base b2 : Nat} {w w' : World} {v u : Value} {F : List (List Nat)} {l : List Bool} (h : OwnF base w v F) (hs : OwnE 4 Value.bool b2 w u l) (hg : w.grownBy w' u.ownBlock) : OwnF base w' v F := by
  obtain ⟨vs, h1, h2, h3⟩ := h
  have h2' : OwnE 42 (fun x : Value => x) base w v vs := by
    unfold OwnE
    rw [List.map_id', h1]; exact h2
  refine ⟨vs, h1, ?_, fun k hk => OwnE.other (t := 3) (enc := vI) (h3 k hk) hs ty_nb hg⟩
  have := OwnE.other h2' hs (by decide) hg
  unfold OwnE at this
  rw [List.map_id', h1] at this
  exact this
set_option maxHeartbeats 8000000 in
set_option maxRecDepth 100000 in
theorem iFaces_any (vn vl : Value) (ns ls : List Pr) (w : World) (hn : RP w vn ns) (hl : RP w vl ls) :
    Calls Tryz.prog 43 #[.agg #[vn, vl]] w (RetF (facesW ns ls) w) := by
  obtain ⟨An, cn, rfl, hcn, hmn, _⟩ := hn.formI
  obtain ⟨Al, cl, rfl, hcl, hml, _⟩ := hl.formI
  unfold maxLen at hmn hml
  have hb0 : Below w.heap.size w (w.alloc (.cells #[.slice An ns.length cn, .slice Al ls.length cl] 31)) := by exact bel_
  have hW0 : Blk (w.alloc (.cells #[.slice An ns.length cn, .slice Al ls.length cl] 31)) w.heap.size 31 #[.slice An ns.length cn, .slice Al ls.length cl] := Blk.newAt rfl
  cases hw : wholeB ns ls
  · have HR : Hid (facesW ns ls = []) := Lib.hid (by simp [facesW, hw])
    go_enter Tryz.func43, Tryz.ntmps43
    go_wp2_with fail
    refine (iWhole_at _ _ ns ls _ _ (hn.below hb0) (hl.below hb0) hw).mono ?_
    rintro e w1 ⟨rfl, hb1⟩
    have hbw1 := hb0.trans (hb1.mono hb0.size)
    go_wp2
    go_ret
    exact ⟨_, rfl, by rw [HR.out]; exact OwnF.nil _ _, hbw1⟩
  · have HR : Hid (facesW ns ls = facesK ns ls (2 * ls.length)) := Lib.hid (by simp [facesW, hw]; rfl)
    have hwin := (whole_win hw).1
    have hpos := (whole_win hw).2
    have hm20 := hwin.2.2.1
    have hld : ∀ j : Nat, j < ls.length → leadB ns (ndI ls j) = true := fun j hj => (hwin.2.2.2.2.2 j hj).1
    obtain ⟨i0, hi, iz0, iz1, iz2⟩ := info_parts infoBool
    have HWK := Lib.hid (fun (v : World) (d : Nat) (hv : Below w.heap.size w v) (hd : d < 2 * ls.length) => iWalk_any (.slice An ns.length cn) (.slice Al ls.length cl) ns ls d v (hn.below hv) (hl.below hv) hd hwin)
    have HBD := Lib.hid (fun d hd => walk_bd (ns := ns) hld (d := d) hd)
    have HWL := Lib.hid (fun d hd => walk_len (ns := ns) hld (d := d) hd)
    have HFL := Lib.hid (facesK_len ns ls)
    have HFY := Lib.hid (fun m h => facesK_yes (ns := ns) (ls := ls) (m := m) h)
    have HFN := Lib.hid (fun m h => facesK_no (ns := ns) (ls := ls) (m := m) h)
    have HF0 : Hid (facesK ns ls 0 = []) := Lib.hid rfl
    have e2 : 2 * (ls.length : Int) = ((2 * ls.length : Nat) : Int) := by omega
    clear hwin hld
    go_enter Tryz.func43, Tryz.ntmps43
    go_wp2_with fail
    refine (iWhole_at _ _ ns ls _ _ (hn.below hb0) (hl.below hb0) hw).mono ?_
    rintro e w1 ⟨rfl, hb1⟩
    have hbw1 := hb0.trans (hb1.mono hb0.size)
    have hW1 := hW0.below hb1 hW0.lt
    have hz1 := hW1.lt
    clear hb1 hb0 hW0 hw
    obtain ⟨a_0, a_1⟩ := hW1.c2
    generalize hNN : 2 * ls.length = N at *
    have hN40 : N ≤ 40 := by omega
    go_wp2_with (at_make; refine wpList_make_full _ rfl _ _ 108 rfl (w.heap.size + 1) 4 i0 (.bool false) 1 Tryz.underlying108 hi iz0 iz1 .i64 .i64 _ _ N rfl rfl rfl rfl (by rw [iz2]; omega) (by unfold maxLen; omega) (by omega) ?_)
    intro w2 hown1 hgr1
    have hb2 : Below w.heap.size w w2 := hbw1.grown hgr1 hbw1.size (by intro k hk; cases hk)
    have hW2 : Blk w2 w.heap.size 31 #[.slice An ns.length cn, .slice Al ls.length cl] := (hgr1.block _ hz1 (fun e => by cases e)).trans hW1
    have hz2 := hgr1.size
    have hsn : OwnE 4 Value.bool (w.heap.size + 1) w2 (.slice (some ⟨w1.heap.size, 0, none⟩) N N) ((List.range N).map (seenB (facesK ns ls 0))) := by
      unfold OwnE
      rw [HF0.out, mkS_start, List.length_replicate]
      rw [← madeB]; exact hown1
    have hgsz := (hsn.lt _ rfl).2
    have hO0 : OwnF (w1.heap.size + 1) w2 (.slice none 0 0) [] := OwnF.nil _ _
    have hgg := hz1
    generalize w1.heap.size = gs at *
    clear hown1 hgr1 hbw1 hW1 a_0 a_1 hz1 hz2
    obtain ⟨a_0, a_1⟩ := hW2.c2
    go_wp2
    go_loopw [4, 19] (fun v x wr => ∃ d : Nat, d ≤ N ∧ x = .int .i64 d ∧ OwnF (gs + 1) wr v (facesK ns ls d) ∧ OwnE 4 Value.bool (w.heap.size + 1) wr (.slice (some ⟨gs, 0, none⟩) N N) ((List.range N).map (seenB (facesK ns ls d))) ∧ Blk wr w.heap.size 31 #[.slice An ns.length cn, .slice Al ls.length cl] ∧ Below w.heap.size w wr) (fun _ x _ => N - (intOf x).toNat)
    case atStart => exact ⟨0, Nat.zero_le _, rfl, by rw [HF0.out]; exact hO0, hsn, hW2, hb2⟩
    case round =>
      clear hsn hW2 hb2 a_0 a_1
      obtain ⟨d, hd, rfl, ho, hsn, hW, hbl⟩ := hrel
      have hsz := hW.lt
      have hgz : gs < wr.heap.size := (hsn.lt gs rfl).2
      by_cases hlt : d < N
      · have hlt1 : (d : Int) < (N : Int) := by omega
        have hx := hsn.cell false (q := d) (by simpa using hlt)
        rw [mkS_get hlt] at hx
        have HY := Lib.hid (HFY.out d)
        have HNo := Lib.hid (HFN.out d)
        have hfl := HFL.out d
        generalize facesK ns ls d = F at *
        obtain ⟨a_0, a_1⟩ := hW.c2
        cases hs : seenB F d
        · rw [hs] at hx
          have HS := Lib.hid (HNo.out hs)
          clear hs
          go_wp2_with fail
          refine (HWK.out _ d hbl hlt).mono ?_
          rintro e w3 ⟨v3, rfl, ho3, hb3⟩
          have hF3 := ho.kept hb3
          have hS3 := hsn.kept hb3
          have hW3 := hW.below hb3 hsz
          have hbl3 := hbl.trans (hb3.mono hbl.size)
          have hI3 : OwnI (gs + 1) w3 v3 (natI (walkD ns ls d)) := ho3.mono (by omega)
          have HB := Lib.hid (HBD.out d hlt)
          have hwl := HWL.out d hlt
          generalize walkD ns ls d = f at *
          obtain ⟨A3, c3, rfl⟩ := hI3.form
          rw [natI_length] at hI3 ⊢
          rw [← mkS_zero N F f] at hS3
          clear hb3 ho3 ho hsn hW hbl a_0 a_1 hx hsz
          go_wp2
          go_loopw [31] (fun x wr => ∃ j : Nat, j ≤ f.length ∧ x = .int .i64 j ∧ OwnF (gs + 1) wr u4 F ∧ OwnE 4 Value.bool (w.heap.size + 1) wr (.slice (some ⟨gs, 0, none⟩) N N) (mkS N F f j) ∧ OwnI (gs + 1) wr (.slice A3 f.length c3) (natI f) ∧ Blk wr w.heap.size 31 #[.slice An ns.length cn, .slice Al ls.length cl] ∧ Below w.heap.size w wr) (fun x _ => f.length - (intOf x).toNat)
          case atStart => exact ⟨0, Nat.zero_le _, rfl, hF3, hS3, hI3, hW3, hbl3⟩
          case round =>
            clear hF3 hS3 hI3 hW3 hbl3
            obtain ⟨j, hj, rfl, ho, hsn, hI, hW, hbl⟩ := hrel
            have hsz := hW.lt
            by_cases hjl : j < f.length
            · have hjl1 : (j : Int) < (f.length : Int) := by omega
              have ij1 : (0 : Int) ≤ (j : Int) := by omega
              obtain ⟨A4, c4, he4, hc4, hm4, hcell4⟩ := hI.reads.form
              rw [natI_length] at he4
              cases he4
              rw [natI_length] at hcell4
              obtain ⟨b4, off4, rfl, hb4, hcl4⟩ := hcell4 (by omega)
              have hx := hcl4 j hjl
              rw [natI_get] at hx
              have hem : f.getD j 0 < N := HB.out _ (by rw [List.getD, List.getElem?_eq_getElem hjl]; exact List.getElem_mem hjl)
              have HS1 := Lib.hid (mkS_succ N F f j hjl)
              generalize f.getD j 0 = x at *
              have ix1 : (0 : Int) ≤ (x : Int) := by omega
              have ix2 : (x : Int) < (N : Int) := by omega
              have hxs := hsn.cell false (q := x) (by rw [mkS_len]; exact hem)
              obtain ⟨z, hz⟩ : ∃ z, wr.cell? ⟨gs, x, none⟩ = some z := ⟨_, hxs⟩
              have fx := hsn.frz x
              have HSN : Hid (OwnE 4 Value.bool (w.heap.size + 1) (wr.setCell ⟨gs, x, none⟩ (.bool true)) (.slice (some ⟨gs, 0, none⟩) N N) (mkS N F f (j + 1))) := Lib.hid (by rw [HS1.out]; exact hsn.set_ x true)
              have hgw : wr.grownBy (wr.setCell ⟨gs, x, none⟩ (.bool true)) (some gs) := grown_set (grown_refl _ _) x _
              have HOF := Lib.hid (ho.far hgw (fun k hk => by cases hk; omega))
              have HIF := Lib.hid (hI.far hgw (fun k hk => by cases hk; omega))
              have HWF := Lib.hid (hW.far (p := ⟨gs, x, none⟩) (show ¬ w.heap.size = gs by omega) (.bool true))
              have HBF := Lib.hid (hbl.setCell (p := ⟨gs, x, none⟩) (show w.heap.size ≤ gs by omega) (.bool true))
              clear ho hsn hI hW hbl hxs hgw hcl4 hcell4
              go_wp2
              go_roundw
              case rel => exact ⟨j + 1, by omega, by go_num, HOF.out, HSN.out, HIF.out, HWF.out, HBF.out⟩
              case measure => simp [intOf]; omega
            · have hjj : j = f.length := by omega
              subst hjj
              have HSN : Hid (OwnE 4 Value.bool (w.heap.size + 1) wr (.slice (some ⟨gs, 0, none⟩) N N) ((List.range N).map (seenB (F ++ [f])))) := Lib.hid (by rw [← mkS_all]; exact hsn)
              have hgz4 : gs < wr.heap.size := (hsn.lt gs rfl).2
              clear hsn
              go_wp2_with (at_builtin; refine wpList_append_row rfl _ _ rfl (gs + 1) _ (.slice A3 f.length c3) F f rfl wr.heap.size rfl (cell_new1 (by simp)) (ho.alloc _) (hI.alloc _) (by omega) (by simp; omega) ?_)
              intro v4 w4 hF4 hg4
              have hrb : ∀ k, (u4 : Value).ownBlock = some k → gs + 1 ≤ k ∧ k < wr.heap.size := fun k hk => ho.lt k hk
              have hbl4 : Below w.heap.size w w4 := (hbl.alloc hbl.size (.cells #[.slice A3 f.length c3] 42)).grown hg4 (by simp; have := hbl.size; omega) (fun k hk => by have := (hrb k hk).1; omega)
              have hW4 : Blk w4 w.heap.size 31 #[.slice An ns.length cn, .slice Al ls.length cl] := (hg4.block _ (by simp; omega) (fun e => by have := (hrb _ e.symm).1; omega)).trans (hW.alloc _)
              have hS4 : OwnE 4 Value.bool (w.heap.size + 1) w4 (.slice (some ⟨gs, 0, none⟩) N N) ((List.range N).map (seenB (F ++ [f]))) := by
                obtain ⟨vs, g1, g2, g3⟩ := ho.alloc (.cells #[.slice A3 f.length c3] 42)
                exact OwnE.other (HSN.out.alloc _) g2 (by decide) hg4
              clear ho hI hW hbl hg4 hrb
              go_wp2
              go_roundw
              case rel => exact ⟨d + 1, by omega, by go_num, by rw [HS.out]; exact hF4, by rw [HS.out]; exact hS4, hW4, hbl4⟩
              case measure => simp [intOf]; omega
        · rw [hs] at hx
          have HS := Lib.hid (HY.out hs)
          clear hs
          go_wp2
          go_roundw
          case rel => exact ⟨d + 1, by omega, by go_num, by rw [HS.out]; exact ho, by rw [HS.out]; exact hsn, hW, hbl⟩
          case measure => simp [intOf]; omega
      · have hdd : d = N := by omega
        subst hdd
        have HN := Lib.hid hNN
        go_wp2
        go_ret
        exact ⟨_, rfl, by rw [HR.out]; exact ho.mono (by omega), hbl⟩
set_option maxHeartbeats 8000000 in
set_option maxRecDepth 100000 in
theorem sFaces_any (vn vl : Value) (ns ls : List Pr) (w : World) (hn : RP w vn ns) (hl : RP w vl ls) :
    Calls Tryz.prog 34 #[.agg #[vn, vl]] w (RetF (facesW ns ls) w) := by
  obtain ⟨An, cn, rfl, hcn, hmn, _⟩ := hn.formI
  obtain ⟨Al, cl, rfl, hcl, hml, _⟩ := hl.formI
  unfold maxLen at hmn hml
  have hb0 : Below w.heap.size w ((w.alloc (.cells #[.slice An ns.length cn, .slice Al ls.length cl] 31)).alloc (.cells #[] 42)) := by exact bel_
  have hW0 : Blk ((w.alloc (.cells #[.slice An ns.length cn, .slice Al ls.length cl] 31)).alloc (.cells #[] 42)) w.heap.size 31 #[.slice An ns.length cn, .slice Al ls.length cl] := (Blk.newAt rfl).alloc _
  have hOz : OwnF (w.heap.size + 1) ((w.alloc (.cells #[.slice An ns.length cn, .slice Al ls.length cl] 31)).alloc (.cells #[] 42)) (.slice (some ⟨w.heap.size + 1, 0, none⟩) 0 0) [] := OwnF.made (by simp) (by simp)
  cases hw : wholeB ns ls
  · have HR : Hid (facesW ns ls = []) := Lib.hid (by simp [facesW, hw])
    go_enter Tryz.func34, Tryz.ntmps34
    go_wp2_with fail
    refine (sWhole_at _ _ ns ls _ _ (hn.below hb0) (hl.below hb0) hw).mono ?_
    rintro e w1 ⟨rfl, hb1⟩
    have hbw1 := hb0.trans (hb1.mono hb0.size)
    have hOz1 := hOz.kept hb1
    go_wp2
    go_ret
    exact ⟨_, rfl, by rw [HR.out]; exact hOz1.mono (by omega), hbw1⟩
  · have HR : Hid (facesW ns ls = facesK ns ls (2 * ls.length)) := Lib.hid (by simp [facesW, hw]; rfl)
    have hwin := (whole_win hw).1
    have hpos := (whole_win hw).2
    have hm20 := hwin.2.2.1
    have hld : ∀ j : Nat, j < ls.length → leadB ns (ndI ls j) = true := fun j hj => (hwin.2.2.2.2.2 j hj).1
    obtain ⟨i0, hi, iz0, iz1, iz2⟩ := info_parts infoBool
    have HWK := Lib.hid (fun (v : World) (d : Nat) (hv : Below w.heap.size w v) (hd : d < 2 * ls.length) => sWalk_any (.slice An ns.length cn) (.slice Al ls.length cl) ns ls d v (hn.below hv) (hl.below hv) hd hwin)
    have HBD := Lib.hid (fun d hd => walk_bd (ns := ns) hld (d := d) hd)
    have HWL := Lib.hid (fun d hd => walk_len (ns := ns) hld (d := d) hd)
    have HFL := Lib.hid (facesK_len ns ls)
    have HFY := Lib.hid (fun m h => facesK_yes (ns := ns) (ls := ls) (m := m) h)
    have HFN := Lib.hid (fun m h => facesK_no (ns := ns) (ls := ls) (m := m) h)
    have HF0 : Hid (facesK ns ls 0 = []) := Lib.hid rfl
    have e2 : 2 * (ls.length : Int) = ((2 * ls.length : Nat) : Int) := by omega
    clear hwin hld
    go_enter Tryz.func34, Tryz.ntmps34
    go_wp2_with fail
    refine (sWhole_at _ _ ns ls _ _ (hn.below hb0) (hl.below hb0) hw).mono ?_
    rintro e w1 ⟨rfl, hb1⟩
    have hbw1 := hb0.trans (hb1.mono hb0.size)
    have hW1 := hW0.below hb1 hW0.lt
    have hOz1 := hOz.kept hb1
    have hz1 := hW1.lt
    clear hb1 hb0 hW0 hw
    obtain ⟨a_0, a_1⟩ := hW1.c2
    generalize hNN : 2 * ls.length = N at *
    have hN40 : N ≤ 40 := by omega
    go_wp2_with (at_make; refine wpList_make_full _ rfl _ _ 108 rfl (w.heap.size + 1) 4 i0 (.bool false) 1 Tryz.underlying108 hi iz0 iz1 .i64 .i64 _ _ N rfl rfl rfl rfl (by rw [iz2]; omega) (by unfold maxLen; omega) (by omega) ?_)
    intro w2 hown1 hgr1
    have hb2 : Below w.heap.size w w2 := hbw1.grown hgr1 hbw1.size (by intro k hk; cases hk)
    have hW2 : Blk w2 w.heap.size 31 #[.slice An ns.length cn, .slice Al ls.length cl] := (hgr1.block _ hz1 (fun e => by cases e)).trans hW1
    have hz2 := hgr1.size
    have hsn : OwnE 4 Value.bool (w.heap.size + 1) w2 (.slice (some ⟨w1.heap.size, 0, none⟩) N N) ((List.range N).map (seenB (facesK ns ls 0))) := by
      unfold OwnE
      rw [HF0.out, mkS_start, List.length_replicate]
      rw [← madeB]; exact hown1
    have hgsz := (hsn.lt _ rfl).2
    have hO0 : OwnF (w.heap.size + 1) w2 (.slice (some ⟨w.heap.size + 1, 0, none⟩) 0 0) [] := hOz1.grownNone hgr1
    clear hOz hOz1
    have hgg := hz1
    generalize w1.heap.size = gs at *
    clear hown1 hgr1 hbw1 hW1 a_0 a_1 hz1 hz2
    obtain ⟨a_0, a_1⟩ := hW2.c2
    go_wp2
    go_loopw [3, 5] (fun v x wr => ∃ d : Nat, d ≤ N ∧ x = .int .i64 d ∧ OwnF (w.heap.size + 1) wr v (facesK ns ls d) ∧ OwnE 4 Value.bool (w.heap.size + 1) wr (.slice (some ⟨gs, 0, none⟩) N N) ((List.range N).map (seenB (facesK ns ls d))) ∧ Blk wr w.heap.size 31 #[.slice An ns.length cn, .slice Al ls.length cl] ∧ Below w.heap.size w wr) (fun _ x _ => N - (intOf x).toNat)
    case atStart => exact ⟨0, Nat.zero_le _, rfl, by rw [HF0.out]; exact hO0, hsn, hW2, hb2⟩
    case round =>
      clear hsn hW2 hb2 a_0 a_1
      obtain ⟨d, hd, rfl, ho, hsn, hW, hbl⟩ := hrel
      have hsz := hW.lt
      have hgz : gs < wr.heap.size := (hsn.lt gs rfl).2
      by_cases hlt : d < N
      · have hlt1 : (d : Int) < (N : Int) := by omega
        have hx := hsn.cell false (q := d) (by simpa using hlt)
        rw [mkS_get hlt] at hx
        have HY := Lib.hid (HFY.out d)
        have HNo := Lib.hid (HFN.out d)
        have hfl := HFL.out d
        generalize facesK ns ls d = F at *
        obtain ⟨a_0, a_1⟩ := hW.c2
        cases hs : seenB F d
        · rw [hs] at hx
          have HS := Lib.hid (HNo.out hs)
          clear hs
          go_wp2_with fail
          refine (HWK.out _ d hbl hlt).mono ?_
          rintro e w3 ⟨v3, rfl, ho3, hb3⟩
          have hF3 := ho.kept hb3
          have hS3 := hsn.kept hb3
          have hW3 := hW.below hb3 hsz
          have hbl3 := hbl.trans (hb3.mono hbl.size)
          have hI3 : OwnI (w.heap.size + 1) w3 v3 (natI (walkD ns ls d)) := ho3.mono (by omega)
          have HB := Lib.hid (HBD.out d hlt)
          have hwl := HWL.out d hlt
          generalize walkD ns ls d = f at *
          obtain ⟨A3, c3, rfl⟩ := hI3.form
          rw [natI_length] at hI3 ⊢
          rw [← mkS_zero N F f] at hS3
          clear hb3 ho3 ho hsn hW hbl a_0 a_1 hx hsz
          go_wp2
          go_loopw [7] (fun x wr => ∃ j : Nat, j ≤ f.length ∧ x = .int .i64 j ∧ OwnF (w.heap.size + 1) wr u3 F ∧ OwnE 4 Value.bool (w.heap.size + 1) wr (.slice (some ⟨gs, 0, none⟩) N N) (mkS N F f j) ∧ OwnI (w.heap.size + 1) wr (.slice A3 f.length c3) (natI f) ∧ Blk wr w.heap.size 31 #[.slice An ns.length cn, .slice Al ls.length cl] ∧ Below w.heap.size w wr) (fun x _ => f.length - (intOf x).toNat)
          case atStart => exact ⟨0, Nat.zero_le _, rfl, hF3, hS3, hI3, hW3, hbl3⟩
          case round =>
            clear hF3 hS3 hI3 hW3 hbl3
            obtain ⟨j, hj, rfl, ho, hsn, hI, hW, hbl⟩ := hrel
            have hsz := hW.lt
            by_cases hjl : j < f.length
            · have hjl1 : (j : Int) < (f.length : Int) := by omega
              have ij1 : (0 : Int) ≤ (j : Int) := by omega
              obtain ⟨A4, c4, he4, hc4, hm4, hcell4⟩ := hI.reads.form
              rw [natI_length] at he4
              cases he4
              rw [natI_length] at hcell4
              obtain ⟨b4, off4, rfl, hb4, hcl4⟩ := hcell4 (by omega)
              have hx := hcl4 j hjl
              rw [natI_get] at hx
              have hem : f.getD j 0 < N := HB.out _ (by rw [List.getD, List.getElem?_eq_getElem hjl]; exact List.getElem_mem hjl)
              have HS1 := Lib.hid (mkS_succ N F f j hjl)
              generalize f.getD j 0 = x at *
              have ix1 : (0 : Int) ≤ (x : Int) := by omega
              have ix2 : (x : Int) < (N : Int) := by omega
              have hxs := hsn.cell false (q := x) (by rw [mkS_len]; exact hem)
              obtain ⟨z, hz⟩ : ∃ z, wr.cell? ⟨gs, x, none⟩ = some z := ⟨_, hxs⟩
              have fx := hsn.frz x
              have HSN : Hid (OwnE 4 Value.bool (w.heap.size + 1) (wr.setCell ⟨gs, x, none⟩ (.bool true)) (.slice (some ⟨gs, 0, none⟩) N N) (mkS N F f (j + 1))) := Lib.hid (by rw [HS1.out]; exact hsn.set_ x true)
              have hgw : wr.grownBy (wr.setCell ⟨gs, x, none⟩ (.bool true)) (some gs) := grown_set (grown_refl _ _) x _
              have HOF := Lib.hid (ho.offType hsn hgw)
              have HIF := Lib.hid (OwnE.other (t := 3) (enc := vI) hI hsn ty_nb hgw)
              have HWF := Lib.hid (hW.far (p := ⟨gs, x, none⟩) (show ¬ w.heap.size = gs by omega) (.bool true))
              have HBF := Lib.hid (hbl.setCell (p := ⟨gs, x, none⟩) (show w.heap.size ≤ gs by omega) (.bool true))
              clear ho hsn hI hW hbl hxs hgw hcl4 hcell4
              go_wp2
              go_roundw
              case rel => exact ⟨j + 1, by omega, by go_num, HOF.out, HSN.out, HIF.out, HWF.out, HBF.out⟩
              case measure => simp [intOf]; omega
            · have hjj : j = f.length := by omega
              subst hjj
              have HSN : Hid (OwnE 4 Value.bool (w.heap.size + 1) wr (.slice (some ⟨gs, 0, none⟩) N N) ((List.range N).map (seenB (F ++ [f])))) := Lib.hid (by rw [← mkS_all]; exact hsn)
              have hgz4 : gs < wr.heap.size := (hsn.lt gs rfl).2
              clear hsn
              go_wp2_with (at_builtin; refine wpList_append_row rfl _ _ rfl (w.heap.size + 1) _ (.slice A3 f.length c3) F f rfl wr.heap.size rfl (cell_new1 (by simp)) (ho.alloc _) (hI.alloc _) (by omega) (by simp; omega) ?_)
              intro v4 w4 hF4 hg4
              have hrb : ∀ k, (u3 : Value).ownBlock = some k → w.heap.size + 1 ≤ k ∧ k < wr.heap.size := fun k hk => ho.lt k hk
              have hbl4 : Below w.heap.size w w4 := (hbl.alloc hbl.size (.cells #[.slice A3 f.length c3] 42)).grown hg4 (by simp; have := hbl.size; omega) (fun k hk => by have := (hrb k hk).1; omega)
              have hW4 : Blk w4 w.heap.size 31 #[.slice An ns.length cn, .slice Al ls.length cl] := (hg4.block _ (by simp; omega) (fun e => by have := (hrb _ e.symm).1; omega)).trans (hW.alloc _)
              have hS4 : OwnE 4 Value.bool (w.heap.size + 1) w4 (.slice (some ⟨gs, 0, none⟩) N N) ((List.range N).map (seenB (F ++ [f]))) := by
                obtain ⟨vs, g1, g2, g3⟩ := ho.alloc (.cells #[.slice A3 f.length c3] 42)
                exact OwnE.other (HSN.out.alloc _) g2 (by decide) hg4
              clear ho hI hW hbl hg4 hrb
              go_wp2
              go_roundw
              case rel => exact ⟨d + 1, by omega, by go_num, by rw [HS.out]; exact hF4, by rw [HS.out]; exact hS4, hW4, hbl4⟩
              case measure => simp [intOf]; omega
        · rw [hs] at hx
          have HS := Lib.hid (HY.out hs)
          clear hs
          go_wp2
          go_roundw
          case rel => exact ⟨d + 1, by omega, by go_num, by rw [HS.out]; exact ho, by rw [HS.out]; exact hsn, hW, hbl⟩
          case measure => simp [intOf]; omega
      · have hdd : d = N := by omega
        subst hdd
        have HN := Lib.hid hNN
        go_wp2
        go_ret
        exact ⟨_, rfl, by rw [HR.out]; exact ho.mono (by omega), hbl⟩
end Go.Proofs.YtbennlajjfkdpaaGreatDoor
