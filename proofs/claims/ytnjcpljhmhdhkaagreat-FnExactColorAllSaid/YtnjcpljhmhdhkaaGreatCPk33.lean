/- part 33 -/
import Derived.Test.YtnjcpljhmhdhkaaGreatCPk32
set_option linter.unusedSimpArgs false
set_option linter.unusedVariables false
set_option linter.unusedSectionVars false
namespace Go.Proofs.YtnjcpljhmhdhkaaGreat
open Go.RowKit
theorem madeI (n : Nat) : (madeCells #[.int .i64 0] n).toList = (List.replicate n (0 : Int)).map vI := by
  apply List.ext_getElem?
  intro j
  by_cases hj : j < n
  · simp only [madeCells, Array.toList_map, List.getElem?_map, Array.toList_range, List.getElem?_range hj, List.getElem?_replicate, if_pos hj, Option.map_some]
    congr 1
    show #[Value.int .i64 0][j % 1]! = _
    rw [Nat.mod_one]; rfl
  · simp [madeCells, hj]
noncomputable def sidesI (ns ls : List Pr) : List Int := if wholeB ns ls then sidesL ns ls else []
theorem face_pos {ns ls : List Pr} (hw : wholeB ns ls = true) : 0 < (facesW ns ls).length := by
  have hwin := whole_win hw
  have hld : ∀ j : Nat, j < ls.length → leadB ns (ndI ls j) = true := fun j hj => (hwin.1.2.2.2.2.2 j hj).1
  have hF : facesW ns ls = facesD ns ls := by simp [facesW, hw]
  rw [hF]
  have h1 := (facesK_all hld (2 * ls.length) (Nat.le_refl _)).1 0 (by omega)
  rcases Nat.eq_zero_or_pos (facesD ns ls).length with h0 | h0
  · have : facesK ns ls (2 * ls.length) = [] := List.eq_nil_of_length_eq_zero h0
    rw [this] at h1
    simp at h1
  · exact h0
theorem own_set {base : Nat} {w : World} {g n c : Nat} {l : List Int} (h : OwnI base w (.slice (some ⟨g, 0, none⟩) n c) l) (q : Nat) (x : Int) : OwnI base (w.setCell ⟨g, q, none⟩ (.int .i64 x)) (.slice (some ⟨g, 0, none⟩) n c) (l.set q x) :=
  OwnE.set_ (t := 3) (enc := vI) h q x
theorem cell_of_block {w w' : World} {b o : Nat} (h : w'.heap[b]? = w.heap[b]?) : w'.cell? ⟨b, o, none⟩ = w.cell? ⟨b, o, none⟩ := by
  simp only [World.cell?, h]
theorem rowI_at {base : Nat} {w : World} {v : Value} {l : List Int} (h : OwnI base w v l) (hn : 0 < l.length) :
    ∃ b c, v = .slice (some ⟨b, 0, none⟩) l.length c ∧ base ≤ b ∧ b < w.heap.size ∧ ∀ j, j < l.length → w.cell? ⟨b, j, none⟩ = some (.int .i64 (l.getD j 0)) := by
  rcases hc : h.2 with ⟨_, h0⟩ | ⟨g, cap, cur, rfl, hb, _⟩
  · omega
  · exact ⟨g, cap, rfl, hb, (OwnI.lt h g rfl).2, fun j hj => OwnE.cell (t := 3) (enc := vI) h 0 hj⟩
theorem rowsF_at {base : Nat} {w : World} {v : Value} {F : List (List Nat)} (h : OwnF base w v F) (hn : 0 < F.length) (hp : ∀ k, k < F.length → 0 < (F.getD k []).length) :
    ∃ b c, v = .slice (some ⟨b, 0, none⟩) F.length c ∧ base ≤ b ∧ b < w.heap.size ∧ ∀ k, k < F.length → ∃ b5 c5, w.cell? ⟨b, k, none⟩ = some (.slice (some ⟨b5, 0, none⟩) (F.getD k []).length c5) ∧ base ≤ b5 ∧ b5 < w.heap.size ∧
      ∀ j, j < (F.getD k []).length → w.cell? ⟨b5, j, none⟩ = some (.int .i64 ((F.getD k []).getD j 0 : Nat)) := by
  obtain ⟨vs, h1, h2, h3⟩ := h
  rcases hc : h2.2 with ⟨_, h0⟩ | ⟨g, cap, cur, rfl, hb, _⟩
  · omega
  · refine ⟨g, cap, rfl, hb, (World.ownsRow.lt h2 g rfl).2, fun k hk => ?_⟩
    obtain ⟨b5, c5, e, hb5, hl5, hc5⟩ := rowI_at (h3 k hk) (by rw [natI_length]; exact hp k hk)
    rw [natI_length] at e hc5
    have hcell := h2.cellAt k (by omega)
    have hvk : vs[k]? = some (vs.getD k undef) := by rw [List.getD, List.getElem?_eq_getElem (by omega)]; rfl
    rw [hvk, e] at hcell
    exact ⟨b5, c5, hcell, hb5, hl5, fun j hj => by rw [hc5 j hj, natI_get]⟩
set_option maxHeartbeats 2000000 in
set_option maxRecDepth 100000 in
theorem iFaces_no (vn vl : Value) (ns ls : List Pr) (w : World) (hn : RP w vn ns) (hl : RP w vl ls) (hw : wholeB ns ls = false) :
    Calls Tryz.prog 145 #[.agg #[vn, vl]] w fun e w' => e = .returned (.slice none 0 0) ∧ Below w.heap.size w w' := by
  have hb0 : Below w.heap.size w (w.alloc (.cells #[vn, vl] 27)) := by exact bel_
  go_enter Tryz.func145, Tryz.ntmps145
  go_wp2_with fail
  refine (iWhole_at _ _ ns ls _ _ (hn.below hb0) (hl.below hb0) hw).mono ?_
  rintro e w1 ⟨rfl, hb1⟩
  have hbw1 := hb0.trans (hb1.mono hb0.size)
  go_wp2
  go_ret
  exact ⟨rfl, hbw1⟩
set_option maxHeartbeats 8000000 in
set_option maxRecDepth 100000 in
theorem iSides_any (vn vl : Value) (ns ls : List Pr) (w : World) (hn : RP w vn ns) (hl : RP w vl ls) :
    Calls Tryz.prog 147 #[.agg #[vn, vl]] w (RetI (sidesI ns ls) w) := by
  obtain ⟨An, cn, rfl, hcn, hmn, _⟩ := hn.formI
  obtain ⟨Al, cl, rfl, hcl, hml, _⟩ := hl.formI
  unfold maxLen at hmn hml
  have hb0 : Below w.heap.size w (w.alloc (.cells #[.slice An ns.length cn, .slice Al ls.length cl] 27)) := by exact bel_
  have hW0 : Blk (w.alloc (.cells #[.slice An ns.length cn, .slice Al ls.length cl] 27)) w.heap.size 27 #[.slice An ns.length cn, .slice Al ls.length cl] := Blk.newAt rfl
  cases hw : wholeB ns ls
  · have HR : Hid (sidesI ns ls = []) := Lib.hid (by simp [sidesI, hw])
    have hnil := fun (u : World) (a : Option Addr) (l c : Nat) => Lib.run_eql_slice_nil (P := Tryz.prog) u 135 31 a l c 0 0 Tryz.underlying135
    go_enter Tryz.func147, Tryz.ntmps147
    go_wp2_with fail
    refine (iFaces_no _ _ ns ls _ (hn.below hb0) (hl.below hb0) hw).mono ?_
    rintro e w1 ⟨rfl, hb1⟩
    have hbw1 := hb0.trans (hb1.mono hb0.size)
    go_wp2
    go_ret
    exact ⟨_, rfl, by rw [HR.out]; exact OwnI.nil _ _, hbw1⟩
  · have HR : Hid (sidesI ns ls = sidesL ns ls) := Lib.hid (by simp [sidesI, hw])
    have hwin := (whole_win hw).1
    have hm20 := hwin.2.2.1
    have hfp := face_pos hw
    obtain ⟨i0, hi, iz0, iz1, iz2⟩ := info_parts infoInt
    have HAT := Lib.hid (fun k hk => facesW_at (ns := ns) (ls := ls) (k := k) hk)
    have hfl := facesW_len ns ls
    have HS : Hid (sidesL ns ls = fillAll (facesW ns ls) (List.replicate (2 * ls.length) 0) (facesW ns ls).length) := Lib.hid rfl
    have e2 : 2 * (ls.length : Int) = ((2 * ls.length : Nat) : Int) := by omega
    clear hwin hw
    have hnil := fun (u : World) (a : Option Addr) (l c : Nat) => Lib.run_eql_slice_nil (P := Tryz.prog) u 135 31 a l c 0 0 Tryz.underlying135
    go_enter Tryz.func147, Tryz.ntmps147
    go_wp2_with fail
    refine (iFaces_any _ _ ns ls _ (hn.below hb0) (hl.below hb0)).mono ?_
    rintro e w1 ⟨v1, rfl, ho1, hb1⟩
    have hbw1 := hb0.trans (hb1.mono hb0.size)
    have hW1 := hW0.below hb1 hW0.lt
    have hz1 := hW1.lt
    have hF1 := ho1.reads
    generalize facesW ns ls = F at *
    obtain ⟨A1, c1, rfl, hc1, hm1, hcell1⟩ := hF1.get
    unfold maxLen at hm1
    obtain ⟨b1, off1, rfl, hb1l, hcl1⟩ := hcell1 hfp
    have HC1 := Lib.hid hcl1
    clear hb1 hb0 hW0 ho1 hcell1 hcl1 hF1 hn hl
    obtain ⟨a_0, a_1⟩ := hW1.c2
    generalize hNN : 2 * ls.length = N at *
    have hN40 : N ≤ 40 := by omega
    have HZ := Lib.hid (fun k => fillAll_len F (List.replicate N (0 : Int)) k)
    have HFR := Lib.hid (fun (g : List Int) (f : List Nat) (k j : Nat) => fillRow_len g f k j)
    have HN := Lib.hid hNN
    clear hNN
    go_wp2_with (at_make; refine wpList_make_full _ rfl _ _ 31 rfl (w.heap.size + 1) 3 i0 (.int .i64 0) 1 Tryz.underlying31 hi iz0 iz1 .i64 .i64 _ _ N rfl rfl rfl rfl (by rw [iz2]; omega) (by unfold maxLen; omega) (by omega) ?_)
    intro w2 hown1 hgr1
    have hB2 : Below w1.heap.size w1 w2 := (Below.refl _ _).grown hgr1 (Nat.le_refl _) (by intro k hk; cases hk)
    have hsn : OwnI (w.heap.size + 1) w2 (.slice (some ⟨w1.heap.size, 0, none⟩) N N) (fillAll F (List.replicate N 0) 0) := by
      show OwnI _ _ _ (List.replicate N 0)
      unfold OwnI
      rw [List.length_replicate, ← madeI]; exact hown1
    have hgsz := (hsn.lt _ rfl).2
    have hgg := hz1
    obtain ⟨gs, hgs⟩ : ∃ g, w1.heap.size = g := ⟨_, rfl⟩
    rw [hgs] at hB2 hsn hgsz hgg hb1l ⊢
    have HGS := Lib.hid hgs
    clear hown1 hgr1 a_0 a_1 hz1 hgs i0 hi iz0 iz1 iz2
    go_wp2
    go_loopw [20] (fun x wr => ∃ k : Nat, k ≤ F.length ∧ x = .int .i64 k ∧ OwnI (w.heap.size + 1) wr (.slice (some ⟨gs, 0, none⟩) N N) (fillAll F (List.replicate N 0) k) ∧ Below gs w1 wr) (fun x _ => F.length - (intOf x).toNat)
    case atStart => exact ⟨0, Nat.zero_le _, rfl, hsn, hB2⟩
    case round =>
      clear hsn hB2 hgsz
      obtain ⟨k, hk, rfl, ho, hB⟩ := hrel
      by_cases hlt : k < F.length
      · have hlt1 : (k : Int) < (F.length : Int) := by omega
        have ik1 : (0 : Int) ≤ (k : Int) := by omega
        obtain ⟨rr, hcr, hrr⟩ := HC1.out k hlt
        have hcr' := (hB.cell (p := ⟨b1, off1 + k, none⟩) hb1l).trans hcr
        have hb1w : b1 < wr.heap.size := by have := hB.size; rw [HGS.out] at this; omega
        obtain ⟨hwin, hfe, hf0, hf40⟩ := HAT.out k hlt
        have HFE := Lib.hid hfe
        have HSK : Hid (fillAll F (List.replicate N 0) (k + 1) = fillRow (fillAll F (List.replicate N 0) k) (F.getD k []) k (F.getD k []).length) := Lib.hid rfl
        have hgl := HZ.out k
        rw [List.length_replicate] at hgl
        generalize fillAll F (List.replicate N 0) k = G at *
        generalize F.getD k [] = f at *
        obtain ⟨A5, c5, rfl, hc5, hm5, hcell5⟩ := hrr.form
        rw [natI_length] at hcell5 hcr' hc5 hm5
        obtain ⟨b5, off5, rfl, hb5, hcl5⟩ := hcell5 hf0
        rw [HGS.out] at hb5
        have HC5 := Lib.hid hcl5
        clear hcell5 hcl5 hcr hrr hfe hwin
        have h0 : OwnI (w.heap.size + 1) wr (.slice (some ⟨gs, 0, none⟩) N N) (fillRow G f k 0) := ho
        clear ho
        go_wp2
        go_loopw [27] (fun x wr => ∃ j : Nat, j ≤ f.length ∧ x = .int .i64 j ∧ OwnI (w.heap.size + 1) wr (.slice (some ⟨gs, 0, none⟩) N N) (fillRow G f k j) ∧ Below gs w1 wr) (fun x _ => f.length - (intOf x).toNat)
        case atStart => exact ⟨0, Nat.zero_le _, rfl, h0, hB⟩
        case round =>
          clear h0 hB hcr' hb1w
          obtain ⟨j, hj, rfl, ho, hB⟩ := hrel
          by_cases hjl : j < f.length
          · have hjl1 : (j : Int) < (f.length : Int) := by omega
            have ij1 : (0 : Int) ≤ (j : Int) := by omega
            have hcj := (hB.cell (p := ⟨b5, off5 + j, none⟩) hb5).trans (HC5.out j hjl)
            rw [natI_get] at hcj
            have hb5w : b5 < wr.heap.size := by have := hB.size; rw [HGS.out] at this; omega
            have hem : f.getD j 0 < N := HFE.out _ (by rw [List.getD, List.getElem?_eq_getElem hjl]; exact List.getElem_mem hjl)
            have HSJ : Hid (fillRow G f k (j + 1) = (fillRow G f k j).set (f.getD j 0) k) := Lib.hid rfl
            have hrl := HFR.out G f k j
            generalize f.getD j 0 = x at *
            have ix1 : (0 : Int) ≤ (x : Int) := by omega
            have ix2 : (x : Int) < (N : Int) := by omega
            have hxs := OwnE.cell (t := 3) (enc := vI) ho 0 (q := x) (by omega)
            obtain ⟨z, hz⟩ : ∃ z, wr.cell? ⟨gs, x, none⟩ = some z := ⟨_, hxs⟩
            have fx := OwnE.frz (t := 3) (enc := vI) ho x
            have HSN : Hid (OwnI (w.heap.size + 1) (wr.setCell ⟨gs, x, none⟩ (.int .i64 k)) (.slice (some ⟨gs, 0, none⟩) N N) (fillRow G f k (j + 1))) := Lib.hid (by rw [HSJ.out]; exact own_set ho x k)
            have HBF := Lib.hid (hB.setCell (p := ⟨gs, x, none⟩) (Nat.le_refl _) (.int .i64 k))
            have hgl1 := (OwnI.lt ho gs rfl).2
            clear ho hB hxs
            go_wp2
            go_roundw
            case rel => exact ⟨j + 1, by omega, by go_num, HSN.out, HBF.out⟩
            case measure => simp [intOf]; omega
          · have hjj : j = f.length := by omega
            subst hjj
            go_wp2
            go_roundw
            case rel => exact ⟨k + 1, by omega, by go_num, by rw [HSK.out]; exact ho, hB⟩
            case measure => simp [intOf]; omega
      · have hkk : k = F.length := by omega
        subst hkk
        have HB := Lib.hid (hbw1.trans (Below.mono (by rw [HGS.out]; exact hB) hbw1.size))
        go_wp2
        go_ret
        exact ⟨_, rfl, by rw [HR.out, HS.out]; exact OwnI.mono ho (by omega), HB.out⟩
set_option maxHeartbeats 8000000 in
set_option maxRecDepth 100000 in
theorem sSides_any (vn vl : Value) (ns ls : List Pr) (w : World) (hn : RP w vn ns) (hl : RP w vl ls) (hw : wholeB ns ls = true) :
    Calls Tryz.prog 200 #[.agg #[vn, vl]] w (RetI (sidesL ns ls) w) := by
  obtain ⟨An, cn, rfl, hcn, hmn, _⟩ := hn.formI
  obtain ⟨Al, cl, rfl, hcl, hml, _⟩ := hl.formI
  unfold maxLen at hmn hml
  have hb0 : Below w.heap.size w (w.alloc (.cells #[.slice An ns.length cn, .slice Al ls.length cl] 27)) := by exact bel_
  have hW0 : Blk (w.alloc (.cells #[.slice An ns.length cn, .slice Al ls.length cl] 27)) w.heap.size 27 #[.slice An ns.length cn, .slice Al ls.length cl] := Blk.newAt rfl
  have hwin := (whole_win hw).1
  have hm20 := hwin.2.2.1
  have hfp := face_pos hw
  obtain ⟨i0, hi, iz0, iz1, iz2⟩ := info_parts infoInt
  have HAT := Lib.hid (fun k hk => facesW_at (ns := ns) (ls := ls) (k := k) hk)
  have hfl := facesW_len ns ls
  have HS : Hid (sidesL ns ls = fillAll (facesW ns ls) (List.replicate (2 * ls.length) 0) (facesW ns ls).length) := Lib.hid rfl
  have e2 : 2 * (ls.length : Int) = ((2 * ls.length : Nat) : Int) := by omega
  have HFA := Lib.hid (fun (v : World) (h1 : RP v (.slice An ns.length cn) ns) (h2 : RP v (.slice Al ls.length cl) ls) => sFaces_any (.slice An ns.length cn) (.slice Al ls.length cl) ns ls v h1 h2)
  clear hwin hw
  obtain ⟨w1, hw1⟩ : ∃ w1, w1 = w.alloc (.cells #[.slice An ns.length cn, .slice Al ls.length cl] 27) := ⟨_, rfl⟩
  have hs1 : w1.heap.size = w.heap.size + 1 := by rw [hw1]; simp
  have HW1 := Lib.hid hw1
  rw [← hw1] at hb0 hW0
  clear hw1
  go_enter Tryz.func200, Tryz.ntmps200
  go_upto_region 1 with (fail)
  rw [← HW1.out]
  clear HW1
  obtain ⟨a_0, a_1⟩ := hW0.c2
  have hz1 := hW0.lt
  generalize hNN : 2 * ls.length = N at *
  have hN40 : N ≤ 40 := by omega
  have HZ := Lib.hid (fun F k => fillAll_len F (List.replicate N (0 : Int)) k)
  have HFR := Lib.hid (fun (g : List Int) (f : List Nat) (k j : Nat) => fillRow_len g f k j)
  have HN := Lib.hid hNN
  clear hNN
  go_wp2_with (at_make; refine wpList_make_full _ rfl _ _ 31 rfl (w.heap.size + 1) 3 i0 (.int .i64 0) 1 Tryz.underlying31 hi iz0 iz1 .i64 .i64 _ _ N rfl rfl rfl rfl (by rw [iz2]; omega) (by unfold maxLen; omega) (by omega) ?_)
  intro w2 hown1 hgr1
  have hB2 : Below w1.heap.size w1 w2 := (Below.refl _ _).grown hgr1 (Nat.le_refl _) (by intro k hk; cases hk)
  have hsn : OwnI (w.heap.size + 1) w2 (.slice (some ⟨w.heap.size + 1, 0, none⟩) N N) (List.replicate N 0) := by
    unfold OwnI
    rw [List.length_replicate, ← madeI]; exact hown1
  have hbw2 := hb0.trans (hB2.mono hb0.size)
  have hW2 := hW0.below hB2 hz1
  have hz2 := hW2.lt
  obtain ⟨gs, hgs⟩ : ∃ g, w.heap.size + 1 = g := ⟨_, rfl⟩
  clear hown1 hgr1 a_0 a_1 hz1 hB2 hb0 hW0 i0 hi iz0 iz1 iz2
  rw [hgs] at hsn ⊢
  have HGS := Lib.hid hgs
  clear hgs hs1
  obtain ⟨a_0, a_1⟩ := hW2.c2
  go_wp2_with fail
  refine (HFA.out _ (hn.below hbw2) (hl.below hbw2)).mono ?_
  rintro e w3 ⟨v3, rfl, ho3, hb3⟩
  have hbw3 := hbw2.trans (hb3.mono hbw2.size)
  have hs3 := hsn.kept hb3
  have hF3 := ho3.reads
  have hgl2 : gs < w2.heap.size := (OwnI.lt hsn gs rfl).2
  generalize facesW ns ls = F at *
  have hFP := fun k hk => (HAT.out k hk).2.2.1
  obtain ⟨b1, c1, rfl, hbb, hb1l, hcl1⟩ := rowsF_at ho3 hfp hFP
  have hs3l := hb3.size
  have HC1 := Lib.hid hcl1
  have HFE := Lib.hid (fun k hk => (HAT.out k hk).2.1)
  have H40 := Lib.hid (fun k hk => (HAT.out k hk).2.2.2)
  have hF40 := hfl
  clear hF3 hcl1 hFP HAT hb3 ho3 hbw2 hW2 hsn a_0 a_1
  have hgr0 : w3.grownBy w3 (some gs) := World.grownBy.refl _ _
  go_wp2
  go_loopw [5] (fun x wr => ∃ k : Nat, k ≤ F.length ∧ x = .int .i64 k ∧ OwnI gs wr (.slice (some ⟨gs, 0, none⟩) N N) (fillAll F (List.replicate N 0) k) ∧ w3.grownBy wr (some gs)) (fun x _ => F.length - (intOf x).toNat)
  case atStart => exact ⟨0, Nat.zero_le _, rfl, hs3, hgr0⟩
  case round =>
    clear hs3 hgr0
    obtain ⟨k, hk, rfl, ho, hB⟩ := hrel
    by_cases hlt : k < F.length
    · have hlt1 : (k : Int) < (F.length : Int) := by omega
      have ik1 : (0 : Int) ≤ (k : Int) := by omega
      obtain ⟨b5, c5, hcr, hbb5, hb5, hc5⟩ := HC1.out k hlt
      have HFE1 := Lib.hid (HFE.out k hlt)
      have hf40 := H40.out k hlt
      have HSK : Hid (fillAll F (List.replicate N 0) (k + 1) = fillRow (fillAll F (List.replicate N 0) k) (F.getD k []) k (F.getD k []).length) := Lib.hid rfl
      have hgl := HZ.out F k
      rw [List.length_replicate] at hgl
      generalize fillAll F (List.replicate N 0) k = G at *
      generalize F.getD k [] = f at *
      have HCR := Lib.hid hcr
      have HC5 := Lib.hid hc5
      clear hcr hc5
      have h0 : OwnI gs wr (.slice (some ⟨gs, 0, none⟩) N N) (fillRow G f k 0) := ho
      clear ho
      go_wp2
      go_loopw [6] (fun x wr => ∃ j : Nat, j ≤ f.length ∧ x = .int .i64 j ∧ OwnI gs wr (.slice (some ⟨gs, 0, none⟩) N N) (fillRow G f k j) ∧ w3.grownBy wr (some gs)) (fun x _ => f.length - (intOf x).toNat)
      case atStart => exact ⟨0, Nat.zero_le _, rfl, h0, hB⟩
      case round =>
        clear h0 hB
        obtain ⟨j, hj, rfl, ho, hB⟩ := hrel
        have hcr := (cell_of_block (o := k) (hB.block b1 (by omega) (fun e => by cases e; omega))).trans HCR.out
        have hsz := hB.size
        have hb1w : b1 < wr.heap.size := by omega
        have hb5w : b5 < wr.heap.size := by omega
        by_cases hjl : j < f.length
        · have hjl1 : (j : Int) < (f.length : Int) := by omega
          have ij1 : (0 : Int) ≤ (j : Int) := by omega
          have hcj := (cell_of_block (o := j) (hB.block b5 (by omega) (fun e => by cases e; omega))).trans (HC5.out j hjl)
          have hem : f.getD j 0 < N := HFE1.out _ (by rw [List.getD, List.getElem?_eq_getElem hjl]; exact List.getElem_mem hjl)
          have HSJ : Hid (fillRow G f k (j + 1) = (fillRow G f k j).set (f.getD j 0) k) := Lib.hid rfl
          have hrl := HFR.out G f k j
          generalize f.getD j 0 = x at *
          have ix1 : (0 : Int) ≤ (x : Int) := by omega
          have ix2 : (x : Int) < (N : Int) := by omega
          have hxs := OwnE.cell (t := 3) (enc := vI) ho 0 (q := x) (by omega)
          obtain ⟨z, hz⟩ : ∃ z, wr.cell? ⟨gs, x, none⟩ = some z := ⟨_, hxs⟩
          have fx := OwnE.frz (t := 3) (enc := vI) ho x
          have HSN : Hid (OwnI gs (wr.setCell ⟨gs, x, none⟩ (.int .i64 k)) (.slice (some ⟨gs, 0, none⟩) N N) (fillRow G f k (j + 1))) := Lib.hid (by rw [HSJ.out]; exact own_set ho x k)
          have HBF := Lib.hid (grownBy_set hB x (.int .i64 k))
          have hgl1 := (OwnI.lt ho gs rfl).2
          clear ho hB hxs
          go_wp2
          go_roundw
          case rel => exact ⟨j + 1, by omega, by go_num, HSN.out, HBF.out⟩
          case measure => simp [intOf]; omega
        · have hjj : j = f.length := by omega
          subst hjj
          go_wp2
          go_roundw
          case rel => exact ⟨k + 1, by omega, by go_num, by rw [HSK.out]; exact ho, hB⟩
          case measure => simp [intOf]; omega
    · have hkk : k = F.length := by omega
      subst hkk
      have HB := Lib.hid (hbw3.grown hB hbw3.size (fun k hk => by cases hk; have := HGS.out; omega))
      go_wp2
      go_ret
      exact ⟨_, rfl, by rw [HS.out]; exact OwnI.mono ho (by have := HGS.out; omega), HB.out⟩
end Go.Proofs.YtnjcpljhmhdhkaaGreat

namespace Go.Proofs.YtnjcpljhmhdhkaaGreat
def labE : List (Nat × Nat) → Nat → Nat
  | [], i => i
  | e :: T, i => if labE T i = labE T e.2 then labE T e.1 else labE T i
end Go.Proofs.YtnjcpljhmhdhkaaGreat

namespace Go.Proofs.YtnjcpljhmhdhkaaGreat
noncomputable def cn (m : Nat) (p : Nat → Prop) : Nat := ((List.range m).filter (fun i => @decide (p i) (Classical.propDecidable _))).length
structure Swp (m n : Nat) where
  a : Nat → Nat
  b : Nat → Nat
  Bel : Nat → Nat → Prop
  low : Nat → Nat → Prop
  ab : ∀ j, j < m → a j < b j ∧ b j < n
  irr : ∀ j, j < m → ¬ Bel j j
  tot : ∀ s i j, i < m → j < m → a i < s → s ≤ b i → a j < s → s ≤ b j → i ≠ j → Bel i j ∨ Bel j i
  trans : ∀ s i j k, i < m → j < m → k < m → a i < s → s ≤ b i → a j < s → s ≤ b j → a k < s → s ≤ b k → Bel i j → Bel j k → Bel i k
  lowL : ∀ s i j, i < m → j < m → a i < s → s < b i → b j = s → (low s i → Bel i j) ∧ (¬ low s i → Bel j i)
  lowR : ∀ s i j, i < m → j < m → a i < s → s < b i → a j = s → (low s i → Bel i j) ∧ (¬ low s i → Bel j i)
  lowP : ∀ s i j, i < m → j < m → a i < s → s < b i → a j < s → s < b j → low s i → ¬ low s j → Bel i j
namespace Swp
variable {m n : Nat} (S : Swp m n)
def Cr (s j : Nat) : Prop := S.a j < s ∧ s ≤ S.b j
def Ps (s j : Nat) : Prop := S.a j < s ∧ s < S.b j
noncomputable def K (s : Nat) : Nat := cn m (S.Cr s)
noncomputable def pos (s j : Nat) : Nat := cn m (fun i => S.Cr s i ∧ S.Bel i j)
noncomputable def bb (s : Nat) : Nat := cn m (fun i => S.Ps s i ∧ S.low s i)
noncomputable def aa (s : Nat) : Nat := cn m (fun i => S.Ps s i ∧ ¬ S.low s i)
noncomputable def ll (s : Nat) : Nat := cn m (fun i => S.b i = s)
noncomputable def rr (s : Nat) : Nat := cn m (fun i => S.a i = s)
noncomputable def off : Nat → Nat
  | 0 => 0
  | s + 1 => off s + S.K s + 1
noncomputable def eB (s : Nat) : List (Nat × Nat) := (List.range (S.bb s + 1)).map (fun i => (S.off s + i, S.off (s + 1) + i))
noncomputable def eA (s k : Nat) : List (Nat × Nat) := (List.range k).map (fun i => (S.off s + (S.bb s + S.ll s) + i, S.off (s + 1) + (S.bb s + S.rr s) + i))
noncomputable def eUp : Nat → List (Nat × Nat)
  | 0 => []
  | s + 1 => eUp s ++ (S.eB s ++ S.eA s (S.aa s + 1))
noncomputable def eAll (t : Nat) : List (Nat × Nat) := S.eUp t ++ (S.eB t ++ S.eA t (S.aa t))
end Swp
end Go.Proofs.YtnjcpljhmhdhkaaGreat

namespace Go.Proofs.YtnjcpljhmhdhkaaGreat
namespace Swp
variable {m n : Nat} (S : Swp m n)
noncomputable def lab (x : Nat) : Nat := labE (S.eAll (n - 1)) x
noncomputable def gap (fw : Bool) (s j : Nat) : Nat := if fw then S.off s + S.pos s j + 1 else S.off s + S.pos s j
inductive Turn (s : Nat) : Bool → Nat → Bool → Nat → Prop
  | upL {j j' : Nat} (h : S.b j = s) (h' : S.b j' = s) (hb : S.Bel j j') (hn : ∀ k, k < m → S.b k = s → ¬ (S.Bel j k ∧ S.Bel k j')) : Turn s true j false j'
  | backL {j j' : Nat} (h : S.b j = s) (h' : S.b j' = s) (hj : ∀ i, i < m → S.b i = s → ¬ S.Bel j i) (hj' : ∀ i, i < m → S.b i = s → ¬ S.Bel i j') (hn : ∀ i, i < m → S.a i ≠ s) : Turn s true j false j'
  | over {j j' : Nat} (h : S.b j = s) (h' : S.a j' = s) (hj : ∀ i, i < m → S.b i = s → ¬ S.Bel j i) (hj' : ∀ i, i < m → S.a i = s → ¬ S.Bel j' i) : Turn s true j true j'
  | downR {j j' : Nat} (h : S.a j = s) (h' : S.a j' = s) (hb : S.Bel j' j) (hn : ∀ k, k < m → S.a k = s → ¬ (S.Bel j' k ∧ S.Bel k j)) : Turn s false j true j'
  | backR {j j' : Nat} (h : S.a j = s) (h' : S.a j' = s) (hj : ∀ i, i < m → S.a i = s → ¬ S.Bel i j) (hj' : ∀ i, i < m → S.a i = s → ¬ S.Bel j' i) (hn : ∀ i, i < m → S.b i ≠ s) : Turn s false j true j'
  | under {j j' : Nat} (h : S.a j = s) (h' : S.b j' = s) (hj : ∀ i, i < m → S.a i = s → ¬ S.Bel i j) (hj' : ∀ i, i < m → S.b i = s → ¬ S.Bel i j') : Turn s false j false j'
end Swp
end Go.Proofs.YtnjcpljhmhdhkaaGreat

namespace Go.Proofs.YtnjcpljhmhdhkaaGreat
def Xp (p : Pr) : Int := 42 * p.1 + 2 * p.2
theorem win_lead {ns ls : List Pr} (h : WinOk ns ls) {j : Nat} (hj : j < ls.length) : leadB ns (ndI ls j) = true := (h.2.2.2.2.2 j hj).1
def ptN (ns : List Pr) (v : Nat) : Pr := ndI ns v
def lN (ns ls : List Pr) (j : Nat) : Nat := if Xp (ndI ns (dFrom ls (2 * j))) < Xp (ndI ns (dTo ls (2 * j))) then (dFrom ls (2 * j)).toNat else (dTo ls (2 * j)).toNat
def rN (ns ls : List Pr) (j : Nat) : Nat := if Xp (ndI ns (dFrom ls (2 * j))) < Xp (ndI ns (dTo ls (2 * j))) then (dTo ls (2 * j)).toNat else (dFrom ls (2 * j)).toNat
section
variable {ns ls : List Pr} (h : WinOk ns ls)
include h
end
def Hts (ns ls : List Pr) (P : Int) (A B : Nat → Int) : Prop :=
  0 < P ∧ ∀ j, j < ls.length → A j * Xp (ptN ns (lN ns ls j)) + B j = P * (ptN ns (lN ns ls j)).2 ∧ A j * Xp (ptN ns (rN ns ls j)) + B j = P * (ptN ns (rN ns ls j)).2
section
variable {ns ls : List Pr} {P : Int} {A B : Nat → Int} (h : WinOk ns ls) (hh : Hts ns ls P A B)
include h hh
end
end Go.Proofs.YtnjcpljhmhdhkaaGreat

namespace Go.Proofs.YtnjcpljhmhdhkaaGreat
def faceI (F : List (List Nat)) (d : Nat) : Nat := F.findIdx (·.contains d)
theorem faceI_spec {F : List (List Nat)} {d : Nat} (h : d ∈ F.flatten) : faceI F d < F.length ∧ d ∈ F.getD (faceI F d) [] := by
  rw [List.mem_flatten] at h
  obtain ⟨f, hf, hd⟩ := h
  have h1 : faceI F d < F.length := List.findIdx_lt_length_of_exists ⟨f, hf, by simpa using hd⟩
  refine ⟨h1, ?_⟩
  have h2 : (F[faceI F d]'h1).contains d = true := List.findIdx_getElem (w := h1)
  rw [List.getD, List.getElem?_eq_getElem h1]
  simpa using h2
theorem nodup_flatten_idx : ∀ {F : List (List Nat)}, F.flatten.Nodup → ∀ {i j d : Nat}, i < F.length → j < F.length → d ∈ F.getD i [] → d ∈ F.getD j [] → i = j
  | [], _, i, j, d, hi, _, _, _ => absurd hi (by simp)
  | f :: F, hn, i, j, d, hi, hj, h1, h2 => by
    rw [List.flatten_cons, List.nodup_append] at hn
    obtain ⟨_, hn2, hn3⟩ := hn
    have mem : ∀ k, k < F.length → d ∈ F.getD k [] → d ∈ F.flatten := fun k hk hd => by
      rw [List.mem_flatten]
      rw [List.getD, List.getElem?_eq_getElem hk] at hd
      exact ⟨F[k], List.getElem_mem hk, by simpa using hd⟩
    match i, j with
    | 0, 0 => rfl
    | 0, j + 1 => exact absurd rfl (hn3 d (by simpa using h1) d (mem j (by simpa using hj) (by simpa using h2)))
    | i + 1, 0 => exact absurd rfl (hn3 d (by simpa using h2) d (mem i (by simpa using hi) (by simpa using h1)))
    | i + 1, j + 1 => rw [nodup_flatten_idx hn2 (show i < F.length by simpa using hi) (show j < F.length by simpa using hj) (by simpa using h1) (by simpa using h2)]
section
variable {ns ls : List Pr} (hld : ∀ j : Nat, j < ls.length → leadB ns (ndI ls j) = true)
include hld
end
section
variable {ns ls : List Pr} (hld : ∀ j : Nat, j < ls.length → leadB ns (ndI ls j) = true)
include hld
end
end Go.Proofs.YtnjcpljhmhdhkaaGreat

namespace Go.Proofs.YtnjcpljhmhdhkaaGreat
def fcD (ns ls : List Pr) (d : Nat) : Nat := faceI (facesD ns ls) d
section
variable {ns ls : List Pr} (h : WinOk ns ls)
include h
theorem win_hld : ∀ j : Nat, j < ls.length → leadB ns (ndI ls j) = true := fun j hj => win_lead h hj
theorem fc_lt {d : Nat} (hd : d < 2 * ls.length) : fcD ns ls d < (facesD ns ls).length :=
  (faceI_spec ((facesK_all (win_hld h) (2 * ls.length) (Nat.le_refl _)).1 d hd)).1
end
section
variable {ns ls : List Pr} {k : Nat} (h : WinOk ns ls) (hk : k < ls.length)
include h hk
end
end Go.Proofs.YtnjcpljhmhdhkaaGreat

namespace Go.Proofs.YtnjcpljhmhdhkaaGreat
noncomputable def dgN (ls : List Pr) (v : Nat) : Nat := cn (2 * ls.length) (fun d => dFrom ls d = (v : Int))
def adjF (ns ls : List Pr) (f g : Nat) : Prop := ∃ d, d < 2 * ls.length ∧ fcD ns ls d = f ∧ fcD ns ls (twin d) = g ∧ f ≠ g
def d3 (ls : List Pr) (d : Nat) : Prop := 3 ≤ dgN ls (dFrom ls d).toNat
theorem adjF_symm {ns ls : List Pr} {f g : Nat} (h : adjF ns ls f g) : adjF ns ls g f := by
  obtain ⟨d, h1, h2, h3, h4⟩ := h
  exact ⟨twin d, twin_lt h1, h3, by rw [twin_twin]; exact h2, fun hc => h4 hc.symm⟩
section
variable {ns ls : List Pr} (h : WinOk ns ls)
include h
end
theorem two_darts (d : Nat) : (d = 2 * (d / 2) ∧ twin d = 2 * (d / 2) + 1) ∨ (d = 2 * (d / 2) + 1 ∧ twin d = 2 * (d / 2)) := by
  unfold twin
  by_cases h : d % 2 = 0
  · left; rw [if_pos h]; omega
  · right; rw [if_neg h]; omega
end Go.Proofs.YtnjcpljhmhdhkaaGreat

namespace Go.Proofs.YtnjcpljhmhdhkaaGreat
def okC (adj : Nat → Nat → Bool) (hd : List Int) (k : Nat) (x : Int) : Bool := (List.range k).all (fun i => !(adj i k && (hd.getD i 0 == x)))
def wishC (gv : List Int) (k : Nat) (x : Int) : Bool := decide (gv.getD k 0 < 0) || (gv.getD k 0 == x)
def srch (adj : Nat → Nat → Bool) (gv : List Int) (n : Nat) : Nat → List Int → Option (List Int)
  | 0, hd => some hd
  | r + 1, hd => (List.range n).findSome? (fun (x : Nat) => if wishC gv hd.length x && okC adj hd hd.length x then srch adj gv n r (hd ++ [(x : Int)]) else none)
theorem okC_iff {adj : Nat → Nat → Bool} {hd : List Int} {k : Nat} {x : Int} : okC adj hd k x = true ↔ ∀ i, i < k → adj i k = true → hd.getD i 0 ≠ x := by
  unfold okC
  rw [List.all_eq_true]
  constructor
  · intro h i hi ha hx
    have := h i (List.mem_range.2 hi)
    rw [ha, hx] at this
    simp at this
  · intro h i hi
    have := h i (List.mem_range.1 hi)
    cases ha : adj i k
    · rfl
    · have h2 := this ha
      simp only [Bool.true_and, Bool.not_eq_true']
      exact beq_eq_false_iff_ne.2 h2
theorem srch_some {adj : Nat → Nat → Bool} {gv : List Int} {n : Nat} : ∀ (r : Nat) (hd L : List Int), srch adj gv n r hd = some L → (∀ j, j < hd.length → 0 ≤ hd.getD j 0 ∧ hd.getD j 0 < n) → (∀ j, j < hd.length → okC adj hd j (hd.getD j 0) = true) →
    L.length = hd.length + r ∧ (∀ j, j < hd.length → L.getD j 0 = hd.getD j 0) ∧ (∀ j, j < L.length → 0 ≤ L.getD j 0 ∧ L.getD j 0 < n) ∧ (∀ i j, i < j → j < L.length → adj i j = true → L.getD i 0 ≠ L.getD j 0)
  | 0, hd, L, h, hb, hp => by
    simp only [srch, Option.some.injEq] at h
    subst h
    exact ⟨rfl, fun _ _ => rfl, hb, fun i j hij hj ha => okC_iff.1 (hp j hj) i hij ha⟩
  | r + 1, hd, L, h, hb, hp => by
    rw [srch] at h
    obtain ⟨x, hx, hf⟩ := List.exists_of_findSome?_eq_some h
    rw [List.mem_range] at hx
    split at hf
    · rename_i hc
      rw [Bool.and_eq_true] at hc
      have hget : ∀ j, j < hd.length → (hd ++ [(x : Int)]).getD j 0 = hd.getD j 0 := by
        intro j hj
        simp [List.getD, List.getElem?_append_left hj]
      have hlast : (hd ++ [(x : Int)]).getD hd.length 0 = x := by simp [List.getD]
      have hok : ∀ j y, j ≤ hd.length → (okC adj (hd ++ [(x : Int)]) j y = true ↔ okC adj hd j y = true) := by
        intro j y hj
        rw [okC_iff, okC_iff]
        constructor
        · intro h i hi ha
          rw [← hget i (by omega)]; exact h i hi ha
        · intro h i hi ha
          rw [hget i (by omega)]; exact h i hi ha
      obtain ⟨e1, e2, e3, e4⟩ := srch_some r (hd ++ [(x : Int)]) L hf (fun j hj => by
        rw [List.length_append, List.length_singleton] at hj
        by_cases hjl : j < hd.length
        · rw [hget j hjl]; exact hb j hjl
        · have : j = hd.length := by omega
          subst this
          rw [hlast]; omega) (fun j hj => by
        rw [List.length_append, List.length_singleton] at hj
        rw [hok j _ (by omega)]
        by_cases hjl : j < hd.length
        · rw [hget j hjl]; exact hp j hjl
        · have : j = hd.length := by omega
          subst this
          rw [hlast]; exact hc.2)
      rw [List.length_append, List.length_singleton] at e1
      refine ⟨by omega, fun j hj => ?_, e3, e4⟩
      rw [e2 j (by simp; omega), hget j hj]
    · cases hf
theorem wish_free {k : Nat} {x : Int} {F : Nat} (h : k < F) : wishC (List.replicate F (-1)) k x = true := by
  unfold wishC
  have : (List.replicate F (-1 : Int)).getD k 0 = -1 := by simp [List.getD, h]
  rw [this]; rfl
end Go.Proofs.YtnjcpljhmhdhkaaGreat
