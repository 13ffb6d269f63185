/- part 40 -/
import Derived.Test.YtoknmjpnelbplaaGreatLPk25
set_option linter.unusedSimpArgs false
set_option linter.unusedVariables false
namespace Go.Proofs.YtoknmjpnelbplaaGreat
open Go.RowKit
noncomputable def undoStepD (D : Dr) : Dr := undoD (okD D) D
noncomputable def undoStepB (D : Dr) : Bool := canUndo (okD D) D
theorem undoStep_no {D : Dr} (h : okD D = false ∨ D.ss.length = 0) : undoStepD D = D ∧ undoStepB D = false := by
  have hn : ¬ (okD D = true ∧ 0 < D.ss.length) := by
    rcases h with h | h
    · rw [h]; simp
    · omega
  refine ⟨undoD_no hn, ?_⟩
  unfold undoStepB canUndo
  rcases h with h | h
  · rw [h]; rfl
  · rw [h]; simp
theorem undoStep_yes {D : Dr} {k : Nat} (h : okD D = true) (hk : D.ss.length = k + 1) (s : Sp) (hs : D.ss[k]? = some s) : undoStepD D = ⟨D.fn, D.fl, s.ns, s.ls, D.ss.take k⟩ ∧ undoStepB D = true := by
  have hp : 0 < D.ss.length := by omega
  obtain ⟨hk2, hs2⟩ := List.getElem?_eq_some_iff.1 hs
  constructor
  · unfold undoStepD
    rw [h, undoD_yes hp]
    have e : D.ss.length - 1 = k := by omega
    simp only [e, hs2]
  · unfold undoStepB canUndo
    rw [h, decide_eq_true hp]; rfl
theorem undoStep_cnt (D : Dr) (h : DrLe D) : cntD (undoStepD D) ≤ 20000000 := by
  by_cases hc : okD D = true ∧ 0 < D.ss.length
  · obtain ⟨h1, h2⟩ := hc
    obtain ⟨k, hk⟩ : ∃ k, D.ss.length = k + 1 := ⟨D.ss.length - 1, by omega⟩
    have hkl : k < D.ss.length := by omega
    rw [(undoStep_yes h1 hk D.ss[k] (List.getElem?_eq_getElem hkl)).1]
    have e : cntD (⟨D.fn, D.fl, D.ss[k].ns, D.ss[k].ls, D.ss.take k⟩ : Dr) = 2 * D.fn.length + 2 * D.fl.length + 2 * D.ss[k].ns.length + 2 * D.ss[k].ls.length + cntS (D.ss.take k) := rfl
    have hsplit : cntS (D.ss.take k) ≤ cntS D.ss := by
      have : ∀ (l : List Sp) (m : Nat), cntS (l.take m) ≤ cntS l := by
        intro l
        induction l with
        | nil => intro m; simp [cntS]
        | cons a r ih =>
          intro m
          cases m with
          | zero => simp [cntS]
          | succ m => have := ih m; simp only [List.take_succ_cons, cntS]; omega
      exact this _ _
    have := cntS_eq D.ss
    have := h.fn
    have := h.fl
    have := h.ss
    have := h.sum
    have := h.ws k hkl
    omega
  · rw [(undoStep_no (by
      cases hb : okD D with
      | false => exact .inl rfl
      | true => exact .inr (by
          have h3 : ¬ 0 < D.ss.length := fun h2 => hc ⟨hb, h2⟩
          omega))).1]
    exact h.cnt
theorem blksD_pop {a b c d : Value} {g n c' k x : Nat} {fs : List SF} (hk : k < fs.length) (h : blksD a b fs[k].2.1 fs[k].2.2 (.slice (some ⟨g, 0, none⟩) k c') (fs.take k) x) : blksD a b c d (.slice (some ⟨g, 0, none⟩) n c') fs x := by
  rcases h with h | h | h
  · exact .inl h
  · exact .inr (.inr (.inr ⟨k, hk, h⟩))
  · exact .inr (.inr (blksT_take h))
set_option maxHeartbeats 8000000 in
set_option maxRecDepth 100000 in
theorem iUndoStep_at (v0 v1 v2 v3 v4 : Value) (D : Dr) (w : World) (h : RD w v0 v1 v2 v3 v4 D) (hle : DrLe D) :
    Calls Tryz.prog 95 #[.agg #[v0, v1, v2, v3, v4]] w (RetDB (undoStepD D) (undoStepB D) w) := by
  obtain ⟨r, hr⟩ : ∃ r, okD D = r := ⟨_, rfl⟩
  have HR := Lib.hid hr
  have HLE := Lib.hid hle
  obtain ⟨B4, d4, ev4, _⟩ := h.ss
  subst ev4
  obtain ⟨E, hE⟩ : ∃ E, undoStepD D = E := ⟨_, rfl⟩
  obtain ⟨bb, hbb⟩ : ∃ bb, undoStepB D = bb := ⟨_, rfl⟩
  rw [hE, hbb]
  have HE := Lib.hid hE
  have HBB := Lib.hid hbb
  clear hle hE hbb
  go_enter Tryz.func95, Tryz.ntmps95
  go_wp2_with fail
  refine (iCopyD_any _ _ _ _ _ D _ (h.below (by exact bel_)) HLE.out).mono ?_
  rintro e w1 ⟨A0, c0, A1, c1, A2, c2, A3, c3, A4, c4, fs, rfl, ho1, hb1⟩
  have hz1 := hb1.size
  simp at hz1
  have hX1 : Blk w1 w.heap.size 41 #[v0, v1, v2, v3, (.slice B4 D.ss.length d4)] := Blk.below ((Blk.newAt rfl).alloc _) hb1 sz_
  have hR1 : Blk w1 (w.heap.size + 1) 41 #[.slice none 0 0, .slice none 0 0, .slice none 0 0, .slice none 0 0, .slice none 0 0] := Blk.below (Blk.newAt (by simp)) hb1 sz_
  have hbw1 : Below w.heap.size w w1 := by exact bel_
  have hO1 : OwnD (w.heap.size + 1 + 1) w1 (.slice A0 D.fn.length c0) (.slice A1 D.fl.length c1) (.slice A2 D.nn.length c2) (.slice A3 D.nl.length c3) (.slice A4 D.ss.length c4) D fs := by simpa using ho1
  have HS2 := Lib.hid (OutSt.start hO1 (Nat.le_refl _) hX1 hR1 hbw1)
  obtain ⟨x_0, x_1, x_2, x_3, x_4⟩ := hX1.c5
  have hX1l := hX1.lt
  clear ho1 hb1 hO1
  go_wp2_with fail
  obtain ⟨w2, hw2⟩ : ∃ w2, w2 = w1.alloc (.cells #[.slice A0 D.fn.length c0, .slice A1 D.fl.length c1, .slice A2 D.nn.length c2, .slice A3 D.nl.length c3, .slice A4 D.ss.length c4] 41) := ⟨_, rfl⟩
  rw [← hw2] at HS2 ⊢
  generalize w1.heap.size = Z at *
  clear hw2 hX1 hR1 hbw1 x_0 x_1 x_2 x_3 x_4 hX1l hz1
  refine (iDok_at _ _ _ _ _ D r _ (h.below HS2.out.blw) HR).mono ?_
  rintro e w3 ⟨rfl, hb3⟩
  have HS3 := Lib.hid (HS2.out.below hb3)
  clear hb3 HS2
  have hX3 := HS3.out.X
  have hZ3 := HS3.out.Z_
  have hR3 := HS3.out.R
  obtain ⟨x_0, x_1, x_2, x_3, x_4⟩ := hX3.c5
  cases r
  · obtain ⟨u1, u2⟩ := undoStep_no (D := D) (.inl hr)
    have hu : D = E := by rw [← HE.out]; exact u1.symm
    have hv : false = bb := by rw [← HBB.out]; exact u2.symm
    subst hu
    subst hv
    have HF := HS3
    clear HS3 HE HBB hr u1 u2
    obtain ⟨_, _, hR, hZ, hZl, _, _⟩ := HF.out
    obtain ⟨z_0, z_1, z_2, z_3, z_4⟩ := hZ.c5
    obtain ⟨r_0, r_1, r_2, r_3, r_4, r_f0, r_f1, r_f2, r_f3, r_f4⟩ := hR.b5
    have hRlt := hR.lt
    have HFF := Lib.hid (fun u0 u1 u2 u3 u4 => HF.out.fin u0 u1 u2 u3 u4)
    clear hR hZ HF
    go_wp2
    exact bodyPost_ret (v := .tuple #[.agg #[.slice A0 D.fn.length c0, .slice A1 D.fl.length c1, .slice A2 D.nn.length c2, .slice A3 D.nl.length c3, .slice A4 D.ss.length c4], .bool false]) (by simp [results, Tryz.results95, go_sem, r_0, r_1, r_2, r_3, r_4, hRlt]) rfl ⟨_, _, _, _, _, _, _, _, _, _, _, rfl, (HFF.out _ _ _ _ _).1, (HFF.out _ _ _ _ _).2⟩
  · by_cases hn0 : D.ss.length = 0
    · obtain ⟨u1, u2⟩ := undoStep_no (D := D) (.inr hn0)
      have hu : D = E := by rw [← HE.out]; exact u1.symm
      have hv : false = bb := by rw [← HBB.out]; exact u2.symm
      subst hu
      subst hv
      have hn1 : ((D.ss.length : Int) == 0) = true := by simp [hn0]
      have HF := HS3
      clear HS3 HE HBB hr u1 u2
      obtain ⟨_, _, hR, hZ, hZl, _, _⟩ := HF.out
      obtain ⟨z_0, z_1, z_2, z_3, z_4⟩ := hZ.c5
      obtain ⟨r_0, r_1, r_2, r_3, r_4, r_f0, r_f1, r_f2, r_f3, r_f4⟩ := hR.b5
      have hRlt := hR.lt
      have HFF := Lib.hid (fun u0 u1 u2 u3 u4 => HF.out.fin u0 u1 u2 u3 u4)
      clear hR hZ HF
      go_wp2
      exact bodyPost_ret (v := .tuple #[.agg #[.slice A0 D.fn.length c0, .slice A1 D.fl.length c1, .slice A2 D.nn.length c2, .slice A3 D.nl.length c3, .slice A4 D.ss.length c4], .bool false]) (by simp [results, Tryz.results95, go_sem, r_0, r_1, r_2, r_3, r_4, hRlt, hn0]) rfl ⟨_, _, _, _, _, _, _, _, _, _, _, rfl, (HFF.out _ _ _ _ _).1, (HFF.out _ _ _ _ _).2⟩
    · obtain ⟨k, hk⟩ : ∃ k, D.ss.length = k + 1 := ⟨D.ss.length - 1, by omega⟩
      have hkl : k < D.ss.length := by omega
      have hm := congrArg List.length HS3.out.own.map
      simp at hm
      have hkf : k < fs.length := by omega
      obtain ⟨g, hg, hgl, hcap⟩ := HS3.out.own.ss.addr (by omega)
      subst hg
      have hfk : fs[k].1 = D.ss[k] := by
        have h1 := HS3.out.own.map
        have h2 : (fs.map Prod.fst)[k]'(by simpa using hkf) = D.ss[k] := by simp only [h1]
        simpa using h2
      obtain ⟨u1, u2⟩ := undoStep_yes hr hk D.ss[k] (List.getElem?_eq_getElem hkl)
      have hu : E = ⟨D.fn, D.fl, D.ss[k].ns, D.ss[k].ls, D.ss.take k⟩ := by rw [← HE.out]; exact u1
      have hv : true = bb := by rw [← HBB.out]; exact u2.symm
      subst hu
      subst hv
      clear HE HBB u1 u2 hr
      have e1 : (D.ss.length : Int) - 1 = (k : Int) := by omega
      have k0 : (0 : Int) ≤ (k : Int) := by omega
      have k1 : (k : Int) < (D.ss.length : Int) := by omega
      have k2 : (k : Int) ≤ (c4 : Int) := by omega
      have hn1 : ((D.ss.length : Int) == 0) = false := beq_eq_false_iff_ne.2 (by omega)
      have hkm : k < 1048576 := by have := HLE.out.ss; omega
      have hwk : IntKind.i64.wrap (k : Int) = (k : Int) := IntWalk.i64_in _ (by omega)
      have hzl := HS3.out.lt
      have nX : w.heap.size ≠ Z := by omega
      have nR : w.heap.size + 1 ≠ Z := by omega
      have nB : w.heap.size ≤ Z := by omega
      have hsl : (D.ss.take k).length = k := by simp; omega
      have hwin := HS3.out.own.ss.win k hkf
      obtain ⟨An, cn, en⟩ := hwin.1.form
      obtain ⟨Al, cl, el⟩ := hwin.2.1.form
      have hrow := HS3.out.own.ss.row
      have hg5 : k * 5 + 3 < D.ss.length * 5 := by omega
      have hg6 : k * 5 + 4 < D.ss.length * 5 := by omega
      rw [← hgl] at hrow
      have q3 := hrow.cellAt (k * 5 + 3) hg5
      have q4 := hrow.cellAt (k * 5 + 4) hg6
      rw [flat_get sfc 5 (fun _ => rfl) _ k _ hkf (by omega)] at q3 q4
      simp only [sfc, List.getElem?_cons_zero, List.getElem?_cons_succ] at q3 q4
      have hN := HS3.out.own.popNow hkf
      have hZfar : ¬ blksD (.slice A0 D.fn.length c0) (.slice A1 D.fl.length c1) fs[k].2.1 fs[k].2.2 (.slice (some ⟨g, 0, none⟩) k c4) (fs.take k) Z := fun hz => HS3.out.far (blksD_pop hkf hz)
      rw [hfk] at hN
      rw [hfk] at en
      rw [hfk] at el
      rw [en, el] at hN hZfar
      rw [en] at q3
      rw [el] at q4
      obtain ⟨w5, hw5⟩ : ∃ w5, w5 = ((w3.setCell ⟨Z, 2, none⟩ (.slice An D.ss[k].ns.length cn)).setCell ⟨Z, 3, none⟩ (.slice Al D.ss[k].ls.length cl)).setCell ⟨Z, 4, none⟩ (.slice (some ⟨g, 0, none⟩) k c4) := ⟨_, rfl⟩
      have HF : Hid (OutSt w v0 v1 v2 v3 (.slice B4 D.ss.length d4) Z (.slice A0 D.fn.length c0) (.slice A1 D.fl.length c1) (.slice An D.ss[k].ns.length cn) (.slice Al D.ss[k].ls.length cl) (.slice (some ⟨g, 0, none⟩) k c4) ⟨D.fn, D.fl, D.ss[k].ns, D.ss[k].ls, D.ss.take k⟩ (fs.take k) w5) := Lib.hid
        (hw5 ▸ ⟨((hN.setFar (p := ⟨Z, 2, none⟩) hZfar _).setFar (p := ⟨Z, 3, none⟩) hZfar _).setFar (p := ⟨Z, 4, none⟩) hZfar _, ((HS3.out.X.far (p := ⟨Z, 2, none⟩) nX _).far (p := ⟨Z, 3, none⟩) nX _).far (p := ⟨Z, 4, none⟩) nX _,
          ((HS3.out.R.far (p := ⟨Z, 2, none⟩) nR _).far (p := ⟨Z, 3, none⟩) nR _).far (p := ⟨Z, 4, none⟩) nR _, ((hZ3.set_ 2 _).set_ 3 _).set_ 4 _, hzl, hZfar, ((HS3.out.blw.setCell (p := ⟨Z, 2, none⟩) nB _).setCell (p := ⟨Z, 3, none⟩) nB _).setCell (p := ⟨Z, 4, none⟩) nB _⟩)
      obtain ⟨z_0, z_1, z_2, z_3, z_4, z_f0, z_f1, z_f2, z_f3, z_f4⟩ := hZ3.b5
      have hZ4l := hZ3.lt
      have hgZ : ¬ g = Z := fun e => HS3.out.far (.inr (.inr (.inl (by rw [e]; rfl))))
      have HSL := Lib.hid hsl
      generalize D.ss[k] = s at *
      clear hN HS3 hwin hrow hg5 hg6 en el hfk hX3 hZ3 hR3 hm hk hgl hcap hsl hZfar hkl
      go_upto_region 7 with (fail)
      rw [← hw5]
      clear hw5 z_0 z_1 z_2 z_3 z_4 z_f0 z_f1 z_f2 z_f3 z_f4 hZ4l q3 q4 x_0 x_1 x_2 x_3 x_4
      obtain ⟨_, _, hR, hZ, hZl, _, _⟩ := HF.out
      obtain ⟨z_0, z_1, z_2, z_3, z_4⟩ := hZ.c5
      obtain ⟨r_0, r_1, r_2, r_3, r_4, r_f0, r_f1, r_f2, r_f3, r_f4⟩ := hR.b5
      have hRlt := hR.lt
      have HFF := Lib.hid (fun u0 u1 u2 u3 u4 => HF.out.fin u0 u1 u2 u3 u4)
      clear hR hZ HF
      go_wp2
      exact bodyPost_ret (v := .tuple #[.agg #[.slice A0 D.fn.length c0, .slice A1 D.fl.length c1, .slice An s.ns.length cn, .slice Al s.ls.length cl, .slice (some ⟨g, 0, none⟩) k c4], .bool true]) (by simp [results, Tryz.results95, go_sem, r_0, r_1, r_2, r_3, r_4, hRlt]) rfl
        ⟨A0, c0, A1, c1, An, cn, Al, cl, some ⟨g, 0, none⟩, c4, fs.take k, by simp only [HSL.out], by simp only [HSL.out]; exact (HFF.out _ _ _ _ _).1, (HFF.out _ _ _ _ _).2⟩
set_option maxHeartbeats 8000000 in
set_option maxRecDepth 100000 in
theorem sUndoStep_at (v0 v1 v2 v3 v4 : Value) (D : Dr) (w : World) (h : RD w v0 v1 v2 v3 v4 D) (hle : DrLe D) :
    Calls Tryz.prog 93 #[.agg #[v0, v1, v2, v3, v4]] w (RetDB (undoStepD D) (undoStepB D) w) := by
  obtain ⟨r, hr⟩ : ∃ r, okD D = r := ⟨_, rfl⟩
  have HR := Lib.hid hr
  have HLE := Lib.hid hle
  obtain ⟨B4, d4, ev4, _⟩ := h.ss
  subst ev4
  obtain ⟨E, hE⟩ : ∃ E, undoStepD D = E := ⟨_, rfl⟩
  obtain ⟨bb, hbb⟩ : ∃ bb, undoStepB D = bb := ⟨_, rfl⟩
  rw [hE, hbb]
  have HE := Lib.hid hE
  have HBB := Lib.hid hbb
  clear hle hE hbb
  go_enter Tryz.func93, Tryz.ntmps93
  go_wp2_with fail
  refine (sCopyD_any _ _ _ _ _ D _ (h.below (by exact bel_)) HLE.out).mono ?_
  rintro e w1 ⟨A0, c0, A1, c1, A2, c2, A3, c3, A4, c4, fs, rfl, ho1, hb1⟩
  have hz1 := hb1.size
  simp at hz1
  have hX1 : Blk w1 w.heap.size 41 #[v0, v1, v2, v3, (.slice B4 D.ss.length d4)] := Blk.below ((Blk.newAt rfl).alloc _) hb1 sz_
  have hR1 : Blk w1 (w.heap.size + 1) 41 #[.slice none 0 0, .slice none 0 0, .slice none 0 0, .slice none 0 0, .slice none 0 0] := Blk.below (Blk.newAt (by simp)) hb1 sz_
  have hbw1 : Below w.heap.size w w1 := by exact bel_
  have hO1 : OwnD (w.heap.size + 1 + 1) w1 (.slice A0 D.fn.length c0) (.slice A1 D.fl.length c1) (.slice A2 D.nn.length c2) (.slice A3 D.nl.length c3) (.slice A4 D.ss.length c4) D fs := by simpa using ho1
  have HS2 := Lib.hid (OutSt.start hO1 (Nat.le_refl _) hX1 hR1 hbw1)
  obtain ⟨x_0, x_1, x_2, x_3, x_4⟩ := hX1.c5
  have hX1l := hX1.lt
  clear ho1 hb1 hO1
  go_wp2_with fail
  obtain ⟨w2, hw2⟩ : ∃ w2, w2 = w1.alloc (.cells #[.slice A0 D.fn.length c0, .slice A1 D.fl.length c1, .slice A2 D.nn.length c2, .slice A3 D.nl.length c3, .slice A4 D.ss.length c4] 41) := ⟨_, rfl⟩
  rw [← hw2] at HS2 ⊢
  generalize w1.heap.size = Z at *
  clear hw2 hX1 hR1 hbw1 x_0 x_1 x_2 x_3 x_4 hX1l hz1
  refine (sDok_at _ _ _ _ _ D r _ (h.below HS2.out.blw) HR).mono ?_
  rintro e w3 ⟨rfl, hb3⟩
  have HS3 := Lib.hid (HS2.out.below hb3)
  clear hb3 HS2
  have hX3 := HS3.out.X
  have hZ3 := HS3.out.Z_
  have hR3 := HS3.out.R
  obtain ⟨x_0, x_1, x_2, x_3, x_4⟩ := hX3.c5
  cases r
  · obtain ⟨u1, u2⟩ := undoStep_no (D := D) (.inl hr)
    have hu : D = E := by rw [← HE.out]; exact u1.symm
    have hv : false = bb := by rw [← HBB.out]; exact u2.symm
    subst hu
    subst hv
    have HF := HS3
    clear HS3 HE HBB hr u1 u2
    obtain ⟨_, _, hR, hZ, hZl, _, _⟩ := HF.out
    obtain ⟨z_0, z_1, z_2, z_3, z_4⟩ := hZ.c5
    obtain ⟨r_0, r_1, r_2, r_3, r_4, r_f0, r_f1, r_f2, r_f3, r_f4⟩ := hR.b5
    have hRlt := hR.lt
    have HFF := Lib.hid (fun u0 u1 u2 u3 u4 => HF.out.fin u0 u1 u2 u3 u4)
    clear hR hZ HF
    go_wp2
    exact bodyPost_ret (v := .tuple #[.agg #[.slice A0 D.fn.length c0, .slice A1 D.fl.length c1, .slice A2 D.nn.length c2, .slice A3 D.nl.length c3, .slice A4 D.ss.length c4], .bool false]) (by simp [results, Tryz.results93, go_sem, r_0, r_1, r_2, r_3, r_4, hRlt]) rfl ⟨_, _, _, _, _, _, _, _, _, _, _, rfl, (HFF.out _ _ _ _ _).1, (HFF.out _ _ _ _ _).2⟩
  · by_cases hn0 : D.ss.length = 0
    · obtain ⟨u1, u2⟩ := undoStep_no (D := D) (.inr hn0)
      have hu : D = E := by rw [← HE.out]; exact u1.symm
      have hv : false = bb := by rw [← HBB.out]; exact u2.symm
      subst hu
      subst hv
      have hn1 : ((D.ss.length : Int) == 0) = true := by simp [hn0]
      have HF := HS3
      clear HS3 HE HBB hr u1 u2
      obtain ⟨_, _, hR, hZ, hZl, _, _⟩ := HF.out
      obtain ⟨z_0, z_1, z_2, z_3, z_4⟩ := hZ.c5
      obtain ⟨r_0, r_1, r_2, r_3, r_4, r_f0, r_f1, r_f2, r_f3, r_f4⟩ := hR.b5
      have hRlt := hR.lt
      have HFF := Lib.hid (fun u0 u1 u2 u3 u4 => HF.out.fin u0 u1 u2 u3 u4)
      clear hR hZ HF
      go_wp2
      exact bodyPost_ret (v := .tuple #[.agg #[.slice A0 D.fn.length c0, .slice A1 D.fl.length c1, .slice A2 D.nn.length c2, .slice A3 D.nl.length c3, .slice A4 D.ss.length c4], .bool false]) (by simp [results, Tryz.results93, go_sem, r_0, r_1, r_2, r_3, r_4, hRlt, hn0]) rfl ⟨_, _, _, _, _, _, _, _, _, _, _, rfl, (HFF.out _ _ _ _ _).1, (HFF.out _ _ _ _ _).2⟩
    · obtain ⟨k, hk⟩ : ∃ k, D.ss.length = k + 1 := ⟨D.ss.length - 1, by omega⟩
      have hkl : k < D.ss.length := by omega
      have hm := congrArg List.length HS3.out.own.map
      simp at hm
      have hkf : k < fs.length := by omega
      obtain ⟨g, hg, hgl, hcap⟩ := HS3.out.own.ss.addr (by omega)
      subst hg
      have hfk : fs[k].1 = D.ss[k] := by
        have h1 := HS3.out.own.map
        have h2 : (fs.map Prod.fst)[k]'(by simpa using hkf) = D.ss[k] := by simp only [h1]
        simpa using h2
      obtain ⟨u1, u2⟩ := undoStep_yes hr hk D.ss[k] (List.getElem?_eq_getElem hkl)
      have hu : E = ⟨D.fn, D.fl, D.ss[k].ns, D.ss[k].ls, D.ss.take k⟩ := by rw [← HE.out]; exact u1
      have hv : true = bb := by rw [← HBB.out]; exact u2.symm
      subst hu
      subst hv
      clear HE HBB u1 u2 hr
      have e1 : (D.ss.length : Int) - 1 = (k : Int) := by omega
      have k0 : (0 : Int) ≤ (k : Int) := by omega
      have k1 : (k : Int) < (D.ss.length : Int) := by omega
      have k2 : (k : Int) ≤ (c4 : Int) := by omega
      have hn1 : ((D.ss.length : Int) == 0) = false := beq_eq_false_iff_ne.2 (by omega)
      have hkm : k < 1048576 := by have := HLE.out.ss; omega
      have hwk : IntKind.i64.wrap (k : Int) = (k : Int) := IntWalk.i64_in _ (by omega)
      have hzl := HS3.out.lt
      have nX : w.heap.size ≠ Z := by omega
      have nR : w.heap.size + 1 ≠ Z := by omega
      have nB : w.heap.size ≤ Z := by omega
      have hsl : (D.ss.take k).length = k := by simp; omega
      obtain ⟨B5, d5, ev5, _, _, hcell⟩ := h.ss
      cases ev5
      have hB := hcell (by omega)
      obtain ⟨b, off, rfl, hb, hcl⟩ := hB
      obtain ⟨_, _, _, vn, vl, k3, k4, hn, hl⟩ := hcl k hkl
      obtain ⟨hw1, hw2⟩ := HLE.out.ws k hkl
      obtain ⟨Av, cv, ev, _⟩ := hn.form
      obtain ⟨Au, cu, eu, _⟩ := hl.form
      subst ev eu
      have hbl := HS3.out.blw
      have q3 := (hbl.cell (p := ⟨b, off + k * 5 + 3, none⟩) hb).trans k3
      have q4 := (hbl.cell (p := ⟨b, off + k * 5 + 4, none⟩) hb).trans k4
      have hn' := hn.below hbl
      have hl' := hl.below hbl
      have HSL := Lib.hid hsl
      have HMP := HS3
      have hkf' := hkf
      clear hsl hfk
      generalize D.ss[k] = s at *
      clear k3 k4 hcl hcell hn hl hbl
      have hX3l := hX3.lt
      have hZ3l := hZ3.lt
      go_wp2_with fail
      refine (sCopy_any _ _ s.ns s.ls _ hn' hl' hw1 hw2).mono ?_
      rintro e w4 ⟨An, cn, Al, cl, rfl, ho4, hb4⟩
      have hlt3 := HS3.out.own.lt
      have HS4 := HS3.out.below hb4
      have hZ4 := HS4.Z_
      have hlt4 := ho4.lt
      have hR4l := HS4.R.lt
      have hbase : w.heap.size + 1 + 1 ≤ w3.heap.size := by have := hR3.lt; omega
      have hnow := HS4.own.newNow ho4 hbase (fun k hk hk' => by have := (hlt4 k hk).1; have := (hlt3 k hk').2; omega)
      have hN := hnow.takeN (k := k) (by omega)
      have hZfar : ¬ blksD (.slice A0 D.fn.length c0) (.slice A1 D.fl.length c1) (.slice An s.ns.length cn) (.slice Al s.ls.length cl) (.slice (some ⟨g, 0, none⟩) k c4) (fs.take k) Z := by
        rintro (hz | hz | hz)
        · exact HS4.far (.inl hz)
        · have := (hlt4 _ hz).1; omega
        · exact HS4.far (.inr (.inr (blksT_take hz)))
      obtain ⟨w5, hw5⟩ : ∃ w5, w5 = ((w4.setCell ⟨Z, 2, none⟩ (.slice An s.ns.length cn)).setCell ⟨Z, 3, none⟩ (.slice Al s.ls.length cl)).setCell ⟨Z, 4, none⟩ (.slice (some ⟨g, 0, none⟩) k c4) := ⟨_, rfl⟩
      have HF : Hid (OutSt w v0 v1 v2 v3 (.slice (some ⟨b, off, none⟩) D.ss.length d4) Z (.slice A0 D.fn.length c0) (.slice A1 D.fl.length c1) (.slice An s.ns.length cn) (.slice Al s.ls.length cl) (.slice (some ⟨g, 0, none⟩) k c4) ⟨D.fn, D.fl, s.ns, s.ls, D.ss.take k⟩ (fs.take k) w5) := Lib.hid
        (hw5 ▸ ⟨((hN.setFar (p := ⟨Z, 2, none⟩) hZfar _).setFar (p := ⟨Z, 3, none⟩) hZfar _).setFar (p := ⟨Z, 4, none⟩) hZfar _, ((HS4.X.far (p := ⟨Z, 2, none⟩) nX _).far (p := ⟨Z, 3, none⟩) nX _).far (p := ⟨Z, 4, none⟩) nX _,
          ((HS4.R.far (p := ⟨Z, 2, none⟩) nR _).far (p := ⟨Z, 3, none⟩) nR _).far (p := ⟨Z, 4, none⟩) nR _, ((hZ4.set_ 2 _).set_ 3 _).set_ 4 _, hzl, hZfar, ((HS4.blw.setCell (p := ⟨Z, 2, none⟩) nB _).setCell (p := ⟨Z, 3, none⟩) nB _).setCell (p := ⟨Z, 4, none⟩) nB _⟩)
      obtain ⟨z_0, z_1, z_2, z_3, z_4, z_f0, z_f1, z_f2, z_f3, z_f4⟩ := hZ4.b5
      have hZ4l := hZ4.lt
      clear hN hnow HS4 HS3 HMP hlt3 hlt4 hZfar ho4 hb4 hX3 hZ3 hR3 x_0 x_1 x_2 x_3 x_4 hn' hl' hX3l hZ3l hZ4 q3 q4 hm hk hgl hcap hkl
      go_upto_region 7 with (fail)
      rw [← hw5]
      clear hw5 z_0 z_1 z_2 z_3 z_4 z_f0 z_f1 z_f2 z_f3 z_f4 hZ4l
      obtain ⟨_, _, hR, hZ, hZl, _, _⟩ := HF.out
      obtain ⟨z_0, z_1, z_2, z_3, z_4⟩ := hZ.c5
      obtain ⟨r_0, r_1, r_2, r_3, r_4, r_f0, r_f1, r_f2, r_f3, r_f4⟩ := hR.b5
      have hRlt := hR.lt
      have HFF := Lib.hid (fun u0 u1 u2 u3 u4 => HF.out.fin u0 u1 u2 u3 u4)
      clear hR hZ HF
      go_wp2
      exact bodyPost_ret (v := .tuple #[.agg #[.slice A0 D.fn.length c0, .slice A1 D.fl.length c1, .slice An s.ns.length cn, .slice Al s.ls.length cl, .slice (some ⟨g, 0, none⟩) k c4], .bool true]) (by simp [results, Tryz.results93, go_sem, r_0, r_1, r_2, r_3, r_4, hRlt]) rfl
        ⟨A0, c0, A1, c1, An, cn, Al, cl, some ⟨g, 0, none⟩, c4, fs.take k, by simp only [HSL.out], by simp only [HSL.out]; exact (HFF.out _ _ _ _ _).1, (HFF.out _ _ _ _ _).2⟩
end Go.Proofs.YtoknmjpnelbplaaGreat
