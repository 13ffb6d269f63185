/- part 45 -/
import Derived.Test.YtoknmjpnelbplaaGreatLPk41
import Derived.Test.YtoknmjpnelbplaaGreatLPk44
set_option linter.unusedSimpArgs false
set_option linter.unusedVariables false
namespace Go.Proofs.YtoknmjpnelbplaaGreat
open Go.RowKit
theorem sameWB_iff {a b c d : List Pr} : sameWB a b c d = true ↔ a = c ∧ b = d := by simp [sameWB]
theorem okFrom_cons {nn nl N L : List Pr} {s : Sp} {r : List Sp} : okFrom nn nl N L (s :: r) = true ↔ (s.ns = N ∧ s.ls = L) ∧ stepB N L s.k s.a s.b = true ∧ okFrom nn nl (stepN N L s.k s.a s.b) (stepL N L s.k s.a s.b) r = true := by
  rw [okFrom, Bool.and_eq_true, Bool.and_eq_true, sameWB_iff]
theorem okFrom_snoc : ∀ (ss : List Sp) (nn nl N L : List Pr) (s : Sp), okFrom nn nl N L (ss ++ [s]) = true ↔ okFrom s.ns s.ls N L ss = true ∧ stepB s.ns s.ls s.k s.a s.b = true ∧ nn = stepN s.ns s.ls s.k s.a s.b ∧ nl = stepL s.ns s.ls s.k s.a s.b
  | [], nn, nl, N, L, s => by
    rw [List.nil_append, okFrom_cons, okFrom, okFrom, sameWB_iff, sameWB_iff]
    constructor
    · rintro ⟨⟨rfl, rfl⟩, h1, h2, h3⟩; exact ⟨⟨rfl, rfl⟩, h1, h2, h3⟩
    · rintro ⟨⟨rfl, rfl⟩, h1, h2, h3⟩; exact ⟨⟨rfl, rfl⟩, h1, h2, h3⟩
  | t :: ss, nn, nl, N, L, s => by
    rw [List.cons_append, okFrom_cons, okFrom_cons, okFrom_snoc ss]
    constructor
    · rintro ⟨h1, h2, h3, h4⟩; exact ⟨⟨h1, h2, h3⟩, h4⟩
    · rintro ⟨⟨h1, h2, h3⟩, h4⟩; exact ⟨h1, h2, h3, h4⟩
theorem okD_iff {D : Dr} : okD D = true ↔ WinOk D.fn D.fl ∧ D.ss.length ≤ 40 ∧ okFrom D.nn D.nl D.fn D.fl D.ss = true := by
  unfold okD
  rw [Bool.and_eq_true, Bool.and_eq_true, winB_true, decide_eq_true_eq]
theorem okD_do {D : Dr} (h : okD D = true) (k a b : Int) : okD (doStepD D k a b) = true := by
  by_cases hc : doStepB D k a b = true
  · rw [doStep_yes hc]
    unfold doStepB at hc
    rw [Bool.and_eq_true, Bool.and_eq_true, decide_eq_true_eq] at hc
    obtain ⟨h1, h2, h3⟩ := okD_iff.1 h
    rw [okD_iff]
    refine ⟨h1, by simp; omega, ?_⟩
    rw [okFrom_snoc]
    exact ⟨h3, hc.2.2, rfl, rfl⟩
  · rw [doStep_no (by simpa using hc)]; exact h
end Go.Proofs.YtoknmjpnelbplaaGreat

namespace Go.Proofs.YtoknmjpnelbplaaGreat
open Go.RowKit
noncomputable def chgB (S : St) (kd a b : Int) : Bool := okStB S && (decide (S.ds.length = 0) && (doStepB S.D kd a b && decide (10 ≤ S.fund)))
noncomputable def chgS (S : St) (kd a b : Int) : St := if chgB S kd a b = true then ⟨doStepD S.D kd a b, [], [], S.fund - 10⟩ else S
theorem chg_no {S : St} {kd a b : Int} (h : okStB S = false ∨ ¬ S.ds.length = 0 ∨ doStepB S.D kd a b = false ∨ S.fund < 10) : chgS S kd a b = S ∧ chgB S kd a b = false := by
  have hb : chgB S kd a b = false := by
    unfold chgB
    rcases h with h | h | h | h
    · simp [h]
    · simp [h]
    · simp [h]
    · have : ¬ (10 : Int) ≤ S.fund := by omega
      simp [this]
  exact ⟨by unfold chgS; rw [hb]; rfl, hb⟩
theorem chg_yes {S : St} {kd a b : Int} (h1 : okStB S = true) (h2 : S.ds.length = 0) (h3 : doStepB S.D kd a b = true) (h4 : 10 ≤ S.fund) : chgS S kd a b = ⟨doStepD S.D kd a b, [], [], S.fund - 10⟩ ∧ chgB S kd a b = true := by
  have hb : chgB S kd a b = true := by unfold chgB; rw [h1, h3]; simp [h2, h4]
  exact ⟨by unfold chgS; rw [if_pos hb], hb⟩
theorem changeWindow_cnt (S : St) (kd a b : Int) (h : StLe S) : cntSt (chgS S kd a b) ≤ 30000000 := by
  unfold chgS
  split
  · have := doStep_cnt S.D kd a b h.D
    show cntD (doStepD S.D kd a b) + 0 + 3 * 0 ≤ _
    omega
  · exact h.cnt
theorem okSt_fund {S : St} (h : okStB S = true) : 0 ≤ S.fund ∧ S.fund ≤ 1000000 := by
  unfold okStB at h
  simp only [Bool.and_eq_true] at h
  exact inB_true.1 h.2.2.1
theorem chg_next {S : St} (kd a b : Int) (h : okStB S = true) : okStB ⟨doStepD S.D kd a b, [], [], S.fund - 10⟩ = decide (10 ≤ S.fund) := by
  have hf := okSt_fund h
  have hd : okD S.D = true := by
    unfold okStB at h
    simp only [Bool.and_eq_true] at h
    exact h.1
  have h1 := okD_do hd kd a b
  have h2 : depsB [] = true := by unfold depsB; rfl
  have h3 : inB (S.fund - 10) 0 1000000 = decide (10 ≤ S.fund) := by
    rw [Bool.eq_iff_iff, inB_true, decide_eq_true_eq]
    omega
  unfold okStB
  show (okD (doStepD S.D kd a b) && (depsB [] && (inB (S.fund - 10) 0 1000000 && _))) = _
  rw [h1, h2, h3]
  simp
set_option maxHeartbeats 16000000 in
set_option maxRecDepth 100000 in
theorem iChangeWindow_at (v0 v1 v2 v3 v4 v5 v6 : Value) (S : St) (kd : Int) (ka : Int) (kb : Int) (w : World) (h : RSt w v0 v1 v2 v3 v4 v5 v6 S) (hle : StLe S) :
    Calls Tryz.prog 35 #[.agg #[v0, v1, v2, v3, v4, v5, v6, .int .i64 S.fund], .int .i64 kd, .int .i64 ka, .int .i64 kb] w (RetStuB (chgS S kd ka kb) (chgB S kd ka kb) w) := by
  obtain ⟨r, hr⟩ : ∃ r, okStB S = r := ⟨_, rfl⟩
  have HR := Lib.hid hr
  have HLE := Lib.hid hle
  obtain ⟨B6, d6, ev6, hc6, hm6, hat⟩ := h.ds.at_
  subst ev6
  unfold maxLen at hm6
  have HAT := Lib.hid hat
  clear hat
  obtain ⟨E, hE⟩ : ∃ E, chgS S kd ka kb = E := ⟨_, rfl⟩
  obtain ⟨bb, hbb⟩ : ∃ bb, chgB S kd ka kb = bb := ⟨_, rfl⟩
  rw [hE, hbb]
  have HE := Lib.hid hE
  have HBB := Lib.hid hbb
  have HH := Lib.hid h
  clear hle hE hbb h
  go_enter Tryz.func35, Tryz.ntmps35
  go_wp2_with fail
  refine (iCopySt_any _ _ _ _ _ _ _ S _ (HH.out.below (by exact bel_)) HLE.out).mono ?_
  rintro e w1 ⟨A0, a0, A1, a1, A2, a2, A3, a3, A4, a4, A5, a5, A6, a6, fs, rfl, ho1, hb1⟩
  have hz1 := hb1.size
  simp at hz1
  have hX1 : Blk w1 w.heap.size 44 #[v0, v1, v2, v3, v4, v5, .slice B6 S.ds.length d6, .int .i64 S.fund] := Blk.below ((Blk.newAt rfl).alloc _) hb1 sz_
  have hR1 : Blk w1 (w.heap.size + 1) 44 #[.slice none 0 0, .slice none 0 0, .slice none 0 0, .slice none 0 0, .slice none 0 0, .slice none 0 0, .slice none 0 0, .int .i64 0] := Blk.below (Blk.newAt (by simp)) hb1 sz_
  have hbw1 : Below w.heap.size w w1 := by exact bel_
  have hO1 : OwnSt (w.heap.size + 1 + 1) w1 (.slice A0 S.D.fn.length a0) (.slice A1 S.D.fl.length a1) (.slice A2 S.D.nn.length a2) (.slice A3 S.D.nl.length a3) (.slice A4 S.D.ss.length a4) (.slice A5 S.cs.length a5) (.slice A6 S.ds.length a6) S fs := by simpa using ho1
  have HS2 := Lib.hid (OutSS.start hO1 (Nat.le_refl _) hX1 hR1 hbw1)
  obtain ⟨x_0, x_1, x_2, x_3, x_4, x_5, x_6, x_7⟩ := hX1.c8
  have hX1l := hX1.lt
  clear ho1 hb1 hO1
  go_wp2_with fail
  obtain ⟨w2, hw2⟩ : ∃ w2, w2 = w1.alloc (.cells #[.slice A0 S.D.fn.length a0, .slice A1 S.D.fl.length a1, .slice A2 S.D.nn.length a2, .slice A3 S.D.nl.length a3, .slice A4 S.D.ss.length a4, .slice A5 S.cs.length a5, .slice A6 S.ds.length a6, .int .i64 S.fund] 44) := ⟨_, rfl⟩
  rw [← hw2] at HS2 ⊢
  generalize w1.heap.size = Z at *
  clear hw2 hX1 hR1 hbw1 x_0 x_1 x_2 x_3 x_4 x_5 x_6 x_7 hX1l hz1
  refine (iStudioOk_at _ _ _ _ _ _ _ S r _ (HH.out.below HS2.out.blw) HR).mono ?_
  rintro e w3 ⟨rfl, hb3⟩
  have HS3 := Lib.hid (HS2.out.below hb3)
  clear hb3 HS2
  have hX3 := HS3.out.X
  obtain ⟨x_0, x_1, x_2, x_3, x_4, x_5, x_6, x_7⟩ := hX3.c8
  have hX3l := hX3.lt
  have hZ3l := HS3.out.Z_.lt
  cases r
  · obtain ⟨u1, u2⟩ := chg_no (S := S) (kd := kd) (a := ka) (b := kb) (.inl hr)
    have hu : S = E := by rw [← HE.out]; exact u1.symm
    have hv : false = bb := by rw [← HBB.out]; exact u2.symm
    subst hu
    subst hv
    have HF := HS3
    clear HS3 HE HBB u1 u2 hr hX3 hX3l hZ3l
    obtain ⟨_, _, hR, hZ, hZl, _, _⟩ := HF.out
    obtain ⟨z_0, z_1, z_2, z_3, z_4, z_5, z_6, z_7⟩ := hZ.c8
    obtain ⟨r_0, r_1, r_2, r_3, r_4, r_5, r_6, r_7, r_f0, r_f1, r_f2, r_f3, r_f4, r_f5, r_f6, r_f7⟩ := hR.b8
    have hRlt := hR.lt
    have hZlt := hZ.lt
    have HFF := Lib.hid (fun u0 u1 u2 u3 u4 u5 u6 u7 => HF.out.fin u0 u1 u2 u3 u4 u5 u6 u7)
    clear hR hZ HF
    go_wp2
    exact bodyPost_ret (v := .tuple #[.agg #[.slice A0 S.D.fn.length a0, .slice A1 S.D.fl.length a1, .slice A2 S.D.nn.length a2, .slice A3 S.D.nl.length a3, .slice A4 S.D.ss.length a4, .slice A5 S.cs.length a5, .slice A6 S.ds.length a6, .int .i64 S.fund], .bool false]) (by simp [results, Tryz.results35, go_sem, r_0, r_1, r_2, r_3, r_4, r_5, r_6, r_7, hRlt]) rfl ⟨_, _, _, _, _, _, _, _, _, _, _, _, _, _, fs, rfl, (HFF.out _ _ _ _ _ _ _ _).1, (HFF.out _ _ _ _ _ _ _ _).2⟩
  · by_cases hn0 : S.ds.length = 0
    · have hn1 : ((S.ds.length : Int) > 0) = False := by simp [hn0]
      have hn2 : ¬ (0 : Int) < (S.ds.length : Int) := by omega
      have hdr := HH.out.dr.below HS3.out.blw
      obtain ⟨hf0, hf1⟩ := okSt_fund hr
      have hwr : IntKind.i64.wrap (S.fund - 10) = S.fund - 10 := IntWalk.i64_in _ (by omega)
      go_wp2_with fail
      refine (iDoStep_at _ _ _ _ _ S.D kd ka kb _ hdr HLE.out.D).mono ?_
      obtain ⟨D', hD'⟩ : ∃ x, doStepD S.D kd ka kb = x := ⟨_, rfl⟩
      obtain ⟨b', hb'⟩ : ∃ x, doStepB S.D kd ka kb = x := ⟨_, rfl⟩
      rw [hD', hb']
      have HD' := Lib.hid hD'
      have HB' := Lib.hid hb'
      clear hD' hb'
      rintro e w4 ⟨N0, n0, N1, n1, N2, n2, N3, n3, N4, n4, gs, rfl, ho4, hb4⟩
      have HS4 := Lib.hid (HS3.out.below hb4)
      have hX4 := HS4.out.X
      have hz4 := hb4.size
      clear hb4 hX3 x_0 x_1 x_2 x_3 x_4 x_5 x_6 x_7 hX3l hZ3l hdr
      obtain ⟨x_0, x_1, x_2, x_3, x_4, x_5, x_6, x_7⟩ := hX4.c8
      have hX4l := hX4.lt
      have hZ4l := HS4.out.Z_.lt
      have hlt3 : w.heap.size + 1 + 1 ≤ w3.heap.size := by have := HS3.out.R.lt; omega
      have HO4 := Lib.hid ho4
      clear ho4 HS3
      cases b'
      · obtain ⟨w5, hw5⟩ : ∃ u, u = w4.alloc (.cells #[.slice N0 D'.fn.length n0, .slice N1 D'.fl.length n1, .slice N2 D'.nn.length n2, .slice N3 D'.nl.length n3, .slice N4 D'.ss.length n4] 41) := ⟨_, rfl⟩
        have HS5 := Lib.hid (HS4.out.below (hw5 ▸ (Below.refl _ _).alloc (Nat.le_refl _) _))
        have hN5 : Blk w5 w4.heap.size 41 #[.slice N0 D'.fn.length n0, .slice N1 D'.fl.length n1, .slice N2 D'.nn.length n2, .slice N3 D'.nl.length n3, .slice N4 D'.ss.length n4] := hw5 ▸ Blk.newAt rfl
        have hb5 : Below w4.heap.size w4 w5 := hw5 ▸ (Below.refl _ _).alloc (Nat.le_refl _) _
        go_upto_region 5 with (fail)
        rw [← hw5]
        clear hw5 HS4 hX4 hX4l hZ4l x_0 x_1 x_2 x_3 x_4 x_5 x_6 x_7
        clear HO4 hz4 hlt3 hN5 hb5 hwr hf0 hf1
        obtain ⟨u1, u2⟩ := chg_no (S := S) (kd := kd) (a := ka) (b := kb) (.inr (.inr (.inl HB'.out)))
        have hu : S = E := by rw [← HE.out]; exact u1.symm
        have hv : false = bb := by rw [← HBB.out]; exact u2.symm
        subst hu
        subst hv
        have HF := HS5
        clear HS5 HE HBB u1 u2 hr HB' HD'
        obtain ⟨_, _, hR, hZ, hZl, _, _⟩ := HF.out
        obtain ⟨z_0, z_1, z_2, z_3, z_4, z_5, z_6, z_7⟩ := hZ.c8
        obtain ⟨r_0, r_1, r_2, r_3, r_4, r_5, r_6, r_7, r_f0, r_f1, r_f2, r_f3, r_f4, r_f5, r_f6, r_f7⟩ := hR.b8
        have hRlt := hR.lt
        have hZlt := hZ.lt
        have HFF := Lib.hid (fun u0 u1 u2 u3 u4 u5 u6 u7 => HF.out.fin u0 u1 u2 u3 u4 u5 u6 u7)
        clear hR hZ HF
        go_wp2
        exact bodyPost_ret (v := .tuple #[.agg #[.slice A0 S.D.fn.length a0, .slice A1 S.D.fl.length a1, .slice A2 S.D.nn.length a2, .slice A3 S.D.nl.length a3, .slice A4 S.D.ss.length a4, .slice A5 S.cs.length a5, .slice A6 S.ds.length a6, .int .i64 S.fund], .bool false]) (by simp [results, Tryz.results35, go_sem, r_0, r_1, r_2, r_3, r_4, r_5, r_6, r_7, hRlt, hn0]) rfl ⟨_, _, _, _, _, _, _, _, _, _, _, _, _, _, fs, rfl, (HFF.out _ _ _ _ _ _ _ _).1, (HFF.out _ _ _ _ _ _ _ _).2⟩
      · obtain ⟨w5, hw5⟩ : ∃ u, u = w4.alloc (.cells #[.slice N0 D'.fn.length n0, .slice N1 D'.fl.length n1, .slice N2 D'.nn.length n2, .slice N3 D'.nl.length n3, .slice N4 D'.ss.length n4] 41) := ⟨_, rfl⟩
        have HS5 := Lib.hid (HS4.out.below (hw5 ▸ (Below.refl _ _).alloc (Nat.le_refl _) _))
        have hN5 : Blk w5 w4.heap.size 41 #[.slice N0 D'.fn.length n0, .slice N1 D'.fl.length n1, .slice N2 D'.nn.length n2, .slice N3 D'.nl.length n3, .slice N4 D'.ss.length n4] := hw5 ▸ Blk.newAt rfl
        have hb5 : Below w4.heap.size w4 w5 := hw5 ▸ (Below.refl _ _).alloc (Nat.le_refl _) _
        go_upto_region 5 with (fail)
        rw [← hw5]
        clear hw5 HS4 hX4 hX4l hZ4l x_0 x_1 x_2 x_3 x_4 x_5 x_6 x_7
        have hX5 := HS5.out.X
        obtain ⟨x_0, x_1, x_2, x_3, x_4, x_5, x_6, x_7⟩ := hX5.c8
        have hX5l := hX5.lt
        obtain ⟨d_0, d_1, d_2, d_3, d_4⟩ := hN5.c5
        have hN5l := hN5.lt
        have HO5 := Lib.hid (HO4.out.kept hb5)
        have hlt5 : w3.heap.size ≤ w5.heap.size := by have := hb5.size; omega
        clear HO4 hb5 hX5 hN5
        obtain ⟨g, hg⟩ : ∃ g, decide (10 ≤ S.fund) = g := ⟨_, rfl⟩
        have HNX : Hid (okStB ⟨D', [], [], S.fund - 10⟩ = g) := Lib.hid (by rw [← HD'.out, chg_next kd ka kb hr]; exact hg)
        have HG := Lib.hid hg
        clear hg
        obtain ⟨w6, hw6⟩ : ∃ u, u = w5.alloc (.cells #[.slice N0 D'.fn.length n0, .slice N1 D'.fl.length n1, .slice N2 D'.nn.length n2, .slice N3 D'.nl.length n3, .slice N4 D'.ss.length n4, .slice none 0 0, .slice none 0 0, .int .i64 (S.fund - 10)] 44) := ⟨_, rfl⟩
        have hb6 : Below w5.heap.size w5 w6 := hw6 ▸ (Below.refl _ _).alloc (Nat.le_refl _) _
        have HS6 := Lib.hid (HS5.out.below hb6)
        have hM6 : Blk w6 w5.heap.size 44 #[.slice N0 D'.fn.length n0, .slice N1 D'.fl.length n1, .slice N2 D'.nn.length n2, .slice N3 D'.nl.length n3, .slice N4 D'.ss.length n4, .slice none 0 0, .slice none 0 0, .int .i64 (S.fund - 10)] := hw6 ▸ Blk.newAt rfl
        have HO6 := Lib.hid (onlyD_own (S.fund - 10) (HO5.out.kept hb6))
        clear HS5 HO5
        go_upto_region 8 with (fail)
        rw [← hw6]
        clear hw6 x_0 x_1 x_2 x_3 x_4 x_5 x_6 x_7 hX5l d_0 d_1 d_2 d_3 d_4 hN5l
        obtain ⟨y_0, y_1, y_2, y_3, y_4, y_5, y_6, y_7⟩ := hM6.c8
        have hM6l := hM6.lt
        have hRST := HO6.out.reads
        go_wp2_with fail
        refine (iStudioOk_at _ _ _ _ _ _ _ ⟨D', [], [], S.fund - 10⟩ g _ hRST HNX).mono ?_
        rintro e w7 ⟨rfl, hb7⟩
        have HS7 := Lib.hid (HS6.out.below hb7)
        have HO7 := Lib.hid (HO6.out.kept hb7)
        have hM7 := hM6.below hb7 hM6l
        clear HS6 HO6 hb7 hb6 hM6 hM6l y_0 y_1 y_2 y_3 y_4 y_5 y_6 y_7 hRST HNX
        cases g
        · clear HO7 hM7 hz4 hlt3 hlt5 hwr
          obtain ⟨u1, u2⟩ := chg_no (S := S) (kd := kd) (a := ka) (b := kb) (.inr (.inr (.inr (by have := of_decide_eq_false HG.out; omega))))
          have hu : S = E := by rw [← HE.out]; exact u1.symm
          have hv : false = bb := by rw [← HBB.out]; exact u2.symm
          subst hu
          subst hv
          have HF := HS7
          clear HS7 HE HBB u1 u2 hr HB' HD' HG
          obtain ⟨_, _, hR, hZ, hZl, _, _⟩ := HF.out
          obtain ⟨z_0, z_1, z_2, z_3, z_4, z_5, z_6, z_7⟩ := hZ.c8
          obtain ⟨r_0, r_1, r_2, r_3, r_4, r_5, r_6, r_7, r_f0, r_f1, r_f2, r_f3, r_f4, r_f5, r_f6, r_f7⟩ := hR.b8
          have hRlt := hR.lt
          have hZlt := hZ.lt
          have HFF := Lib.hid (fun u0 u1 u2 u3 u4 u5 u6 u7 => HF.out.fin u0 u1 u2 u3 u4 u5 u6 u7)
          clear hR hZ HF
          go_wp2
          exact bodyPost_ret (v := .tuple #[.agg #[.slice A0 S.D.fn.length a0, .slice A1 S.D.fl.length a1, .slice A2 S.D.nn.length a2, .slice A3 S.D.nl.length a3, .slice A4 S.D.ss.length a4, .slice A5 S.cs.length a5, .slice A6 S.ds.length a6, .int .i64 S.fund], .bool false]) (by simp [results, Tryz.results35, go_sem, r_0, r_1, r_2, r_3, r_4, r_5, r_6, r_7, hRlt, hn0]) rfl ⟨_, _, _, _, _, _, _, _, _, _, _, _, _, _, fs, rfl, (HFF.out _ _ _ _ _ _ _ _).1, (HFF.out _ _ _ _ _ _ _ _).2⟩
        · obtain ⟨u1, u2⟩ := chg_yes (kd := kd) (a := ka) (b := kb) hr hn0 HB'.out (of_decide_eq_true HG.out)
          rw [HD'.out] at u1
          have hu : (⟨D', [], [], S.fund - 10⟩ : St) = E := by rw [← HE.out]; exact u1.symm
          have hv : true = bb := by rw [← HBB.out]; exact u2.symm
          subst hu
          subst hv
          have hR7 := HS7.out.R
          obtain ⟨r_0, r_1, r_2, r_3, r_4, r_5, r_6, r_7, r_f0, r_f1, r_f2, r_f3, r_f4, r_f5, r_f6, r_f7⟩ := hR7.b8
          have hRlt := hR7.lt
          have HBW := Lib.hid HS7.out.blw
          obtain ⟨y_0, y_1, y_2, y_3, y_4, y_5, y_6, y_7⟩ := hM7.c8
          have hM7l := hM7.lt
          clear HE HBB u1 u2 hr HB' HD' HG HS7 hR7 hM7
          go_wp2
          refine bodyPost_ret (v := .tuple #[.agg #[.slice N0 D'.fn.length n0, .slice N1 D'.fl.length n1, .slice N2 D'.nn.length n2, .slice N3 D'.nl.length n3, .slice N4 D'.ss.length n4, .slice none 0 0, .slice none 0 0, .int .i64 (S.fund - 10)], .bool true]) (by simp [results, Tryz.results35, go_sem, r_0, r_1, r_2, r_3, r_4, r_5, r_6, r_7, hRlt, hn0]) rfl ?_
          have hfin := fin_st (w := w) HO7.out hlt3 HBW.out
          exact ⟨N0, n0, N1, n1, N2, n2, N3, n3, N4, n4, none, 0, none, 0, gs, rfl, (hfin _ _ _ _ _ _ _ _).1, (hfin _ _ _ _ _ _ _ _).2⟩
    · have hn2 : (0 : Int) < (S.ds.length : Int) := by omega
      obtain ⟨u1, u2⟩ := chg_no (S := S) (kd := kd) (a := ka) (b := kb) (.inr (.inl hn0))
      have hu : S = E := by rw [← HE.out]; exact u1.symm
      have hv : false = bb := by rw [← HBB.out]; exact u2.symm
      subst hu
      subst hv
      have HF := HS3
      clear HS3 HE HBB u1 u2 hr
      obtain ⟨_, _, hR, hZ, hZl, _, _⟩ := HF.out
      obtain ⟨z_0, z_1, z_2, z_3, z_4, z_5, z_6, z_7⟩ := hZ.c8
      obtain ⟨r_0, r_1, r_2, r_3, r_4, r_5, r_6, r_7, r_f0, r_f1, r_f2, r_f3, r_f4, r_f5, r_f6, r_f7⟩ := hR.b8
      have hRlt := hR.lt
      have hZlt := hZ.lt
      have HFF := Lib.hid (fun u0 u1 u2 u3 u4 u5 u6 u7 => HF.out.fin u0 u1 u2 u3 u4 u5 u6 u7)
      clear hR hZ HF
      go_wp2
      exact bodyPost_ret (v := .tuple #[.agg #[.slice A0 S.D.fn.length a0, .slice A1 S.D.fl.length a1, .slice A2 S.D.nn.length a2, .slice A3 S.D.nl.length a3, .slice A4 S.D.ss.length a4, .slice A5 S.cs.length a5, .slice A6 S.ds.length a6, .int .i64 S.fund], .bool false]) (by simp [results, Tryz.results35, go_sem, r_0, r_1, r_2, r_3, r_4, r_5, r_6, r_7, hRlt, hn2]) rfl ⟨_, _, _, _, _, _, _, _, _, _, _, _, _, _, fs, rfl, (HFF.out _ _ _ _ _ _ _ _).1, (HFF.out _ _ _ _ _ _ _ _).2⟩
set_option maxHeartbeats 16000000 in
set_option maxRecDepth 100000 in
theorem sChangeWindow_at (v0 v1 v2 v3 v4 v5 v6 : Value) (S : St) (kd : Int) (ka : Int) (kb : Int) (w : World) (h : RSt w v0 v1 v2 v3 v4 v5 v6 S) (hle : StLe S) :
    Calls Tryz.prog 34 #[.agg #[v0, v1, v2, v3, v4, v5, v6, .int .i64 S.fund], .int .i64 kd, .int .i64 ka, .int .i64 kb] w (RetStuB (chgS S kd ka kb) (chgB S kd ka kb) w) := by
  obtain ⟨r, hr⟩ : ∃ r, okStB S = r := ⟨_, rfl⟩
  have HR := Lib.hid hr
  have HLE := Lib.hid hle
  obtain ⟨B6, d6, ev6, hc6, hm6, hat⟩ := h.ds.at_
  subst ev6
  unfold maxLen at hm6
  have HAT := Lib.hid hat
  clear hat
  obtain ⟨E, hE⟩ : ∃ E, chgS S kd ka kb = E := ⟨_, rfl⟩
  obtain ⟨bb, hbb⟩ : ∃ bb, chgB S kd ka kb = bb := ⟨_, rfl⟩
  rw [hE, hbb]
  have HE := Lib.hid hE
  have HBB := Lib.hid hbb
  have HH := Lib.hid h
  clear hle hE hbb h
  go_enter Tryz.func34, Tryz.ntmps34
  go_wp2_with fail
  refine (sCopySt_any _ _ _ _ _ _ _ S _ (HH.out.below (by exact bel_)) HLE.out).mono ?_
  rintro e w1 ⟨A0, a0, A1, a1, A2, a2, A3, a3, A4, a4, A5, a5, A6, a6, fs, rfl, ho1, hb1⟩
  have hz1 := hb1.size
  simp at hz1
  have hX1 : Blk w1 w.heap.size 44 #[v0, v1, v2, v3, v4, v5, .slice B6 S.ds.length d6, .int .i64 S.fund] := Blk.below ((Blk.newAt rfl).alloc _) hb1 sz_
  have hR1 : Blk w1 (w.heap.size + 1) 44 #[.slice none 0 0, .slice none 0 0, .slice none 0 0, .slice none 0 0, .slice none 0 0, .slice none 0 0, .slice none 0 0, .int .i64 0] := Blk.below (Blk.newAt (by simp)) hb1 sz_
  have hbw1 : Below w.heap.size w w1 := by exact bel_
  have hO1 : OwnSt (w.heap.size + 1 + 1) w1 (.slice A0 S.D.fn.length a0) (.slice A1 S.D.fl.length a1) (.slice A2 S.D.nn.length a2) (.slice A3 S.D.nl.length a3) (.slice A4 S.D.ss.length a4) (.slice A5 S.cs.length a5) (.slice A6 S.ds.length a6) S fs := by simpa using ho1
  have HS2 := Lib.hid (OutSS.start hO1 (Nat.le_refl _) hX1 hR1 hbw1)
  obtain ⟨x_0, x_1, x_2, x_3, x_4, x_5, x_6, x_7⟩ := hX1.c8
  have hX1l := hX1.lt
  clear ho1 hb1 hO1
  go_wp2_with fail
  obtain ⟨w2, hw2⟩ : ∃ w2, w2 = w1.alloc (.cells #[.slice A0 S.D.fn.length a0, .slice A1 S.D.fl.length a1, .slice A2 S.D.nn.length a2, .slice A3 S.D.nl.length a3, .slice A4 S.D.ss.length a4, .slice A5 S.cs.length a5, .slice A6 S.ds.length a6, .int .i64 S.fund] 44) := ⟨_, rfl⟩
  rw [← hw2] at HS2 ⊢
  generalize w1.heap.size = Z at *
  clear hw2 hX1 hR1 hbw1 x_0 x_1 x_2 x_3 x_4 x_5 x_6 x_7 hX1l hz1
  refine (sStudioOk_at _ _ _ _ _ _ _ S r _ (HH.out.below HS2.out.blw) HR).mono ?_
  rintro e w3 ⟨rfl, hb3⟩
  have HS3 := Lib.hid (HS2.out.below hb3)
  clear hb3 HS2
  have hX3 := HS3.out.X
  obtain ⟨x_0, x_1, x_2, x_3, x_4, x_5, x_6, x_7⟩ := hX3.c8
  have hX3l := hX3.lt
  have hZ3l := HS3.out.Z_.lt
  cases r
  · obtain ⟨u1, u2⟩ := chg_no (S := S) (kd := kd) (a := ka) (b := kb) (.inl hr)
    have hu : S = E := by rw [← HE.out]; exact u1.symm
    have hv : false = bb := by rw [← HBB.out]; exact u2.symm
    subst hu
    subst hv
    have HF := HS3
    clear HS3 HE HBB u1 u2 hr hX3 hX3l hZ3l
    obtain ⟨_, _, hR, hZ, hZl, _, _⟩ := HF.out
    obtain ⟨z_0, z_1, z_2, z_3, z_4, z_5, z_6, z_7⟩ := hZ.c8
    obtain ⟨r_0, r_1, r_2, r_3, r_4, r_5, r_6, r_7, r_f0, r_f1, r_f2, r_f3, r_f4, r_f5, r_f6, r_f7⟩ := hR.b8
    have hRlt := hR.lt
    have hZlt := hZ.lt
    have HFF := Lib.hid (fun u0 u1 u2 u3 u4 u5 u6 u7 => HF.out.fin u0 u1 u2 u3 u4 u5 u6 u7)
    clear hR hZ HF
    go_wp2
    exact bodyPost_ret (v := .tuple #[.agg #[.slice A0 S.D.fn.length a0, .slice A1 S.D.fl.length a1, .slice A2 S.D.nn.length a2, .slice A3 S.D.nl.length a3, .slice A4 S.D.ss.length a4, .slice A5 S.cs.length a5, .slice A6 S.ds.length a6, .int .i64 S.fund], .bool false]) (by simp [results, Tryz.results34, go_sem, r_0, r_1, r_2, r_3, r_4, r_5, r_6, r_7, hRlt]) rfl ⟨_, _, _, _, _, _, _, _, _, _, _, _, _, _, fs, rfl, (HFF.out _ _ _ _ _ _ _ _).1, (HFF.out _ _ _ _ _ _ _ _).2⟩
  · by_cases hn0 : S.ds.length = 0
    · have hn1 : ((S.ds.length : Int) > 0) = False := by simp [hn0]
      have hn2 : ¬ (0 : Int) < (S.ds.length : Int) := by omega
      have hdr := HH.out.dr.below HS3.out.blw
      obtain ⟨hf0, hf1⟩ := okSt_fund hr
      have hwr : IntKind.i64.wrap (S.fund - 10) = S.fund - 10 := IntWalk.i64_in _ (by omega)
      go_wp2_with fail
      refine (sDoStep_at _ _ _ _ _ S.D kd ka kb _ hdr HLE.out.D).mono ?_
      obtain ⟨D', hD'⟩ : ∃ x, doStepD S.D kd ka kb = x := ⟨_, rfl⟩
      obtain ⟨b', hb'⟩ : ∃ x, doStepB S.D kd ka kb = x := ⟨_, rfl⟩
      rw [hD', hb']
      have HD' := Lib.hid hD'
      have HB' := Lib.hid hb'
      clear hD' hb'
      rintro e w4 ⟨N0, n0, N1, n1, N2, n2, N3, n3, N4, n4, gs, rfl, ho4, hb4⟩
      have HS4 := Lib.hid (HS3.out.below hb4)
      have hX4 := HS4.out.X
      have hz4 := hb4.size
      clear hb4 hX3 x_0 x_1 x_2 x_3 x_4 x_5 x_6 x_7 hX3l hZ3l hdr
      obtain ⟨x_0, x_1, x_2, x_3, x_4, x_5, x_6, x_7⟩ := hX4.c8
      have hX4l := hX4.lt
      have hZ4l := HS4.out.Z_.lt
      have hlt3 : w.heap.size + 1 + 1 ≤ w3.heap.size := by have := HS3.out.R.lt; omega
      have HO4 := Lib.hid ho4
      clear ho4 HS3
      cases b'
      · obtain ⟨w5, hw5⟩ : ∃ u, u = w4.alloc (.cells #[.slice N0 D'.fn.length n0, .slice N1 D'.fl.length n1, .slice N2 D'.nn.length n2, .slice N3 D'.nl.length n3, .slice N4 D'.ss.length n4] 41) := ⟨_, rfl⟩
        have HS5 := Lib.hid (HS4.out.below (hw5 ▸ (Below.refl _ _).alloc (Nat.le_refl _) _))
        have hN5 : Blk w5 w4.heap.size 41 #[.slice N0 D'.fn.length n0, .slice N1 D'.fl.length n1, .slice N2 D'.nn.length n2, .slice N3 D'.nl.length n3, .slice N4 D'.ss.length n4] := hw5 ▸ Blk.newAt rfl
        have hb5 : Below w4.heap.size w4 w5 := hw5 ▸ (Below.refl _ _).alloc (Nat.le_refl _) _
        go_upto_region 5 with (fail)
        rw [← hw5]
        clear hw5 HS4 hX4 hX4l hZ4l x_0 x_1 x_2 x_3 x_4 x_5 x_6 x_7
        clear HO4 hz4 hlt3 hN5 hb5 hwr hf0 hf1
        obtain ⟨u1, u2⟩ := chg_no (S := S) (kd := kd) (a := ka) (b := kb) (.inr (.inr (.inl HB'.out)))
        have hu : S = E := by rw [← HE.out]; exact u1.symm
        have hv : false = bb := by rw [← HBB.out]; exact u2.symm
        subst hu
        subst hv
        have HF := HS5
        clear HS5 HE HBB u1 u2 hr HB' HD'
        obtain ⟨_, _, hR, hZ, hZl, _, _⟩ := HF.out
        obtain ⟨z_0, z_1, z_2, z_3, z_4, z_5, z_6, z_7⟩ := hZ.c8
        obtain ⟨r_0, r_1, r_2, r_3, r_4, r_5, r_6, r_7, r_f0, r_f1, r_f2, r_f3, r_f4, r_f5, r_f6, r_f7⟩ := hR.b8
        have hRlt := hR.lt
        have hZlt := hZ.lt
        have HFF := Lib.hid (fun u0 u1 u2 u3 u4 u5 u6 u7 => HF.out.fin u0 u1 u2 u3 u4 u5 u6 u7)
        clear hR hZ HF
        go_wp2
        exact bodyPost_ret (v := .tuple #[.agg #[.slice A0 S.D.fn.length a0, .slice A1 S.D.fl.length a1, .slice A2 S.D.nn.length a2, .slice A3 S.D.nl.length a3, .slice A4 S.D.ss.length a4, .slice A5 S.cs.length a5, .slice A6 S.ds.length a6, .int .i64 S.fund], .bool false]) (by simp [results, Tryz.results34, go_sem, r_0, r_1, r_2, r_3, r_4, r_5, r_6, r_7, hRlt, hn0]) rfl ⟨_, _, _, _, _, _, _, _, _, _, _, _, _, _, fs, rfl, (HFF.out _ _ _ _ _ _ _ _).1, (HFF.out _ _ _ _ _ _ _ _).2⟩
      · obtain ⟨w5, hw5⟩ : ∃ u, u = w4.alloc (.cells #[.slice N0 D'.fn.length n0, .slice N1 D'.fl.length n1, .slice N2 D'.nn.length n2, .slice N3 D'.nl.length n3, .slice N4 D'.ss.length n4] 41) := ⟨_, rfl⟩
        have HS5 := Lib.hid (HS4.out.below (hw5 ▸ (Below.refl _ _).alloc (Nat.le_refl _) _))
        have hN5 : Blk w5 w4.heap.size 41 #[.slice N0 D'.fn.length n0, .slice N1 D'.fl.length n1, .slice N2 D'.nn.length n2, .slice N3 D'.nl.length n3, .slice N4 D'.ss.length n4] := hw5 ▸ Blk.newAt rfl
        have hb5 : Below w4.heap.size w4 w5 := hw5 ▸ (Below.refl _ _).alloc (Nat.le_refl _) _
        go_upto_region 5 with (fail)
        rw [← hw5]
        clear hw5 HS4 hX4 hX4l hZ4l x_0 x_1 x_2 x_3 x_4 x_5 x_6 x_7
        have hX5 := HS5.out.X
        obtain ⟨x_0, x_1, x_2, x_3, x_4, x_5, x_6, x_7⟩ := hX5.c8
        have hX5l := hX5.lt
        obtain ⟨d_0, d_1, d_2, d_3, d_4⟩ := hN5.c5
        have hN5l := hN5.lt
        have HO5 := Lib.hid (HO4.out.kept hb5)
        have hlt5 : w3.heap.size ≤ w5.heap.size := by have := hb5.size; omega
        clear HO4 hb5 hX5 hN5
        by_cases hf : S.fund < 10
        · clear x_0 x_1 x_2 x_3 x_4 x_5 x_6 d_0 d_1 d_2 d_3 d_4 hN5l HO5 hz4 hlt3 hlt5 hwr hf0 hf1
          obtain ⟨u1, u2⟩ := chg_no (S := S) (kd := kd) (a := ka) (b := kb) (.inr (.inr (.inr hf)))
          have hu : S = E := by rw [← HE.out]; exact u1.symm
          have hv : false = bb := by rw [← HBB.out]; exact u2.symm
          subst hu
          subst hv
          have HF := HS5
          clear HS5 HE HBB u1 u2 hr HB' HD'
          obtain ⟨_, _, hR, hZ, hZl, _, _⟩ := HF.out
          obtain ⟨z_0, z_1, z_2, z_3, z_4, z_5, z_6, z_7⟩ := hZ.c8
          obtain ⟨r_0, r_1, r_2, r_3, r_4, r_5, r_6, r_7, r_f0, r_f1, r_f2, r_f3, r_f4, r_f5, r_f6, r_f7⟩ := hR.b8
          have hRlt := hR.lt
          have hZlt := hZ.lt
          have HFF := Lib.hid (fun u0 u1 u2 u3 u4 u5 u6 u7 => HF.out.fin u0 u1 u2 u3 u4 u5 u6 u7)
          clear hR hZ HF
          go_wp2
          exact bodyPost_ret (v := .tuple #[.agg #[.slice A0 S.D.fn.length a0, .slice A1 S.D.fl.length a1, .slice A2 S.D.nn.length a2, .slice A3 S.D.nl.length a3, .slice A4 S.D.ss.length a4, .slice A5 S.cs.length a5, .slice A6 S.ds.length a6, .int .i64 S.fund], .bool false]) (by simp [results, Tryz.results34, go_sem, r_0, r_1, r_2, r_3, r_4, r_5, r_6, r_7, hRlt, hn0, hf]) rfl ⟨_, _, _, _, _, _, _, _, _, _, _, _, _, _, fs, rfl, (HFF.out _ _ _ _ _ _ _ _).1, (HFF.out _ _ _ _ _ _ _ _).2⟩
        · obtain ⟨u1, u2⟩ := chg_yes (kd := kd) (a := ka) (b := kb) hr hn0 HB'.out (by omega)
          rw [HD'.out] at u1
          have hu : (⟨D', [], [], S.fund - 10⟩ : St) = E := by rw [← HE.out]; exact u1.symm
          have hv : true = bb := by rw [← HBB.out]; exact u2.symm
          subst hu
          subst hv
          have hR5 := HS5.out.R
          obtain ⟨r_0, r_1, r_2, r_3, r_4, r_5, r_6, r_7, r_f0, r_f1, r_f2, r_f3, r_f4, r_f5, r_f6, r_f7⟩ := hR5.b8
          have hRlt := hR5.lt
          have HBW := Lib.hid HS5.out.blw
          clear HE HBB u1 u2 hr HB' HD' HS5 hR5
          go_wp2
          refine bodyPost_ret (v := .tuple #[.agg #[.slice N0 D'.fn.length n0, .slice N1 D'.fl.length n1, .slice N2 D'.nn.length n2, .slice N3 D'.nl.length n3, .slice N4 D'.ss.length n4, .slice none 0 0, .slice none 0 0, .int .i64 (S.fund - 10)], .bool true]) (by simp [results, Tryz.results34, go_sem, r_0, r_1, r_2, r_3, r_4, r_5, r_6, r_7, hRlt, hn0]) rfl ?_
          have hfin := fin_st (w := w) (onlyD_own (S.fund - 10) HO5.out) hlt3 HBW.out
          exact ⟨N0, n0, N1, n1, N2, n2, N3, n3, N4, n4, none, 0, none, 0, gs, rfl, (hfin _ _ _ _ _ _ _ _).1, (hfin _ _ _ _ _ _ _ _).2⟩
    · have hn2 : (0 : Int) < (S.ds.length : Int) := by omega
      obtain ⟨u1, u2⟩ := chg_no (S := S) (kd := kd) (a := ka) (b := kb) (.inr (.inl hn0))
      have hu : S = E := by rw [← HE.out]; exact u1.symm
      have hv : false = bb := by rw [← HBB.out]; exact u2.symm
      subst hu
      subst hv
      have HF := HS3
      clear HS3 HE HBB u1 u2 hr
      obtain ⟨_, _, hR, hZ, hZl, _, _⟩ := HF.out
      obtain ⟨z_0, z_1, z_2, z_3, z_4, z_5, z_6, z_7⟩ := hZ.c8
      obtain ⟨r_0, r_1, r_2, r_3, r_4, r_5, r_6, r_7, r_f0, r_f1, r_f2, r_f3, r_f4, r_f5, r_f6, r_f7⟩ := hR.b8
      have hRlt := hR.lt
      have hZlt := hZ.lt
      have HFF := Lib.hid (fun u0 u1 u2 u3 u4 u5 u6 u7 => HF.out.fin u0 u1 u2 u3 u4 u5 u6 u7)
      clear hR hZ HF
      go_wp2
      exact bodyPost_ret (v := .tuple #[.agg #[.slice A0 S.D.fn.length a0, .slice A1 S.D.fl.length a1, .slice A2 S.D.nn.length a2, .slice A3 S.D.nl.length a3, .slice A4 S.D.ss.length a4, .slice A5 S.cs.length a5, .slice A6 S.ds.length a6, .int .i64 S.fund], .bool false]) (by simp [results, Tryz.results34, go_sem, r_0, r_1, r_2, r_3, r_4, r_5, r_6, r_7, hRlt, hn2]) rfl ⟨_, _, _, _, _, _, _, _, _, _, _, _, _, _, fs, rfl, (HFF.out _ _ _ _ _ _ _ _).1, (HFF.out _ _ _ _ _ _ _ _).2⟩
end Go.Proofs.YtoknmjpnelbplaaGreat
