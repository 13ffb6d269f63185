/-
  A drawn window.
-/
import Derived.Test.YtnpdincjekelaaaDr
import Derived.Test.YtnpdincjekelaaaStepL
import Derived.Deep.RegionHeld3
import Derived.Test.YtnpdincjekelaaaBlk
import Derived.Test.YtnpdincjekelaaaMarkI
import Derived.BigRegion
import Derived.Outline
import Derived.Deep.QuietTactic
import Derived.BigQuiet
import Derived.Test.YtnpdincjekelaaaSmall
import Derived.Deep.RegionWith
import Derived.Test.YtnpdincjekelaaaWinP
import Derived.Test.YtnpdincjekelaaaDropA
import Derived.Test.YtnpdincjekelaaaAddS
import Derived.Test.YtnpdincjekelaaaLast
set_option linter.unusedSimpArgs false
set_option linter.unusedVariables false
namespace Go.Proofs.Ytnpdincjekelaaa
open Go.RowKit

noncomputable def okFrom (nn nl : List Pr) : List Pr → List Pr → List Sp → Bool
  | N, L, [] => sameWB nn nl N L
  | N, L, s :: r => sameWB s.ns s.ls N L && (stepB N L s.k s.a s.b && okFrom nn nl (stepN N L s.k s.a s.b) (stepL N L s.k s.a s.b) r)

noncomputable def okD (D : Dr) : Bool := winB D.fn D.fl && (decide (D.ss.length ≤ 40) && okFrom D.nn D.nl D.fn D.fl D.ss)

/-- In the loop. -/
def DokSt (w : World) (X Y : Nat) (v0 v1 v2 v3 v4 : Value) (D : Dr) (res : Bool) (k : Nat) (wr : World) : Prop :=
  ∃ (N L : List Pr) (un ul : Value), Blk wr X 59 #[v0, v1, v2, v3, v4] ∧ Blk wr Y 27 #[un, ul] ∧ RP wr un N ∧ RP wr ul L ∧ N.length ≤ 12 ∧ L.length ≤ 20 + k ∧
    okFrom D.nn D.nl N L (D.ss.drop k) = res ∧ Below w.heap.size w wr

set_option maxHeartbeats 8000000 in
set_option maxRecDepth 100000 in
theorem sDok_at (v0 v1 v2 v3 v4 : Value) (D : Dr) (res : Bool) (w : World) (h : RD w v0 v1 v2 v3 v4 D) (hx : Hid (okD D = res)) :
    Calls Try.prog 32 #[.agg #[v0, v1, v2, v3, v4]] w fun e w' => e = .returned (.bool res) ∧ Below w.heap.size w w' := by
  obtain ⟨bw, hbw⟩ : ∃ bw, winB D.fn D.fl = bw := ⟨_, rfl⟩
  obtain ⟨A, c, e4, hc, hm, hcell⟩ := h.ss
  unfold maxLen at hm
  subst e4
  obtain ⟨A0, c0, e0, _⟩ := h.fn.form
  obtain ⟨A1, c1, e1, _⟩ := h.fl.form
  subst e0 e1
  have HD := Lib.hid h
  have hrn := h.fn
  have hrl := h.fl
  clear h
  cases bw
  · have er : res = false := by rw [← hx.out]; unfold okD; rw [hbw]; rfl
    subst er
    clear hx hcell
    go_enter Try.func32, Try.ntmps32
    go_wp2_with fail
    refine (sWinOk_at _ _ D.fn D.fl false _ (hrn.below (by (repeat' (first | (with_reducible exact Below.refl _ _) | (with_reducible assumption) | (with_reducible refine Below.drew ?_) | (with_reducible refine below_drewN ?_ _) | (with_reducible refine Below.alloc ?_ ?_ _) | (with_reducible refine Below.setCell ?_ ?_ _) | (with_reducible refine Below.step (by assumption) ?_ ?_))); all_goals (first | omega | (simp; done) | (simp; omega)))) (hrl.below (by (repeat' (first | (with_reducible exact Below.refl _ _) | (with_reducible assumption) | (with_reducible refine Below.drew ?_) | (with_reducible refine below_drewN ?_ _) | (with_reducible refine Below.alloc ?_ ?_ _) | (with_reducible refine Below.setCell ?_ ?_ _) | (with_reducible refine Below.step (by assumption) ?_ ?_))); all_goals (first | omega | (simp; done) | (simp; omega)))) hbw).mono ?_
    rintro e w1 ⟨rfl, hb1⟩; (first | (with_reducible have hcf1 := bcell_drew hb1) | have hcf1 := bcell hb1); obtain ⟨hc1, hf1⟩ := hcf1; have hz1 := hb1.size; (try simp at hz1); (try have hp1_0 : w.heap.size < w1.heap.size := by omega); (try have hp1_1 : w.heap.size + 1 < w1.heap.size := by omega); (try have hp1_2 : w.heap.size + 1 + 1 < w1.heap.size := by omega); (try have hp1_3 : w.heap.size + 1 + 1 + 1 < w1.heap.size := by omega)
    go_wp2
    go_ret
    exact ⟨rfl, by (repeat' (first | (with_reducible exact Below.refl _ _) | (with_reducible assumption) | (with_reducible refine Below.drew ?_) | (with_reducible refine below_drewN ?_ _) | (with_reducible refine Below.alloc ?_ ?_ _) | (with_reducible refine Below.setCell ?_ ?_ _) | (with_reducible refine Below.step (by assumption) ?_ ?_))); all_goals (first | omega | (simp; done) | (simp; omega))⟩
  · have hw12 := (winB_true.1 hbw).2.1
    have hw20 := (winB_true.1 hbw).2.2.1
    by_cases h40 : 40 < D.ss.length
    · have er : res = false := by rw [← hx.out]; unfold okD; rw [hbw, decide_eq_false (by omega)]; rfl
      subst er
      have h40' : (40 : Int) < (D.ss.length : Int) := by omega
      clear hx hcell h40
      go_enter Try.func32, Try.ntmps32
      go_wp2_with fail
      refine (sWinOk_at _ _ D.fn D.fl true _ (hrn.below (by (repeat' (first | (with_reducible exact Below.refl _ _) | (with_reducible assumption) | (with_reducible refine Below.drew ?_) | (with_reducible refine below_drewN ?_ _) | (with_reducible refine Below.alloc ?_ ?_ _) | (with_reducible refine Below.setCell ?_ ?_ _) | (with_reducible refine Below.step (by assumption) ?_ ?_))); all_goals (first | omega | (simp; done) | (simp; omega)))) (hrl.below (by (repeat' (first | (with_reducible exact Below.refl _ _) | (with_reducible assumption) | (with_reducible refine Below.drew ?_) | (with_reducible refine below_drewN ?_ _) | (with_reducible refine Below.alloc ?_ ?_ _) | (with_reducible refine Below.setCell ?_ ?_ _) | (with_reducible refine Below.step (by assumption) ?_ ?_))); all_goals (first | omega | (simp; done) | (simp; omega)))) hbw).mono ?_
      rintro e w1 ⟨rfl, hb1⟩
      have hz1 := hb1.size
      have hV1 : Blk w1 w.heap.size 59 #[.slice A0 D.fn.length c0, .slice A1 D.fl.length c1, v2, v3, .slice A D.ss.length c] := Blk.below (Blk.newAt rfl) hb1 (by first | omega | (simp; done) | (simp; omega))
      have hbw1 : Below w.heap.size w w1 := by (repeat' (first | (with_reducible exact Below.refl _ _) | (with_reducible assumption) | (with_reducible refine Below.drew ?_) | (with_reducible refine below_drewN ?_ _) | (with_reducible refine Below.alloc ?_ ?_ _) | (with_reducible refine Below.setCell ?_ ?_ _) | (with_reducible refine Below.step (by assumption) ?_ ?_))); all_goals (first | omega | (simp; done) | (simp; omega))
      clear hb1
      (have a_0 := hV1.cell 0); (have a_1 := hV1.cell 1); (have a_2 := hV1.cell 2); (have a_3 := hV1.cell 3); (have a_4 := hV1.cell 4); simp only [List.getElem?_toArray, List.getElem?_cons_succ, List.getElem?_cons_zero] at a_0 a_1 a_2 a_3 a_4
      go_wp2
      go_ret
      exact ⟨rfl, by (repeat' (first | (with_reducible exact Below.refl _ _) | (with_reducible assumption) | (with_reducible refine Below.drew ?_) | (with_reducible refine below_drewN ?_ _) | (with_reducible refine Below.alloc ?_ ?_ _) | (with_reducible refine Below.setCell ?_ ?_ _) | (with_reducible refine Below.step (by assumption) ?_ ?_))); all_goals (first | omega | (simp; done) | (simp; omega))⟩
    · have er : okFrom D.nn D.nl D.fn D.fl D.ss = res := by rw [← hx.out]; unfold okD; rw [hbw, decide_eq_true (by omega)]; rfl
      have HR := Lib.hid er
      have h40' : ¬ (40 : Int) < (D.ss.length : Int) := by omega
      clear hx er
      go_enter Try.func32, Try.ntmps32
      go_wp2_with fail
      refine (sWinOk_at _ _ D.fn D.fl true _ (hrn.below (by (repeat' (first | (with_reducible exact Below.refl _ _) | (with_reducible assumption) | (with_reducible refine Below.drew ?_) | (with_reducible refine below_drewN ?_ _) | (with_reducible refine Below.alloc ?_ ?_ _) | (with_reducible refine Below.setCell ?_ ?_ _) | (with_reducible refine Below.step (by assumption) ?_ ?_))); all_goals (first | omega | (simp; done) | (simp; omega)))) (hrl.below (by (repeat' (first | (with_reducible exact Below.refl _ _) | (with_reducible assumption) | (with_reducible refine Below.drew ?_) | (with_reducible refine below_drewN ?_ _) | (with_reducible refine Below.alloc ?_ ?_ _) | (with_reducible refine Below.setCell ?_ ?_ _) | (with_reducible refine Below.step (by assumption) ?_ ?_))); all_goals (first | omega | (simp; done) | (simp; omega)))) hbw).mono ?_
      rintro e w1 ⟨rfl, hb1⟩
      have hz1 := hb1.size
      simp at hz1
      have hV1 : Blk w1 w.heap.size 59 #[.slice A0 D.fn.length c0, .slice A1 D.fl.length c1, v2, v3, .slice A D.ss.length c] := Blk.below (Blk.newAt rfl) hb1 (by first | omega | (simp; done) | (simp; omega))
      have hbw1 : Below w.heap.size w w1 := by (repeat' (first | (with_reducible exact Below.refl _ _) | (with_reducible assumption) | (with_reducible refine Below.drew ?_) | (with_reducible refine below_drewN ?_ _) | (with_reducible refine Below.alloc ?_ ?_ _) | (with_reducible refine Below.setCell ?_ ?_ _) | (with_reducible refine Below.step (by assumption) ?_ ?_))); all_goals (first | omega | (simp; done) | (simp; omega))
      clear hb1 hbw
      (have a_0 := hV1.cell 0); (have a_1 := hV1.cell 1); (have a_2 := hV1.cell 2); (have a_3 := hV1.cell 3); (have a_4 := hV1.cell 4); simp only [List.getElem?_toArray, List.getElem?_cons_succ, List.getElem?_cons_zero] at a_0 a_1 a_2 a_3 a_4
      have e0 : w.heap.size < w1.heap.size := by omega
      go_wp2_with fail
      obtain ⟨u1, hu1⟩ : ∃ u1, u1 = w1.alloc (.cells #[.slice A0 D.fn.length c0, .slice A1 D.fl.length c1] 27) := ⟨_, rfl⟩
      rw [← hu1]
      have HS : Hid (DokSt w w.heap.size w1.heap.size (.slice A0 D.fn.length c0) (.slice A1 D.fl.length c1) v2 v3 (.slice A D.ss.length c) D res 0 u1) := Lib.hid ⟨D.fn, D.fl, .slice A0 D.fn.length c0, .slice A1 D.fl.length c1, hu1 ▸ hV1.alloc _, hu1 ▸ Blk.newAt rfl, hu1 ▸ hrn.below (hbw1.alloc (by omega) _), hu1 ▸ hrl.below (hbw1.alloc (by omega) _), hw12, by omega, HR.out, hu1 ▸ hbw1.alloc (by omega) _⟩
      have hY : w.heap.size < w1.heap.size := e0
      generalize w1.heap.size = Y at *
      clear hu1 hbw1 hV1 a_0 a_1 a_2 a_3 a_4 hz1 e0 HR
      go_loopw [4] (fun i wr => ∃ k : Nat, k ≤ D.ss.length ∧ i = .int .i64 k ∧ Hid (DokSt w w.heap.size Y (.slice A0 D.fn.length c0) (.slice A1 D.fl.length c1) v2 v3 (.slice A D.ss.length c) D res k wr)) (fun i _ => D.ss.length - (intOf i).toNat)
      case atStart => exact ⟨0, Nat.zero_le _, rfl, HS⟩
      case round =>
        obtain ⟨k, hk, rfl, HT⟩ := hrel
        clear HS
        obtain ⟨N, L, un, ul, hbx, hby, hun, hul, hN, hL, hres, hbl⟩ := HT.out
        have hsz := hbl.size
        have hRD := Lib.hid (HD.out.below hbl)
        (have x_0 := hbx.cell 0); (have x_1 := hbx.cell 1); (have x_2 := hbx.cell 2); (have x_3 := hbx.cell 3); (have x_4 := hbx.cell 4); simp only [List.getElem?_toArray, List.getElem?_cons_succ, List.getElem?_cons_zero] at x_0 x_1 x_2 x_3 x_4
        (have y_0 := hby.cell 0); (have y_1 := hby.cell 1); simp only [List.getElem?_toArray, List.getElem?_cons_succ, List.getElem?_cons_zero] at y_0 y_1
        by_cases hlt : k < D.ss.length
        · obtain ⟨b, off, rfl, hb, hcl⟩ := hcell (by omega)
          obtain ⟨k0, k1, k2, vn, vl, k3, k4, hn, hl⟩ := hcl k hlt
          have q0 := (hbl.cell (p := ⟨b, off + k * 5, none⟩) hb).trans k0
          have q1 := (hbl.cell (p := ⟨b, off + k * 5 + 1, none⟩) hb).trans k1
          have q2 := (hbl.cell (p := ⟨b, off + k * 5 + 2, none⟩) hb).trans k2
          have q3 := (hbl.cell (p := ⟨b, off + k * 5 + 3, none⟩) hb).trans k3
          have q4 := (hbl.cell (p := ⟨b, off + k * 5 + 4, none⟩) hb).trans k4
          obtain ⟨Av, cv, ev, _⟩ := hn.form
          obtain ⟨Au, cu, eu, _⟩ := hl.form
          subst ev eu
          have hn' := Lib.hid (hn.below hbl)
          have hl' := Lib.hid (hl.below hbl)
          rw [List.drop_eq_getElem_cons hlt] at hres
          unfold okFrom at hres
          obtain ⟨sw, hsw⟩ : ∃ sw, sameWB D.ss[k].ns D.ss[k].ls N L = sw := ⟨_, rfl⟩
          have HSW := Lib.hid hsw
          rw [hsw] at hres
          have HRES := Lib.hid hres
          generalize D.ss[k] = s at *
          clear k0 k1 k2 k3 k4 hcl hcell hn hl HT hsw hres
          have hunH := Lib.hid hun
          have hulH := Lib.hid hul
          have HXB := Lib.hid hbx
          have HYB := Lib.hid hby
          have hylt := hby.lt
          clear hun hul hbx hby
          go_wp2_with fail
          obtain ⟨w2, hw2⟩ : ∃ w2, w2 = wr.alloc (.cells #[.int .i64 s.k, .int .i64 s.a, .int .i64 s.b, .slice Av s.ns.length cv, .slice Au s.ls.length cu] 94) := ⟨_, rfl⟩
          rw [← hw2]
          have hbw2 : Below w.heap.size w w2 := hw2 ▸ hbl.alloc hsz _
          have hbr2 : Below wr.heap.size wr w2 := hw2 ▸ (Below.refl _ _).alloc (Nat.le_refl _) _
          have hZ : Blk w2 wr.heap.size 94 #[.int .i64 s.k, .int .i64 s.a, .int .i64 s.b, .slice Av s.ns.length cv, .slice Au s.ls.length cu] := hw2 ▸ Blk.newAt rfl
          have hX2 := HXB.out.below hbr2 HXB.out.lt
          have hY2 := HYB.out.below hbr2 hylt
          clear hw2 q0 q1 q2 q3 q4 x_0 x_1 x_2 x_3 x_4 y_0 y_1
          refine (sSameWindow_at _ _ _ _ s.ns s.ls N L sw _ (hn'.out.below hbr2) (hl'.out.below hbr2) (hunH.out.below hbr2) (hulH.out.below hbr2) HSW).mono ?_
          rintro e w3 ⟨rfl, hb3⟩
          have hbw3 : Below w.heap.size w w3 := hbw2.trans (hb3.mono hbw2.size)
          have hX3 := hX2.below hb3 hX2.lt
          have hY3 := hY2.below hb3 hY2.lt
          have hZ3 := hZ.below hb3 hZ.lt
          have hbr3 : Below wr.heap.size wr w3 := hbr2.trans (hb3.mono hbr2.size)
          have hun3 := hunH.out.below hbr3
          have hul3 := hulH.out.below hbr3
          clear hb3 hbw2 hX2 hY2 hZ hbr2 hbr3 hn' hl' hunH hulH HXB HYB
          generalize wr.heap.size = Z at *
          cases sw
          · have er : res = false := HRES.out.symm
            subst er
            go_wp2
            go_ret
            exact ⟨rfl, hbw3⟩
          · have hres2 : (stepB N L s.k s.a s.b && okFrom D.nn D.nl (stepN N L s.k s.a s.b) (stepL N L s.k s.a s.b) (D.ss.drop (k + 1))) = res := HRES.out
            obtain ⟨N', hN'⟩ : ∃ N', stepN N L s.k s.a s.b = N' := ⟨_, rfl⟩
            obtain ⟨L', hL'⟩ : ∃ L', stepL N L s.k s.a s.b = L' := ⟨_, rfl⟩
            obtain ⟨bb, hbb⟩ : ∃ bb, stepB N L s.k s.a s.b = bb := ⟨_, rfl⟩
            obtain ⟨l1, l2⟩ := step_len N L s.k s.a s.b
            rw [hN', hL', hbb] at hres2
            rw [hN'] at l1
            rw [hL'] at l2
            have H1 := Lib.hid hN'
            have H2 := Lib.hid hL'
            have H3 := Lib.hid hbb
            have HR2 := Lib.hid hres2
            clear hN' hL' hbb hres2 HRES HSW
            (have z_0 := hZ3.cell 0); (have z_1 := hZ3.cell 1); (have z_2 := hZ3.cell 2); (have z_3 := hZ3.cell 3); (have z_4 := hZ3.cell 4); simp only [List.getElem?_toArray, List.getElem?_cons_succ, List.getElem?_cons_zero] at z_0 z_1 z_2 z_3 z_4
            (have y_0 := hY3.cell 0); (have y_1 := hY3.cell 1); simp only [List.getElem?_toArray, List.getElem?_cons_succ, List.getElem?_cons_zero] at y_0 y_1
            go_wp2_with fail
            refine (sStep_at _ _ N L N' L' s.k s.a s.b bb _ hun3 hul3 (by omega) (by omega) H1 H2 H3).mono ?_
            rintro e w4 ⟨An, cn, Al, cl, rfl, ho4, hb4⟩
            have hbw4 : Below w.heap.size w w4 := hbw3.trans (hb4.mono hbw3.size)
            have HX4 := Lib.hid (hX3.below hb4 hX3.lt)
            have hY4 := hY3.below hb4 hY3.lt
            have hY3l := hY3.lt
            have ho5 := Lib.hid (((ho4.setLow (p := ⟨Y, 0, none⟩) hY3l (.slice An N'.length cn)).setLow (p := ⟨Y, 1, none⟩) hY3l (.slice Al L'.length cl)).alloc' (.cells #[.slice An N'.length cn, .slice Al L'.length cl] 27))
            clear hb4 hX3 hY3 hZ3 ho4 hbw3 z_0 z_1 z_2 z_3 z_4 y_0 y_1 hun3 hul3 H1 H2 H3
            have e4 : Y < w4.heap.size := hY4.lt
            cases bb
            · have er : res = false := HR2.out.symm
              subst er
              go_wp2
              go_ret
              exact ⟨rfl, by (repeat' (first | (with_reducible exact Below.refl _ _) | (with_reducible assumption) | (with_reducible refine Below.drew ?_) | (with_reducible refine below_drewN ?_ _) | (with_reducible refine Below.alloc ?_ ?_ _) | (with_reducible refine Below.setCell ?_ ?_ _) | (with_reducible refine Below.step (by assumption) ?_ ?_))); all_goals (first | omega | (simp; done) | (simp; omega))⟩
            · have HR3 : Hid (okFrom D.nn D.nl N' L' (D.ss.drop (k + 1)) = res) := Lib.hid HR2.out
              have HFIN : Hid (DokSt w w.heap.size Y (.slice A0 D.fn.length c0) (.slice A1 D.fl.length c1) v2 v3 (.slice (some ⟨b, off, none⟩) D.ss.length c) D res (k + 1) (((w4.setCell ⟨Y, 0, none⟩ (.slice An N'.length cn)).setCell ⟨Y, 1, none⟩ (.slice Al L'.length cl)).alloc (.cells #[.slice An N'.length cn, .slice Al L'.length cl] 27))) := by
                have hY5 := ((hY4.set_ 0 (.slice An N'.length cn)).set_ 1 (.slice Al L'.length cl)).alloc (.cells #[.slice An N'.length cn, .slice Al L'.length cl] 27)
                have hX5 := ((HX4.out.far (p := ⟨Y, 0, none⟩) (by show _ ≠ Y; omega) (.slice An N'.length cn)).far (p := ⟨Y, 1, none⟩) (by show _ ≠ Y; omega) (.slice Al L'.length cl)).alloc (.cells #[.slice An N'.length cn, .slice Al L'.length cl] 27)
                exact Lib.hid ⟨N', L', _, _, hX5, hY5, ho5.out.1.reads, ho5.out.2.1.reads, by omega, by omega, HR3.out, by (repeat' (first | (with_reducible exact Below.refl _ _) | (with_reducible assumption) | (with_reducible refine Below.drew ?_) | (with_reducible refine below_drewN ?_ _) | (with_reducible refine Below.alloc ?_ ?_ _) | (with_reducible refine Below.setCell ?_ ?_ _) | (with_reducible refine Below.step (by assumption) ?_ ?_))); all_goals (first | omega | (simp; done) | (simp; omega))⟩
              (have y_0 := hY4.cell 0); (have y_1 := hY4.cell 1); simp only [List.getElem?_toArray, List.getElem?_cons_succ, List.getElem?_cons_zero] at y_0 y_1; (have y_f0 := hY4.frozen 0); (have y_f1 := hY4.frozen 1)
              go_wp2
              go_roundw
              case rel => exact ⟨k + 1, by omega, by go_num, HFIN⟩
              case measure => simp [intOf]; omega
        · have hkk : k = D.ss.length := by omega
          subst hkk
          rw [List.drop_length] at hres
          unfold okFrom at hres
          have HRES := Lib.hid hres
          have hnn := hRD.out.nn
          have hnl := hRD.out.nl
          clear hres HT hcell
          go_wp2_with fail
          refine (sSameWindow_at _ _ _ _ D.nn D.nl N L res _ hnn hnl hun hul HRES).mono ?_
          rintro e w3 ⟨rfl, hb3⟩
          have hbw3 : Below w.heap.size w w3 := hbl.trans (hb3.mono hsz)
          clear hb3
          go_wp2
          go_ret
          exact ⟨rfl, hbw3⟩

set_option maxHeartbeats 8000000 in
set_option maxRecDepth 100000 in
theorem iDok_at (v0 v1 v2 v3 v4 : Value) (D : Dr) (res : Bool) (w : World) (h : RD w v0 v1 v2 v3 v4 D) (hx : Hid (okD D = res)) :
    Calls Try.prog 34 #[.agg #[v0, v1, v2, v3, v4]] w fun e w' => e = .returned (.bool res) ∧ Below w.heap.size w w' := by
  obtain ⟨bw, hbw⟩ : ∃ bw, winB D.fn D.fl = bw := ⟨_, rfl⟩
  obtain ⟨A, c, e4, hc, hm, hcell⟩ := h.ss
  unfold maxLen at hm
  subst e4
  obtain ⟨A0, c0, e0, _⟩ := h.fn.form
  obtain ⟨A1, c1, e1, _⟩ := h.fl.form
  subst e0 e1
  have HD := Lib.hid h
  have hrn := h.fn
  have hrl := h.fl
  clear h
  cases bw
  · have er : res = false := by rw [← hx.out]; unfold okD; rw [hbw]; rfl
    subst er
    clear hx hcell
    go_enter Try.func34, Try.ntmps34
    go_wp2_with fail
    refine (iWinOk_at _ _ D.fn D.fl false _ (hrn.below (by (repeat' (first | (with_reducible exact Below.refl _ _) | (with_reducible assumption) | (with_reducible refine Below.drew ?_) | (with_reducible refine below_drewN ?_ _) | (with_reducible refine Below.alloc ?_ ?_ _) | (with_reducible refine Below.setCell ?_ ?_ _) | (with_reducible refine Below.step (by assumption) ?_ ?_))); all_goals (first | omega | (simp; done) | (simp; omega)))) (hrl.below (by (repeat' (first | (with_reducible exact Below.refl _ _) | (with_reducible assumption) | (with_reducible refine Below.drew ?_) | (with_reducible refine below_drewN ?_ _) | (with_reducible refine Below.alloc ?_ ?_ _) | (with_reducible refine Below.setCell ?_ ?_ _) | (with_reducible refine Below.step (by assumption) ?_ ?_))); all_goals (first | omega | (simp; done) | (simp; omega)))) hbw).mono ?_
    rintro e w1 ⟨rfl, hb1⟩; (first | (with_reducible have hcf1 := bcell_drew hb1) | have hcf1 := bcell hb1); obtain ⟨hc1, hf1⟩ := hcf1; have hz1 := hb1.size; (try simp at hz1); (try have hp1_0 : w.heap.size < w1.heap.size := by omega); (try have hp1_1 : w.heap.size + 1 < w1.heap.size := by omega); (try have hp1_2 : w.heap.size + 1 + 1 < w1.heap.size := by omega); (try have hp1_3 : w.heap.size + 1 + 1 + 1 < w1.heap.size := by omega)
    go_wp2
    go_ret
    exact ⟨rfl, by (repeat' (first | (with_reducible exact Below.refl _ _) | (with_reducible assumption) | (with_reducible refine Below.drew ?_) | (with_reducible refine below_drewN ?_ _) | (with_reducible refine Below.alloc ?_ ?_ _) | (with_reducible refine Below.setCell ?_ ?_ _) | (with_reducible refine Below.step (by assumption) ?_ ?_))); all_goals (first | omega | (simp; done) | (simp; omega))⟩
  · have hw12 := (winB_true.1 hbw).2.1
    have hw20 := (winB_true.1 hbw).2.2.1
    by_cases h40 : 40 < D.ss.length
    · have er : res = false := by rw [← hx.out]; unfold okD; rw [hbw, decide_eq_false (by omega)]; rfl
      subst er
      have h40' : (40 : Int) < (D.ss.length : Int) := by omega
      clear hx hcell h40
      go_enter Try.func34, Try.ntmps34
      go_wp2_with fail
      refine (iWinOk_at _ _ D.fn D.fl true _ (hrn.below (by (repeat' (first | (with_reducible exact Below.refl _ _) | (with_reducible assumption) | (with_reducible refine Below.drew ?_) | (with_reducible refine below_drewN ?_ _) | (with_reducible refine Below.alloc ?_ ?_ _) | (with_reducible refine Below.setCell ?_ ?_ _) | (with_reducible refine Below.step (by assumption) ?_ ?_))); all_goals (first | omega | (simp; done) | (simp; omega)))) (hrl.below (by (repeat' (first | (with_reducible exact Below.refl _ _) | (with_reducible assumption) | (with_reducible refine Below.drew ?_) | (with_reducible refine below_drewN ?_ _) | (with_reducible refine Below.alloc ?_ ?_ _) | (with_reducible refine Below.setCell ?_ ?_ _) | (with_reducible refine Below.step (by assumption) ?_ ?_))); all_goals (first | omega | (simp; done) | (simp; omega)))) hbw).mono ?_
      rintro e w1 ⟨rfl, hb1⟩
      have hz1 := hb1.size
      have hV1 : Blk w1 w.heap.size 59 #[.slice A0 D.fn.length c0, .slice A1 D.fl.length c1, v2, v3, .slice A D.ss.length c] := Blk.below (Blk.newAt rfl) hb1 (by first | omega | (simp; done) | (simp; omega))
      have hbw1 : Below w.heap.size w w1 := by (repeat' (first | (with_reducible exact Below.refl _ _) | (with_reducible assumption) | (with_reducible refine Below.drew ?_) | (with_reducible refine below_drewN ?_ _) | (with_reducible refine Below.alloc ?_ ?_ _) | (with_reducible refine Below.setCell ?_ ?_ _) | (with_reducible refine Below.step (by assumption) ?_ ?_))); all_goals (first | omega | (simp; done) | (simp; omega))
      clear hb1
      (have a_0 := hV1.cell 0); (have a_1 := hV1.cell 1); (have a_2 := hV1.cell 2); (have a_3 := hV1.cell 3); (have a_4 := hV1.cell 4); simp only [List.getElem?_toArray, List.getElem?_cons_succ, List.getElem?_cons_zero] at a_0 a_1 a_2 a_3 a_4
      go_wp2
      go_ret
      exact ⟨rfl, by (repeat' (first | (with_reducible exact Below.refl _ _) | (with_reducible assumption) | (with_reducible refine Below.drew ?_) | (with_reducible refine below_drewN ?_ _) | (with_reducible refine Below.alloc ?_ ?_ _) | (with_reducible refine Below.setCell ?_ ?_ _) | (with_reducible refine Below.step (by assumption) ?_ ?_))); all_goals (first | omega | (simp; done) | (simp; omega))⟩
    · have er : okFrom D.nn D.nl D.fn D.fl D.ss = res := by rw [← hx.out]; unfold okD; rw [hbw, decide_eq_true (by omega)]; rfl
      have HR := Lib.hid er
      have h40' : ¬ (40 : Int) < (D.ss.length : Int) := by omega
      clear hx er
      go_enter Try.func34, Try.ntmps34
      go_wp2_with fail
      refine (iWinOk_at _ _ D.fn D.fl true _ (hrn.below (by (repeat' (first | (with_reducible exact Below.refl _ _) | (with_reducible assumption) | (with_reducible refine Below.drew ?_) | (with_reducible refine below_drewN ?_ _) | (with_reducible refine Below.alloc ?_ ?_ _) | (with_reducible refine Below.setCell ?_ ?_ _) | (with_reducible refine Below.step (by assumption) ?_ ?_))); all_goals (first | omega | (simp; done) | (simp; omega)))) (hrl.below (by (repeat' (first | (with_reducible exact Below.refl _ _) | (with_reducible assumption) | (with_reducible refine Below.drew ?_) | (with_reducible refine below_drewN ?_ _) | (with_reducible refine Below.alloc ?_ ?_ _) | (with_reducible refine Below.setCell ?_ ?_ _) | (with_reducible refine Below.step (by assumption) ?_ ?_))); all_goals (first | omega | (simp; done) | (simp; omega)))) hbw).mono ?_
      rintro e w1 ⟨rfl, hb1⟩
      have hz1 := hb1.size
      simp at hz1
      have hV1 : Blk w1 w.heap.size 59 #[.slice A0 D.fn.length c0, .slice A1 D.fl.length c1, v2, v3, .slice A D.ss.length c] := Blk.below (Blk.newAt rfl) hb1 (by first | omega | (simp; done) | (simp; omega))
      have hbw1 : Below w.heap.size w w1 := by (repeat' (first | (with_reducible exact Below.refl _ _) | (with_reducible assumption) | (with_reducible refine Below.drew ?_) | (with_reducible refine below_drewN ?_ _) | (with_reducible refine Below.alloc ?_ ?_ _) | (with_reducible refine Below.setCell ?_ ?_ _) | (with_reducible refine Below.step (by assumption) ?_ ?_))); all_goals (first | omega | (simp; done) | (simp; omega))
      clear hb1 hbw
      (have a_0 := hV1.cell 0); (have a_1 := hV1.cell 1); (have a_2 := hV1.cell 2); (have a_3 := hV1.cell 3); (have a_4 := hV1.cell 4); simp only [List.getElem?_toArray, List.getElem?_cons_succ, List.getElem?_cons_zero] at a_0 a_1 a_2 a_3 a_4
      have e0 : w.heap.size < w1.heap.size := by omega
      go_wp2_with fail
      obtain ⟨u1, hu1⟩ : ∃ u1, u1 = w1.alloc (.cells #[.slice A0 D.fn.length c0, .slice A1 D.fl.length c1] 27) := ⟨_, rfl⟩
      rw [← hu1]
      have HS : Hid (DokSt w w.heap.size w1.heap.size (.slice A0 D.fn.length c0) (.slice A1 D.fl.length c1) v2 v3 (.slice A D.ss.length c) D res 0 u1) := Lib.hid ⟨D.fn, D.fl, .slice A0 D.fn.length c0, .slice A1 D.fl.length c1, hu1 ▸ hV1.alloc _, hu1 ▸ Blk.newAt rfl, hu1 ▸ hrn.below (hbw1.alloc (by omega) _), hu1 ▸ hrl.below (hbw1.alloc (by omega) _), hw12, by omega, HR.out, hu1 ▸ hbw1.alloc (by omega) _⟩
      have hY : w.heap.size < w1.heap.size := e0
      generalize w1.heap.size = Y at *
      clear hu1 hbw1 hV1 a_0 a_1 a_2 a_3 a_4 hz1 e0 HR
      go_loopw [23] (fun i wr => ∃ k : Nat, k ≤ D.ss.length ∧ i = .int .i64 k ∧ Hid (DokSt w w.heap.size Y (.slice A0 D.fn.length c0) (.slice A1 D.fl.length c1) v2 v3 (.slice A D.ss.length c) D res k wr)) (fun i _ => D.ss.length - (intOf i).toNat)
      case atStart => exact ⟨0, Nat.zero_le _, rfl, HS⟩
      case round =>
        obtain ⟨k, hk, rfl, HT⟩ := hrel
        clear HS
        obtain ⟨N, L, un, ul, hbx, hby, hun, hul, hN, hL, hres, hbl⟩ := HT.out
        have hsz := hbl.size
        have hRD := Lib.hid (HD.out.below hbl)
        (have x_0 := hbx.cell 0); (have x_1 := hbx.cell 1); (have x_2 := hbx.cell 2); (have x_3 := hbx.cell 3); (have x_4 := hbx.cell 4); simp only [List.getElem?_toArray, List.getElem?_cons_succ, List.getElem?_cons_zero] at x_0 x_1 x_2 x_3 x_4
        (have y_0 := hby.cell 0); (have y_1 := hby.cell 1); simp only [List.getElem?_toArray, List.getElem?_cons_succ, List.getElem?_cons_zero] at y_0 y_1
        by_cases hlt : k < D.ss.length
        · obtain ⟨b, off, rfl, hb, hcl⟩ := hcell (by omega)
          obtain ⟨k0, k1, k2, vn, vl, k3, k4, hn, hl⟩ := hcl k hlt
          have q0 := (hbl.cell (p := ⟨b, off + k * 5, none⟩) hb).trans k0
          have q1 := (hbl.cell (p := ⟨b, off + k * 5 + 1, none⟩) hb).trans k1
          have q2 := (hbl.cell (p := ⟨b, off + k * 5 + 2, none⟩) hb).trans k2
          have q3 := (hbl.cell (p := ⟨b, off + k * 5 + 3, none⟩) hb).trans k3
          have q4 := (hbl.cell (p := ⟨b, off + k * 5 + 4, none⟩) hb).trans k4
          obtain ⟨Av, cv, ev, _⟩ := hn.form
          obtain ⟨Au, cu, eu, _⟩ := hl.form
          subst ev eu
          have hn' := Lib.hid (hn.below hbl)
          have hl' := Lib.hid (hl.below hbl)
          rw [List.drop_eq_getElem_cons hlt] at hres
          unfold okFrom at hres
          obtain ⟨sw, hsw⟩ : ∃ sw, sameWB D.ss[k].ns D.ss[k].ls N L = sw := ⟨_, rfl⟩
          have HSW := Lib.hid hsw
          rw [hsw] at hres
          have HRES := Lib.hid hres
          generalize D.ss[k] = s at *
          clear k0 k1 k2 k3 k4 hcl hcell hn hl HT hsw hres
          have hunH := Lib.hid hun
          have hulH := Lib.hid hul
          have HXB := Lib.hid hbx
          have HYB := Lib.hid hby
          have hylt := hby.lt
          clear hun hul hbx hby
          go_wp2_with fail
          obtain ⟨w2, hw2⟩ : ∃ w2, w2 = wr.alloc (.cells #[.int .i64 s.k, .int .i64 s.a, .int .i64 s.b, .slice Av s.ns.length cv, .slice Au s.ls.length cu] 94) := ⟨_, rfl⟩
          rw [← hw2]
          have hbw2 : Below w.heap.size w w2 := hw2 ▸ hbl.alloc hsz _
          have hbr2 : Below wr.heap.size wr w2 := hw2 ▸ (Below.refl _ _).alloc (Nat.le_refl _) _
          have hZ : Blk w2 wr.heap.size 94 #[.int .i64 s.k, .int .i64 s.a, .int .i64 s.b, .slice Av s.ns.length cv, .slice Au s.ls.length cu] := hw2 ▸ Blk.newAt rfl
          have hX2 := HXB.out.below hbr2 HXB.out.lt
          have hY2 := HYB.out.below hbr2 hylt
          clear hw2 q0 q1 q2 q3 q4 x_0 x_1 x_2 x_3 x_4 y_0 y_1
          refine (iSameWindow_at _ _ _ _ s.ns s.ls N L sw _ (hn'.out.below hbr2) (hl'.out.below hbr2) (hunH.out.below hbr2) (hulH.out.below hbr2) HSW).mono ?_
          rintro e w3 ⟨rfl, hb3⟩
          have hbw3 : Below w.heap.size w w3 := hbw2.trans (hb3.mono hbw2.size)
          have hX3 := hX2.below hb3 hX2.lt
          have hY3 := hY2.below hb3 hY2.lt
          have hZ3 := hZ.below hb3 hZ.lt
          have hbr3 : Below wr.heap.size wr w3 := hbr2.trans (hb3.mono hbr2.size)
          have hun3 := hunH.out.below hbr3
          have hul3 := hulH.out.below hbr3
          clear hb3 hbw2 hX2 hY2 hZ hbr2 hbr3 hn' hl' hunH hulH HXB HYB
          generalize wr.heap.size = Z at *
          cases sw
          · have er : res = false := HRES.out.symm
            subst er
            go_wp2
            go_ret
            exact ⟨rfl, hbw3⟩
          · have hres2 : (stepB N L s.k s.a s.b && okFrom D.nn D.nl (stepN N L s.k s.a s.b) (stepL N L s.k s.a s.b) (D.ss.drop (k + 1))) = res := HRES.out
            obtain ⟨N', hN'⟩ : ∃ N', stepN N L s.k s.a s.b = N' := ⟨_, rfl⟩
            obtain ⟨L', hL'⟩ : ∃ L', stepL N L s.k s.a s.b = L' := ⟨_, rfl⟩
            obtain ⟨bb, hbb⟩ : ∃ bb, stepB N L s.k s.a s.b = bb := ⟨_, rfl⟩
            obtain ⟨l1, l2⟩ := step_len N L s.k s.a s.b
            rw [hN', hL', hbb] at hres2
            rw [hN'] at l1
            rw [hL'] at l2
            have H1 := Lib.hid hN'
            have H2 := Lib.hid hL'
            have H3 := Lib.hid hbb
            have HR2 := Lib.hid hres2
            clear hN' hL' hbb hres2 HRES HSW
            (have z_0 := hZ3.cell 0); (have z_1 := hZ3.cell 1); (have z_2 := hZ3.cell 2); (have z_3 := hZ3.cell 3); (have z_4 := hZ3.cell 4); simp only [List.getElem?_toArray, List.getElem?_cons_succ, List.getElem?_cons_zero] at z_0 z_1 z_2 z_3 z_4
            (have y_0 := hY3.cell 0); (have y_1 := hY3.cell 1); simp only [List.getElem?_toArray, List.getElem?_cons_succ, List.getElem?_cons_zero] at y_0 y_1
            go_wp2_with fail
            refine (iStep_at _ _ N L N' L' s.k s.a s.b bb _ hun3 hul3 (by omega) (by omega) H1 H2 H3).mono ?_
            rintro e w4 ⟨An, cn, Al, cl, rfl, ho4, hb4⟩
            have hbw4 : Below w.heap.size w w4 := hbw3.trans (hb4.mono hbw3.size)
            have HX4 := Lib.hid (hX3.below hb4 hX3.lt)
            have hY4 := hY3.below hb4 hY3.lt
            have hY3l := hY3.lt
            have ho5 := Lib.hid (((ho4.setLow (p := ⟨Y, 0, none⟩) hY3l (.slice An N'.length cn)).setLow (p := ⟨Y, 1, none⟩) hY3l (.slice Al L'.length cl)).alloc' (.cells #[.slice An N'.length cn, .slice Al L'.length cl] 27))
            clear hb4 hX3 hY3 hZ3 ho4 hbw3 z_0 z_1 z_2 z_3 z_4 y_0 y_1 hun3 hul3 H1 H2 H3
            have e4 : Y < w4.heap.size := hY4.lt
            cases bb
            · have er : res = false := HR2.out.symm
              subst er
              go_wp2
              go_ret
              exact ⟨rfl, by (repeat' (first | (with_reducible exact Below.refl _ _) | (with_reducible assumption) | (with_reducible refine Below.drew ?_) | (with_reducible refine below_drewN ?_ _) | (with_reducible refine Below.alloc ?_ ?_ _) | (with_reducible refine Below.setCell ?_ ?_ _) | (with_reducible refine Below.step (by assumption) ?_ ?_))); all_goals (first | omega | (simp; done) | (simp; omega))⟩
            · have HR3 : Hid (okFrom D.nn D.nl N' L' (D.ss.drop (k + 1)) = res) := Lib.hid HR2.out
              have HFIN : Hid (DokSt w w.heap.size Y (.slice A0 D.fn.length c0) (.slice A1 D.fl.length c1) v2 v3 (.slice (some ⟨b, off, none⟩) D.ss.length c) D res (k + 1) (((w4.setCell ⟨Y, 0, none⟩ (.slice An N'.length cn)).setCell ⟨Y, 1, none⟩ (.slice Al L'.length cl)).alloc (.cells #[.slice An N'.length cn, .slice Al L'.length cl] 27))) := by
                have hY5 := ((hY4.set_ 0 (.slice An N'.length cn)).set_ 1 (.slice Al L'.length cl)).alloc (.cells #[.slice An N'.length cn, .slice Al L'.length cl] 27)
                have hX5 := ((HX4.out.far (p := ⟨Y, 0, none⟩) (by show _ ≠ Y; omega) (.slice An N'.length cn)).far (p := ⟨Y, 1, none⟩) (by show _ ≠ Y; omega) (.slice Al L'.length cl)).alloc (.cells #[.slice An N'.length cn, .slice Al L'.length cl] 27)
                exact Lib.hid ⟨N', L', _, _, hX5, hY5, ho5.out.1.reads, ho5.out.2.1.reads, by omega, by omega, HR3.out, by (repeat' (first | (with_reducible exact Below.refl _ _) | (with_reducible assumption) | (with_reducible refine Below.drew ?_) | (with_reducible refine below_drewN ?_ _) | (with_reducible refine Below.alloc ?_ ?_ _) | (with_reducible refine Below.setCell ?_ ?_ _) | (with_reducible refine Below.step (by assumption) ?_ ?_))); all_goals (first | omega | (simp; done) | (simp; omega))⟩
              (have y_0 := hY4.cell 0); (have y_1 := hY4.cell 1); simp only [List.getElem?_toArray, List.getElem?_cons_succ, List.getElem?_cons_zero] at y_0 y_1; (have y_f0 := hY4.frozen 0); (have y_f1 := hY4.frozen 1)
              go_wp2
              go_roundw
              case rel => exact ⟨k + 1, by omega, by go_num, HFIN⟩
              case measure => simp [intOf]; omega
        · have hkk : k = D.ss.length := by omega
          subst hkk
          rw [List.drop_length] at hres
          unfold okFrom at hres
          have HRES := Lib.hid hres
          have hnn := hRD.out.nn
          have hnl := hRD.out.nl
          clear hres HT hcell
          go_wp2_with fail
          refine (iSameWindow_at _ _ _ _ D.nn D.nl N L res _ hnn hnl hun hul HRES).mono ?_
          rintro e w3 ⟨rfl, hb3⟩
          have hbw3 : Below w.heap.size w w3 := hbl.trans (hb3.mono hsz)
          clear hb3
          go_wp2
          go_ret
          exact ⟨rfl, hbw3⟩

end Go.Proofs.Ytnpdincjekelaaa

namespace Go.Proofs.Ytnpdincjekelaaa
open Go.RowKit

theorem sfc_one (f : SF) (A0 A1 : Option Addr) (n0 c0 n1 c1 : Nat) (h0 : f.2.1 = .slice A0 n0 c0) (h1 : f.2.2 = .slice A1 n1 c1) : ∀ u ∈ sfc f, u.oneCell' = true := by
  intro u hu
  simp only [sfc, List.mem_cons, List.mem_nil_iff, or_false, h0, h1] at hu
  rcases hu with rfl | rfl | rfl | rfl | rfl <;> rfl

/-- append of a step to a row of the call's own, run. -/
theorem run_append_step {P : Program} {w : World} {t ty e : TypeId} {i : TypeInfo} {base : Nat} (ht : P.underlying t = some (.slice e)) (hi : P.info? e = some i) (hz : i.zero = some (.agg #[.int .i64 0, .int .i64 0, .int .i64 0, .slice none 0 0, .slice none 0 0])) (hsize : i.size = 5) (hby : i.bytes = 72)
    {v : Value} {fs : List SF} {f : SF} {a : Addr} {c : Nat} (hown : w.ownsRow base e 5 v fs.length (fs.flatMap sfc)) (hn : ∀ (j : Nat) (u : Value), (sfc f)[j]? = some u → w.cell? (a.add j) = some u) (hone : ∀ u ∈ sfc f, u.oneCell' = true)
    (hlen : fs.length ≤ 1048576) (hbase : base ≤ w.heap.size) :
    ∃ A c' w', (Builtin.append_ #[t, t] ty #[v, .slice (some a) 1 c]).run P w = .ok (.slice A (fs.length + 1) c') w' ∧ w'.ownsRow base e 5 (.slice A (fs.length + 1) c') (fs.length + 1) ((fs ++ [f]).flatMap sfc) ∧ w.grownBy w' v.ownBlock ∧
      ((Value.slice A (fs.length + 1) c').ownBlock = v.ownBlock ∨ (Value.slice A (fs.length + 1) c').ownBlock = some w.heap.size) := by
  obtain ⟨v', w', h1, h2, h3, _, h5⟩ := run_append_own_at (P := P) w base t ty e i _ 5 72 ht hi hz hsize hby rfl (by decide) v fs.length (fs.flatMap sfc) hown a 1 c (sfc f) (by simp [sfc]) hn hone (by unfold maxLen; omega) (by omega) hbase
  have h2' : w'.ownsRow base e 5 v' (fs.length + 1) ((fs ++ [f]).flatMap sfc) := by
    rw [List.flatMap_append]
    simpa using h2
  rcases h2.2 with ⟨_, hz0⟩ | ⟨g, cap, cur, rfl, _⟩
  · omega
  · exact ⟨_, cap, w', h1, h2', h3, h5⟩

theorem wpList_append_step {P : Program} {w : World} {ops : Array Oper} {rest : List Oper} {o : Oper} {a : Act} {Q : Exit → Act → World → Prop} (hgd : o.guard = none) (s x : Operand) (t : TypeId)
    (ho : o.op = .call { callee := .builtin .append, args := #[s, x], argTypes := #[t, t] })
    (base : Nat) (e : TypeId) (i : TypeInfo) (ht : P.underlying t = some (.slice e)) (hi : P.info? e = some i) (hz : i.zero = some (.agg #[.int .i64 0, .int .i64 0, .int .i64 0, .slice none 0 0, .slice none 0 0])) (hsize : i.size = 5) (hby : i.bytes = 72)
    (v : Value) (fs : List SF) (f : SF) (ad : Addr) (c : Nat) (hs : a.eval s = v) (hx : a.eval x = .slice (some ad) 1 c) (hown : w.ownsRow base e 5 v fs.length (fs.flatMap sfc)) (hn : ∀ (j : Nat) (u : Value), (sfc f)[j]? = some u → w.cell? (ad.add j) = some u)
    (hone : ∀ u ∈ sfc f, u.oneCell' = true) (hlen : fs.length ≤ 1048576) (hbase : base ≤ w.heap.size)
    (h : ∀ A c' w', w'.ownsRow base e 5 (.slice A (fs.length + 1) c') (fs.length + 1) ((fs ++ [f]).flatMap sfc) → w.grownBy w' v.ownBlock → ((Value.slice A (fs.length + 1) c').ownBlock = v.ownBlock ∨ (Value.slice A (fs.length + 1) c').ownBlock = some w.heap.size) → wpList P ops Q rest (a.put o.dst (.slice A (fs.length + 1) c')) w') :
    wpList P ops Q (o :: rest) a w :=
  wpList_plain hgd fun K hK => by
    obtain ⟨A, c', w', hrun, h2, h3, h4⟩ := run_append_step (ty := o.type) (c := c) ht hi hz hsize hby hown hn hone hlen hbase
    unfold Oper.wp execOp
    simp only [ho, resolve, invoke, builtin, Sem.run_bind, Sem.run_pure, Result.andThen_ok, List.map_toArray, List.map_cons, List.map_nil, hs, hx, hrun]
    exact hK _ _ (h A c' w' h2 h3 h4)

/-- One step more. -/
theorem OwnT.snoc {base : Nat} {w w' : World} {v v' : Value} {fs : List SF} {f : SF} (h : OwnT base w v fs) (hr : w'.ownsRow base 94 5 v' (fs.length + 1) ((fs ++ [f]).flatMap sfc)) (hg : w.grownBy w' v.ownBlock)
    (hv : v'.ownBlock = v.ownBlock ∨ v'.ownBlock = some w.heap.size) (hf : OwnW base w f.2.1 f.2.2 f.1.ns f.1.ls) (hfr : ∀ b, blksW f.2.1 f.2.2 b → v.ownBlock ≠ some b) (hfw : ∀ j (hj : j < fs.length) b, blksW f.2.1 f.2.2 b → ¬ blksW fs[j].2.1 fs[j].2.2 b) :
    OwnT base w' v' (fs ++ [f]) := by
  have ht : Turns (fun b => v.ownBlock = some b) w w' := Turns.ofGrown hg (fun k hk => hk)
  have hlast : ∀ k (hk : k < (fs ++ [f]).length), k < fs.length ∨ (k = fs.length ∧ (fs ++ [f])[k] = f) := by
    intro k hk
    by_cases hlt : k < fs.length
    · exact .inl hlt
    · have : k = fs.length := by simp at hk; omega
      subst this
      exact .inr ⟨rfl, by simp⟩
  refine ⟨by simpa using hr, fun k hk => ?_, fun k hk b hb => ?_, fun i j hi hj hne b => ?_⟩
  · rcases hlast k hk with hlt | ⟨rfl, e⟩
    · rw [List.getElem_append_left hlt]
      exact (h.win k hlt).turned ht (fun b hb e => h.rw_ k hlt b e hb)
    · rw [e]
      exact hf.turned ht (fun b hb => hfr b hb)
  · rcases hlast k hk with hlt | ⟨rfl, e⟩
    · rw [List.getElem_append_left hlt]
      rcases hv with hv | hv
      · exact h.rw_ k hlt b (hv ▸ hb)
      · intro hb'
        have := ((h.win k hlt).lt b hb').2
        rw [hv] at hb
        cases hb
        omega
    · rw [e]
      rcases hv with hv | hv
      · exact fun hb' => hfr b hb' (hv ▸ hb)
      · intro hb'
        have := (hf.lt b hb').2
        rw [hv] at hb
        cases hb
        omega
  · rcases hlast i hi with h1 | ⟨rfl, e1⟩ <;> rcases hlast j hj with h2 | ⟨rfl, e2⟩
    · rw [List.getElem_append_left h1, List.getElem_append_left h2]
      exact h.ww i j h1 h2 hne b
    · rw [List.getElem_append_left h1, e2]
      exact fun a c => hfw i h1 b c a
    · rw [List.getElem_append_left h2, e1]
      exact hfw j h2 b
    · omega

theorem OwnD.mono {base base' : Nat} {w : World} {a b c d e : Value} {D : Dr} {fs : List SF} (h : OwnD base w a b c d e D fs) (hb : base' ≤ base) : OwnD base' w a b c d e D fs :=
  ⟨h.first.mono hb, h.now.mono hb, h.ss.mono hb, h.map, h.f_n, h.f_s, h.n_s⟩

theorem OwnD.setFar {base : Nat} {w : World} {a b c d e : Value} {D : Dr} {fs : List SF} (h : OwnD base w a b c d e D fs) {p : Addr} (hp : ¬ blksD a b c d e fs p.block) (u : Value) : OwnD base (w.setCell p u) a b c d e D fs :=
  h.turned (S := fun k => k = p.block) (Turns.ofGrown (set_grown w p u) (fun k hk => by cases hk; rfl)) (fun k hk e => hp (e ▸ hk))

theorem lit_step {w : World} {f : SF} {cs : Array Value} {t : TypeId} {g : Nat} (hg : g = w.heap.size) (hcs : cs.toList = sfc f) : ∀ (j : Nat) (u : Value), (sfc f)[j]? = some u → (w.alloc (.cells cs t)).cell? ((⟨g, 0, none⟩ : Addr).add j) = some u := by
  subst hg
  intro j u hu
  rw [← hcs] at hu
  have hu' : cs[j]? = some u := by simpa using hu
  rw [addr_add, Nat.zero_add, cell_of_row _ _ _ cs t (0, 0) (heap_alloc_new w _)]
  exact hu'

theorem blksT_snoc {e e' : Value} {fs : List SF} {f : SF} {n k : Nat} (hv : e'.ownBlock = e.ownBlock ∨ e'.ownBlock = some n) (h : blksT e' (fs ++ [f]) k) : blksT e fs k ∨ k = n ∨ blksW f.2.1 f.2.2 k := by
  rcases h with h | ⟨i, hi, h⟩
  · rcases hv with hv | hv
    · exact .inl (.inl (hv ▸ h))
    · rw [hv] at h; cases h; exact .inr (.inl rfl)
  · by_cases hlt : i < fs.length
    · rw [List.getElem_append_left hlt] at h
      exact .inl (.inr ⟨i, hlt, h⟩)
    · have : i = fs.length := by simp at hi; omega
      subst this
      simp at h
      exact .inr (.inr h)

theorem OwnD.snoc {base : Nat} {w w' : World} {a b c d e e' : Value} {D : Dr} {fs : List SF} {f : SF} (h : OwnD base w a b c d e D fs) (hr : w'.ownsRow base 94 5 e' (fs.length + 1) ((fs ++ [f]).flatMap sfc)) (hg : w.grownBy w' e.ownBlock)
    (hv : e'.ownBlock = e.ownBlock ∨ e'.ownBlock = some w.heap.size) (hf : OwnW base w f.2.1 f.2.2 f.1.ns f.1.ls) (hfr : ∀ k, blksW f.2.1 f.2.2 k → ¬ blksD a b c d e fs k) : OwnD base w' a b c d e' ⟨D.fn, D.fl, D.nn, D.nl, D.ss ++ [f.1]⟩ (fs ++ [f]) := by
  have ht : Turns (fun b => e.ownBlock = some b) w w' := Turns.ofGrown hg (fun k hk => hk)
  refine ⟨h.first.turned ht (fun k hk e1 => h.f_s k hk (.inl e1)), h.now.turned ht (fun k hk e1 => h.n_s k hk (.inl e1)),
    h.ss.snoc hr hg hv hf (fun k hk e1 => hfr k hk (.inr (.inr (.inl e1)))) (fun j hj k hk hk' => hfr k hk (.inr (.inr (.inr ⟨j, hj, hk'⟩)))), by rw [List.map_append, h.map]; rfl, h.f_n, fun k hk hk' => ?_, fun k hk hk' => ?_⟩
  · rcases blksT_snoc hv hk' with h1 | h1 | h1
    · exact h.f_s k hk h1
    · have := (h.first.lt k hk).2; omega
    · exact hfr k h1 (.inl hk)
  · rcases blksT_snoc hv hk' with h1 | h1 | h1
    · exact h.n_s k hk h1
    · have := (h.now.lt k hk).2; omega
    · exact hfr k h1 (.inr (.inl hk))

theorem blksD_snoc {a b c d e e' : Value} {fs : List SF} {f : SF} {n k : Nat} (hv : e'.ownBlock = e.ownBlock ∨ e'.ownBlock = some n) (h : blksD a b c d e' (fs ++ [f]) k) : blksD a b c d e fs k ∨ k = n ∨ blksW f.2.1 f.2.2 k := by
  rcases h with h | h | h
  · exact .inl (.inl h)
  · exact .inl (.inr (.inl h))
  · rcases blksT_snoc hv h with h | h | h
    · exact .inl (.inr (.inr h))
    · exact .inr (.inl h)
    · exact .inr (.inr h)

/-- In the loop of a copy. -/
def CpSt (w : World) (D : Dr) (v0 v1 v2 v3 v4 : Value) (Z k : Nat) (wr : World) : Prop :=
  ∃ A0 c0 A1 c1 A2 c2 A3 c3 A4 c4 fs, OwnD (w.heap.size + 1 + 1) wr (.slice A0 D.fn.length c0) (.slice A1 D.fl.length c1) (.slice A2 D.nn.length c2) (.slice A3 D.nl.length c3) (.slice A4 k c4) ⟨D.fn, D.fl, D.nn, D.nl, D.ss.take k⟩ fs ∧
    Blk wr w.heap.size 59 #[v0, v1, v2, v3, v4] ∧ Blk wr (w.heap.size + 1) 59 #[.slice none 0 0, .slice none 0 0, .slice none 0 0, .slice none 0 0, .slice none 0 0] ∧
    Blk wr Z 59 #[.slice A0 D.fn.length c0, .slice A1 D.fl.length c1, .slice A2 D.nn.length c2, .slice A3 D.nl.length c3, .slice A4 k c4] ∧
    w.heap.size + 1 < Z ∧ ¬ blksD (.slice A0 D.fn.length c0) (.slice A1 D.fl.length c1) (.slice A2 D.nn.length c2) (.slice A3 D.nl.length c3) (.slice A4 k c4) fs Z ∧ Below w.heap.size w wr

theorem OwnW.setOff {base : Nat} {w : World} {a b : Value} {ns ls : List Pr} (h : OwnW base w a b ns ls) {p : Addr} (hp : ¬ blksW a b p.block) (u : Value) : OwnW base (w.setCell p u) a b ns ls :=
  h.turned (S := fun k => k = p.block) (Turns.ofGrown (set_grown w p u) (fun k hk => by cases hk; rfl)) (fun k hk e => hp (e ▸ hk))

theorem cp_start {w wE : World} {v0 v1 v2 v3 v4 : Value} {D : Dr} {A0 A1 A2 A3 : Option Addr} {c0 c1 c2 c3 B1 B2 Z : Nat} (hX : Blk wE w.heap.size 59 #[v0, v1, v2, v3, v4]) (hR : Blk wE (w.heap.size + 1) 59 #[.slice none 0 0, .slice none 0 0, .slice none 0 0, .slice none 0 0, .slice none 0 0])
    (hZ : Blk wE Z 59 #[.slice A0 D.fn.length c0, .slice A1 D.fl.length c1, .slice A2 D.nn.length c2, .slice A3 D.nl.length c3, .slice none 0 0])
    (h1 : OwnW B1 wE (.slice A0 D.fn.length c0) (.slice A1 D.fl.length c1) D.fn D.fl) (h2 : OwnW B2 wE (.slice A2 D.nn.length c2) (.slice A3 D.nl.length c3) D.nn D.nl)
    (hlt : ∀ k, blksW (.slice A0 D.fn.length c0) (.slice A1 D.fl.length c1) k → k < B2) (e1 : w.heap.size + 1 + 1 ≤ B1) (e2 : w.heap.size + 1 + 1 ≤ B2)
    (z1 : ¬ blksW (.slice A0 D.fn.length c0) (.slice A1 D.fl.length c1) Z) (z2 : ¬ blksW (.slice A2 D.nn.length c2) (.slice A3 D.nl.length c3) Z) (hZl : w.heap.size + 1 < Z) (hb : Below w.heap.size w wE) :
    CpSt w D v0 v1 v2 v3 v4 Z 0 wE := by
  have hn : ∀ k, ¬ blksT (.slice none 0 0) [] k := by
    rintro k (h | ⟨i, hi, _⟩)
    · simp [Value.ownBlock] at h
    · simp at hi
  refine ⟨A0, c0, A1, c1, A2, c2, A3, c3, none, 0, [], ⟨h1.mono e1, h2.mono e2, OwnT.nil _ _, by simp, fun k a b => ?_, fun k _ b => hn k b, fun k _ b => hn k b⟩, hX, hR, hZ, hZl, ?_, hb⟩
  · have := hlt k a
    have := (h2.lt k b).1
    omega
  · rintro (h | h | h)
    · exact z1 h
    · exact z2 h
    · exact hn _ h

set_option maxHeartbeats 8000000 in
set_option maxRecDepth 100000 in
theorem sCopyD_any (v0 v1 v2 v3 v4 : Value) (D : Dr) (w : World) (h : RD w v0 v1 v2 v3 v4 D) (hle : DrLe D) :
    Calls Try.prog 80 #[.agg #[v0, v1, v2, v3, v4]] w (RetD D w) := by
  have HLE := Lib.hid hle
  have hfn := h.fn
  have hfl := h.fl
  have hnn := h.nn
  have hnl := h.nl
  obtain ⟨A, c, e4, hc, hm, hcell⟩ := h.ss
  subst e4
  unfold maxLen at hm
  clear hle h
  obtain ⟨i0, hi, iz0, iz1, iz2⟩ := info_parts infoStep
  have hlt2 : w.heap.size < w.heap.size + 1 + 1 := by omega
  have hlt3 : w.heap.size < w.heap.size + 1 + 1 + 1 := by omega
  have hne2 : ¬ w.heap.size + 1 + 1 = w.heap.size := by omega
  go_enter Try.func80, Try.ntmps80
  go_wp2_with fail
  go_cut [3] (fun z wx => ∃ Z, z = .pointer (some ⟨Z, 0, none⟩) ∧ CpSt w D v0 v1 v2 v3 (.slice A D.ss.length c) Z 0 wx)
  case first =>
    go_region_held3 (fun w' => w'.cell? ⟨w.heap.size, 0, none⟩ = some v0 ∧ w'.cell? ⟨w.heap.size, 1, none⟩ = some v1 ∧ w'.cell? ⟨w.heap.size, 2, none⟩ = some v2 ∧ w'.cell? ⟨w.heap.size, 3, none⟩ = some v3)
      (go_keep)
      (first | (go_at_call 68; refine Calls.mono (sCopy_any _ _ D.fn D.fl _ ?a1 ?a2 HLE.out.fn HLE.out.fl) ?_; (case a1 => exact hfn.below (by (repeat' (first | (with_reducible exact Below.refl _ _) | (with_reducible assumption) | (with_reducible refine Below.drew ?_) | (with_reducible refine below_drewN ?_ _) | (with_reducible refine Below.alloc ?_ ?_ _) | (with_reducible refine Below.setCell ?_ ?_ _) | (with_reducible refine Below.step (by assumption) ?_ ?_))); all_goals (first | omega | (simp; done) | (simp; omega)))); (case a2 => exact hfl.below (by (repeat' (first | (with_reducible exact Below.refl _ _) | (with_reducible assumption) | (with_reducible refine Below.drew ?_) | (with_reducible refine below_drewN ?_ _) | (with_reducible refine Below.alloc ?_ ?_ _) | (with_reducible refine Below.setCell ?_ ?_ _) | (with_reducible refine Below.step (by assumption) ?_ ?_))); all_goals (first | omega | (simp; done) | (simp; omega)))); rintro e w1 ⟨An1, cn1, Al1, cl1, rfl, ho1, hb1⟩; (first | (with_reducible have hcf1 := bcell_drew hb1) | have hcf1 := bcell hb1); obtain ⟨hc1, hf1⟩ := hcf1; have hz1 := hb1.size; (try simp at hz1); (try have hp1_0 : w.heap.size < w1.heap.size := by omega); (try have hp1_1 : w.heap.size + 1 < w1.heap.size := by omega); (try have hp1_2 : w.heap.size + 1 + 1 < w1.heap.size := by omega); (try have hp1_3 : w.heap.size + 1 + 1 + 1 < w1.heap.size := by omega); (have hq1 : w.heap.size < w1.heap.size + 1 := by omega); (have hq2 : ¬ w1.heap.size = w.heap.size := by omega)) | (go_at_call 68; refine Calls.mono (sCopy_any _ _ D.nn D.nl _ ?a3 ?a4 HLE.out.nn HLE.out.nl) ?_; (case a3 => exact hnn.below (by (repeat' (first | (with_reducible exact Below.refl _ _) | (with_reducible assumption) | (with_reducible refine Below.drew ?_) | (with_reducible refine below_drewN ?_ _) | (with_reducible refine Below.alloc ?_ ?_ _) | (with_reducible refine Below.setCell ?_ ?_ _) | (with_reducible refine Below.step (by assumption) ?_ ?_))); all_goals (first | omega | (simp; done) | (simp; omega)))); (case a4 => exact hnl.below (by (repeat' (first | (with_reducible exact Below.refl _ _) | (with_reducible assumption) | (with_reducible refine Below.drew ?_) | (with_reducible refine below_drewN ?_ _) | (with_reducible refine Below.alloc ?_ ?_ _) | (with_reducible refine Below.setCell ?_ ?_ _) | (with_reducible refine Below.step (by assumption) ?_ ?_))); all_goals (first | omega | (simp; done) | (simp; omega)))); rintro e w2 ⟨An2, cn2, Al2, cl2, rfl, ho2, hb2⟩; (first | (with_reducible have hcf2 := bcell_drew hb2) | have hcf2 := bcell hb2); obtain ⟨hc2, hf2⟩ := hcf2; have hz2 := hb2.size; (try simp at hz2); (try have hp2_0 : w.heap.size < w2.heap.size := by omega); (try have hp2_1 : w.heap.size + 1 < w2.heap.size := by omega); (try have hp2_2 : w.heap.size + 1 + 1 < w2.heap.size := by omega); (try have hp2_3 : w.heap.size + 1 + 1 + 1 < w2.heap.size := by omega); (have hq3 : ¬ w2.heap.size = w.heap.size := by omega)))
    all_goals go_wp2
    all_goals go_meet
    · have hBB : Below (w.heap.size + 1 + 1) ((w.alloc (.cells #[v0, v1, v2, v3, .slice A D.ss.length c] 59)).alloc (.cells #[.slice none 0 0, .slice none 0 0, .slice none 0 0, .slice none 0 0, .slice none 0 0] 59)) w2 := by (repeat' (first | (with_reducible exact Below.refl _ _) | (with_reducible assumption) | (with_reducible refine Below.drew ?_) | (with_reducible refine below_drewN ?_ _) | (with_reducible refine Below.alloc ?_ ?_ _) | (with_reducible refine Below.setCell ?_ ?_ _) | (with_reducible refine Below.step (by assumption) ?_ ?_))); all_goals (first | omega | (simp; done) | (simp; omega))
      have hX2 := Blk.below ((Blk.newAt rfl).alloc _) hBB (show w.heap.size < _ by omega)
      have hR2 := Blk.below (Blk.newAt (by simp)) hBB (show w.heap.size + 1 < _ by omega)
      have hl1 : ∀ k, blksW (.slice An1 D.fn.length cn1) (.slice Al1 D.fl.length cl1) k → w.heap.size + 1 + 1 ≤ k ∧ k < w1.heap.size := fun k hk => by have := ho1.lt k hk; simp at this; omega
      have hl2 := ho2.lt
      exact ⟨_, rfl, cp_start (hX2.alloc _) (hR2.alloc _) (Blk.newAt rfl) ((ho1.kept hb2).alloc' _) (ho2.alloc' _) (fun k hk => (hl1 k hk).2) (by simp) (by omega) (fun hk => by have := (hl1 _ hk).2; omega) (fun hk => by have := (hl2 _ hk).2; omega) (by omega) (by (repeat' (first | (with_reducible exact Below.refl _ _) | (with_reducible assumption) | (with_reducible refine Below.drew ?_) | (with_reducible refine below_drewN ?_ _) | (with_reducible refine Below.alloc ?_ ?_ _) | (with_reducible refine Below.setCell ?_ ?_ _) | (with_reducible refine Below.step (by assumption) ?_ ?_))); all_goals (first | omega | (simp; done) | (simp; omega)))⟩
    · have hBB : Below (w.heap.size + 1 + 1) ((w.alloc (.cells #[v0, v1, v2, v3, .slice A D.ss.length c] 59)).alloc (.cells #[.slice none 0 0, .slice none 0 0, .slice none 0 0, .slice none 0 0, .slice none 0 0] 59)) w2 := by (repeat' (first | (with_reducible exact Below.refl _ _) | (with_reducible assumption) | (with_reducible refine Below.drew ?_) | (with_reducible refine below_drewN ?_ _) | (with_reducible refine Below.alloc ?_ ?_ _) | (with_reducible refine Below.setCell ?_ ?_ _) | (with_reducible refine Below.step (by assumption) ?_ ?_))); all_goals (first | omega | (simp; done) | (simp; omega))
      have hX2 := Blk.below ((Blk.newAt rfl).alloc _) hBB (show w.heap.size < _ by omega)
      have hR2 := Blk.below (Blk.newAt (by simp)) hBB (show w.heap.size + 1 < _ by omega)
      have hZ2 := Blk.below (Blk.newAt rfl) hb2 (show w1.heap.size < _ by simp)
      have hl1 : ∀ k, blksW (.slice An1 D.fn.length cn1) (.slice Al1 D.fl.length cl1) k → w.heap.size + 1 + 1 ≤ k ∧ k < w1.heap.size := fun k hk => by have := ho1.lt k hk; simp at this; omega
      have hl2 : ∀ k, blksW (.slice An2 D.nn.length cn2) (.slice Al2 D.nl.length cl2) k → w1.heap.size + 1 ≤ k ∧ k < w2.heap.size := fun k hk => by have := ho2.lt k hk; simp at this; omega
      have z1 : ¬ blksW (.slice An1 D.fn.length cn1) (.slice Al1 D.fl.length cl1) w1.heap.size := fun hk => by have := (hl1 _ hk).2; omega
      have z2 : ¬ blksW (.slice An2 D.nn.length cn2) (.slice Al2 D.nl.length cl2) w1.heap.size := fun hk => by have := (hl2 _ hk).1; omega
      have n0 : w.heap.size ≠ w1.heap.size := by omega
      have n1 : w.heap.size + 1 ≠ w1.heap.size := by omega
      have ho1' := (ho1.alloc' _).kept hb2
      exact ⟨_, rfl, cp_start (((((hX2.far (p := ⟨w1.heap.size, 0, none⟩) n0 _).far (p := ⟨w1.heap.size, 1, none⟩) n0 _).far (p := ⟨w1.heap.size, 2, none⟩) n0 _).far (p := ⟨w1.heap.size, 3, none⟩) n0 _).far (p := ⟨w1.heap.size, 4, none⟩) n0 _)
        (((((hR2.far (p := ⟨w1.heap.size, 0, none⟩) n1 _).far (p := ⟨w1.heap.size, 1, none⟩) n1 _).far (p := ⟨w1.heap.size, 2, none⟩) n1 _).far (p := ⟨w1.heap.size, 3, none⟩) n1 _).far (p := ⟨w1.heap.size, 4, none⟩) n1 _)
        (((((hZ2.set_ 0 _).set_ 1 _).set_ 2 _).set_ 3 _).set_ 4 _)
        (((((ho1'.setOff (p := ⟨w1.heap.size, 0, none⟩) z1 _).setOff (p := ⟨w1.heap.size, 1, none⟩) z1 _).setOff (p := ⟨w1.heap.size, 2, none⟩) z1 _).setOff (p := ⟨w1.heap.size, 3, none⟩) z1 _).setOff (p := ⟨w1.heap.size, 4, none⟩) z1 _)
        (((((ho2.setOff (p := ⟨w1.heap.size, 0, none⟩) z2 _).setOff (p := ⟨w1.heap.size, 1, none⟩) z2 _).setOff (p := ⟨w1.heap.size, 2, none⟩) z2 _).setOff (p := ⟨w1.heap.size, 3, none⟩) z2 _).setOff (p := ⟨w1.heap.size, 4, none⟩) z2 _)
        (fun k hk => by have := (hl1 k hk).2; simp; omega) (by simp) (by simp; omega) z1 z2 (by omega) (by (repeat' (first | (with_reducible exact Below.refl _ _) | (with_reducible assumption) | (with_reducible refine Below.drew ?_) | (with_reducible refine below_drewN ?_ _) | (with_reducible refine Below.alloc ?_ ?_ _) | (with_reducible refine Below.setCell ?_ ?_ _) | (with_reducible refine Below.step (by assumption) ?_ ?_))); all_goals (first | omega | (simp; done) | (simp; omega)))⟩
    · have hBB : Below (w.heap.size + 1 + 1 + 1) (((w.alloc (.cells #[v0, v1, v2, v3, .slice A D.ss.length c] 59)).alloc (.cells #[.slice none 0 0, .slice none 0 0, .slice none 0 0, .slice none 0 0, .slice none 0 0] 59)).alloc (.cells #[.slice none 0 0, .slice none 0 0, .slice none 0 0, .slice none 0 0, .slice none 0 0] 59)) w2 := by (repeat' (first | (with_reducible exact Below.refl _ _) | (with_reducible assumption) | (with_reducible refine Below.drew ?_) | (with_reducible refine below_drewN ?_ _) | (with_reducible refine Below.alloc ?_ ?_ _) | (with_reducible refine Below.setCell ?_ ?_ _) | (with_reducible refine Below.step (by assumption) ?_ ?_))); all_goals (first | omega | (simp; done) | (simp; omega))
      have hX2 := Blk.below (((Blk.newAt rfl).alloc _).alloc _) hBB (show w.heap.size < _ by omega)
      have hR2 := Blk.below ((Blk.newAt (by simp)).alloc _) hBB (show w.heap.size + 1 < _ by omega)
      have hZ2 := Blk.below (Blk.newAt (by simp)) hBB (show w.heap.size + 1 + 1 < _ by omega)
      have hl1 : ∀ k, blksW (.slice An1 D.fn.length cn1) (.slice Al1 D.fl.length cl1) k → w.heap.size + 1 + 1 + 1 ≤ k ∧ k < w1.heap.size := fun k hk => by have := ho1.lt k hk; simp at this; omega
      have hl2 := ho2.lt
      have z1 : ¬ blksW (.slice An1 D.fn.length cn1) (.slice Al1 D.fl.length cl1) (w.heap.size + 1 + 1) := fun hk => by have := (hl1 _ hk).1; omega
      have z2 : ¬ blksW (.slice An2 D.nn.length cn2) (.slice Al2 D.nl.length cl2) (w.heap.size + 1 + 1) := fun hk => by have := (hl2 _ hk).1; omega
      have n0 : w.heap.size ≠ w.heap.size + 1 + 1 := by omega
      have n1 : w.heap.size + 1 ≠ w.heap.size + 1 + 1 := by omega
      have ho1' := ho1.kept hb2
      exact ⟨_, rfl, cp_start (((((hX2.far (p := ⟨w.heap.size + 1 + 1, 0, none⟩) n0 _).far (p := ⟨w.heap.size + 1 + 1, 1, none⟩) n0 _).far (p := ⟨w.heap.size + 1 + 1, 2, none⟩) n0 _).far (p := ⟨w.heap.size + 1 + 1, 3, none⟩) n0 _).far (p := ⟨w.heap.size + 1 + 1, 4, none⟩) n0 _)
        (((((hR2.far (p := ⟨w.heap.size + 1 + 1, 0, none⟩) n1 _).far (p := ⟨w.heap.size + 1 + 1, 1, none⟩) n1 _).far (p := ⟨w.heap.size + 1 + 1, 2, none⟩) n1 _).far (p := ⟨w.heap.size + 1 + 1, 3, none⟩) n1 _).far (p := ⟨w.heap.size + 1 + 1, 4, none⟩) n1 _)
        (((((hZ2.set_ 0 _).set_ 1 _).set_ 2 _).set_ 3 _).set_ 4 _)
        (((((ho1'.setOff (p := ⟨w.heap.size + 1 + 1, 0, none⟩) z1 _).setOff (p := ⟨w.heap.size + 1 + 1, 1, none⟩) z1 _).setOff (p := ⟨w.heap.size + 1 + 1, 2, none⟩) z1 _).setOff (p := ⟨w.heap.size + 1 + 1, 3, none⟩) z1 _).setOff (p := ⟨w.heap.size + 1 + 1, 4, none⟩) z1 _)
        (((((ho2.setOff (p := ⟨w.heap.size + 1 + 1, 0, none⟩) z2 _).setOff (p := ⟨w.heap.size + 1 + 1, 1, none⟩) z2 _).setOff (p := ⟨w.heap.size + 1 + 1, 2, none⟩) z2 _).setOff (p := ⟨w.heap.size + 1 + 1, 3, none⟩) z2 _).setOff (p := ⟨w.heap.size + 1 + 1, 4, none⟩) z2 _)
        (fun k hk => (hl1 k hk).2) (by simp) (by omega) z1 z2 (by omega) (by (repeat' (first | (with_reducible exact Below.refl _ _) | (with_reducible assumption) | (with_reducible refine Below.drew ?_) | (with_reducible refine below_drewN ?_ _) | (with_reducible refine Below.alloc ?_ ?_ _) | (with_reducible refine Below.setCell ?_ ?_ _) | (with_reducible refine Below.step (by assumption) ?_ ?_))); all_goals (first | omega | (simp; done) | (simp; omega)))⟩
  case rest =>
    obtain ⟨Z, rfl, HS0⟩ := hcut
    have HS := Lib.hid HS0
    clear HS0
    obtain ⟨A0, c0, A1, c1, A2, c2, A3, c3, A4, c4, fs0, hO0, hX0, hR0, hZ0, hZl, hZn, hbw0⟩ := HS.out
    (have x_0 := hX0.cell 0); (have x_1 := hX0.cell 1); (have x_2 := hX0.cell 2); (have x_3 := hX0.cell 3); (have x_4 := hX0.cell 4); simp only [List.getElem?_toArray, List.getElem?_cons_succ, List.getElem?_cons_zero] at x_0 x_1 x_2 x_3 x_4
    have hX0l := hX0.lt
    clear hO0 hR0 hZ0 hZn
    go_wp2_with fail
    go_loopw [4] (fun i wr => ∃ k : Nat, k ≤ D.ss.length ∧ i = .int .i64 k ∧ Hid (CpSt w D v0 v1 v2 v3 (.slice A D.ss.length c) Z k wr)) (fun i _ => D.ss.length - (intOf i).toNat)
    case atStart => exact ⟨0, Nat.zero_le _, rfl, HS⟩
    case round =>
      obtain ⟨k, hk, rfl, HT⟩ := hrel
      clear HS hX0 x_0 x_1 x_2 x_3 x_4 hX0l hbw0
      clear A0 c0 A1 c1 A2 c2 A3 c3 A4 c4 fs0
      obtain ⟨A0, c0, A1, c1, A2, c2, A3, c3, A4, c4, fs, hO, hX, hR, hZ, hZl, hZn, hbl⟩ := HT.out
      clear HT
      have hfl : fs.length = k := by
        have := congrArg List.length hO.map
        simp at this
        omega
      subst hfl
      have hsz := hbl.size
      have hZlt := hZ.lt
      have hXlt := hX.lt
      (have x_0 := hX.cell 0); (have x_1 := hX.cell 1); (have x_2 := hX.cell 2); (have x_3 := hX.cell 3); (have x_4 := hX.cell 4); simp only [List.getElem?_toArray, List.getElem?_cons_succ, List.getElem?_cons_zero] at x_0 x_1 x_2 x_3 x_4
      by_cases hlt : fs.length < D.ss.length
      · obtain ⟨b, off, rfl, hb, hcl⟩ := hcell (by omega)
        obtain ⟨k0, k1, k2, vn, vl, k3, k4, hn, hl⟩ := hcl fs.length hlt
        obtain ⟨hw1, hw2⟩ := HLE.out.ws fs.length hlt
        obtain ⟨Av, cv, ev, _⟩ := hn.form
        obtain ⟨Au, cu, eu, _⟩ := hl.form
        subst ev eu
        have q0 := (hbl.cell (p := ⟨b, off + fs.length * 5, none⟩) hb).trans k0
        have q1 := (hbl.cell (p := ⟨b, off + fs.length * 5 + 1, none⟩) hb).trans k1
        have q2 := (hbl.cell (p := ⟨b, off + fs.length * 5 + 2, none⟩) hb).trans k2
        have q3 := (hbl.cell (p := ⟨b, off + fs.length * 5 + 3, none⟩) hb).trans k3
        have q4 := (hbl.cell (p := ⟨b, off + fs.length * 5 + 4, none⟩) hb).trans k4
        have hn' := Lib.hid (hn.below hbl)
        have hl' := Lib.hid (hl.below hbl)
        have hsk : Hid (D.ss.take (fs.length + 1) = D.ss.take fs.length ++ [D.ss[fs.length]]) := Lib.hid (List.take_succ_eq_append_getElem hlt)
        generalize D.ss[fs.length] = s at *
        clear k0 k1 k2 k3 k4 hcl hcell hn hl
        have HO := Lib.hid hO
        have HX := Lib.hid hX
        have HR := Lib.hid hR
        have HZ := Lib.hid hZ
        have HZN := Lib.hid hZn
        clear hO hX hR hZ hZn
        go_wp2_with fail
        obtain ⟨w2, hw2'⟩ : ∃ w2, w2 = wr.alloc (.cells #[.int .i64 s.k, .int .i64 s.a, .int .i64 s.b, .slice Av s.ns.length cv, .slice Au s.ls.length cu] 94) := ⟨_, rfl⟩
        rw [← hw2']
        have hbr2 : Below wr.heap.size wr w2 := hw2' ▸ (Below.refl _ _).alloc (Nat.le_refl _) _
        have hS2 : Blk w2 wr.heap.size 94 #[.int .i64 s.k, .int .i64 s.a, .int .i64 s.b, .slice Av s.ns.length cv, .slice Au s.ls.length cu] := hw2' ▸ Blk.newAt rfl
        clear hw2' q0 q1 q2 q3 q4 x_0 x_1 x_2 x_3 x_4
        have hS2l := hS2.lt
        refine (sCopy_any _ _ s.ns s.ls _ (hn'.out.below hbr2) (hl'.out.below hbr2) hw1 hw2).mono ?_
        rintro e w3 ⟨An, cn, Al, cl, rfl, ho3, hb3⟩
        have hbr3 : Below wr.heap.size wr w3 := hbr2.trans (hb3.mono hbr2.size)
        have hS3 := hS2.below hb3 hS2l
        have hO3 := HO.out.kept hbr3
        have hltO := HO.out.lt
        have hX3 := HX.out.below hbr3 hXlt
        have hR3 := HR.out.below hbr3 HR.out.lt
        have hZ3 := HZ.out.below hbr3 hZlt
        have hsz3 := hbr3.size
        have hbw3 := hbl.trans (hbr3.mono hsz)
        have hbase : w.heap.size + 1 + 1 ≤ wr.heap.size := by omega
        have ho3m := ho3.mono (show w.heap.size + 1 + 1 ≤ w2.heap.size from Nat.le_trans hbase hbr2.size)
        have hlt3 : ∀ b, blksW (.slice An s.ns.length cn) (.slice Al s.ls.length cl) b → wr.heap.size < b := fun b hb => by have := (ho3.lt b hb).1; omega
        have hS3l := hS3.lt
        have hnG : ¬ blksD (.slice A0 D.fn.length c0) (.slice A1 D.fl.length c1) (.slice A2 D.nn.length c2) (.slice A3 D.nl.length c3) (.slice A4 fs.length c4) fs wr.heap.size := fun hb => by have := (hltO _ hb).2; omega
        have hnW : ¬ blksW (.slice An s.ns.length cn) (.slice Al s.ls.length cl) wr.heap.size := fun hb => by have := hlt3 _ hb; omega
        have hnZ : ¬ blksW (.slice An s.ns.length cn) (.slice Al s.ls.length cl) Z := fun hb => by have := hlt3 _ hb; omega
        have hHN : Hid (∀ b, blksW (.slice An s.ns.length cn) (.slice Al s.ls.length cl) b → ¬ blksD (.slice A0 D.fn.length c0) (.slice A1 D.fl.length c1) (.slice A2 D.nn.length c2) (.slice A3 D.nl.length c3) (.slice A4 fs.length c4) fs b) := Lib.hid (fun b hb hb' => by have := hlt3 b hb; have := (hltO b hb').2; omega)
        have hHlt : Hid (∀ b, blksD (.slice A0 D.fn.length c0) (.slice A1 D.fl.length c1) (.slice A2 D.nn.length c2) (.slice A3 D.nl.length c3) (.slice A4 fs.length c4) fs b → w.heap.size + 1 + 1 ≤ b) := Lib.hid (fun b hb => (hltO b hb).1)
        have hHnZ := Lib.hid hnZ
        have hZG : Z ≠ wr.heap.size := by omega
        have hXG : w.heap.size ≠ wr.heap.size := by omega
        have hRG : w.heap.size + 1 ≠ wr.heap.size := by omega
        obtain ⟨w4, hw4⟩ : ∃ w4, w4 = (w3.setCell ⟨wr.heap.size, 3, none⟩ (.slice An s.ns.length cn)).setCell ⟨wr.heap.size, 4, none⟩ (.slice Al s.ls.length cl) := ⟨_, rfl⟩
        have hO4 : OwnD (w.heap.size + 1 + 1) w4 _ _ _ _ _ _ fs := hw4 ▸ (hO3.setFar (p := ⟨wr.heap.size, 3, none⟩) hnG _).setFar (p := ⟨wr.heap.size, 4, none⟩) hnG _
        have ho4 : OwnW (w.heap.size + 1 + 1) w4 _ _ s.ns s.ls := hw4 ▸ (ho3m.setOff (p := ⟨wr.heap.size, 3, none⟩) hnW _).setOff (p := ⟨wr.heap.size, 4, none⟩) hnW _
        have hX4 : Blk w4 w.heap.size _ _ := hw4 ▸ (hX3.far (p := ⟨wr.heap.size, 3, none⟩) hXG _).far (p := ⟨wr.heap.size, 4, none⟩) hXG _
        have hR4 : Blk w4 (w.heap.size + 1) _ _ := hw4 ▸ (hR3.far (p := ⟨wr.heap.size, 3, none⟩) hRG _).far (p := ⟨wr.heap.size, 4, none⟩) hRG _
        have hZ4 : Blk w4 Z _ _ := hw4 ▸ (hZ3.far (p := ⟨wr.heap.size, 3, none⟩) hZG _).far (p := ⟨wr.heap.size, 4, none⟩) hZG _
        have hbw4 : Below w.heap.size w w4 := hw4 ▸ (hbw3.setCell (p := ⟨wr.heap.size, 3, none⟩) (show w.heap.size ≤ wr.heap.size from hsz) _).setCell (p := ⟨wr.heap.size, 4, none⟩) (show w.heap.size ≤ wr.heap.size from hsz) _
        have hsz4 : w4.heap.size = w3.heap.size := by rw [hw4]; simp
        have hHO4 := Lib.hid (hO4.alloc (.cells #[.int .i64 s.k, .int .i64 s.a, .int .i64 s.b, .slice An s.ns.length cn, .slice Al s.ls.length cl] 94))
        have hHo4 := Lib.hid (ho4.alloc' (.cells #[.int .i64 s.k, .int .i64 s.a, .int .i64 s.b, .slice An s.ns.length cn, .slice Al s.ls.length cl] 94))
        have hHX4 := Lib.hid (hX4.alloc (.cells #[.int .i64 s.k, .int .i64 s.a, .int .i64 s.b, .slice An s.ns.length cn, .slice Al s.ls.length cl] 94))
        have hHR4 := Lib.hid (hR4.alloc (.cells #[.int .i64 s.k, .int .i64 s.a, .int .i64 s.b, .slice An s.ns.length cn, .slice Al s.ls.length cl] 94))
        have hHZ4 := Lib.hid (hZ4.alloc (.cells #[.int .i64 s.k, .int .i64 s.a, .int .i64 s.b, .slice An s.ns.length cn, .slice Al s.ls.length cl] 94))
        have hsE : (w4.alloc (.cells #[.int .i64 s.k, .int .i64 s.a, .int .i64 s.b, .slice An s.ns.length cn, .slice Al s.ls.length cl] 94)).heap.size = w3.heap.size + 1 := by simp [hsz4]
        have hfs20 : fs.length ≤ 1048576 := by have := HLE.out.ss; omega
        have hHL4 : Hid (∀ (j : Nat) (u : Value), (sfc (s, .slice An s.ns.length cn, .slice Al s.ls.length cl))[j]? = some u → (w4.alloc (.cells #[.int .i64 s.k, .int .i64 s.a, .int .i64 s.b, .slice An s.ns.length cn, .slice Al s.ls.length cl] 94)).cell? ((⟨w3.heap.size, 0, none⟩ : Addr).add j) = some u) := Lib.hid (lit_step hsz4.symm rfl)
        have hHB4 := Lib.hid (hbw4.alloc hbw4.size (.cells #[.int .i64 s.k, .int .i64 s.a, .int .i64 s.b, .slice An s.ns.length cn, .slice Al s.ls.length cl] 94))
        have hb20 : w.heap.size + 1 + 1 ≤ (w4.alloc (.cells #[.int .i64 s.k, .int .i64 s.a, .int .i64 s.b, .slice An s.ns.length cn, .slice Al s.ls.length cl] 94)).heap.size := by simp; omega
        (have s_0 := hS3.cell 0); (have s_1 := hS3.cell 1); (have s_2 := hS3.cell 2); (have s_3 := hS3.cell 3); (have s_4 := hS3.cell 4); simp only [List.getElem?_toArray, List.getElem?_cons_succ, List.getElem?_cons_zero] at s_0 s_1 s_2 s_3 s_4; (have s_f0 := hS3.frozen 0); (have s_f1 := hS3.frozen 1); (have s_f2 := hS3.frozen 2); (have s_f3 := hS3.frozen 3); (have s_f4 := hS3.frozen 4)
        (have z_0 := hZ3.cell 0); (have z_1 := hZ3.cell 1); (have z_2 := hZ3.cell 2); (have z_3 := hZ3.cell 3); (have z_4 := hZ3.cell 4); simp only [List.getElem?_toArray, List.getElem?_cons_succ, List.getElem?_cons_zero] at z_0 z_1 z_2 z_3 z_4
        have hz3l := hZ3.lt
        clear hb3 hS2 hn' hl' HO HX HR HZ hbl ho3 ho3m hO3 hX3 hR3 hZ3 hbr3 hbr2 hbw3 hS2l hO4 ho4 hX4 hR4 hZ4 hltO hlt3 hnG hnW hnZ
        clear hsz4
        subst hw4
        go_wp2_with (at_builtin; refine wpList_append_step rfl _ _ _ rfl (w.heap.size + 1 + 1) 94 i0 Try.underlying57 hi iz0 iz1 iz2 (.slice A4 fs.length c4) fs (s, .slice An s.ns.length cn, .slice Al s.ls.length cl) ⟨w3.heap.size, 0, none⟩ 1 rfl rfl hHO4.out.ss.row hHL4.out (sfc_one _ _ _ _ _ _ _ rfl rfl) hfs20 hb20 ?_)
        intro A5 c5 w5 hr5 hg5 ha5
        have hO5 := hHO4.out.snoc (f := (s, .slice An s.ns.length cn, .slice Al s.ls.length cl)) (by rw [List.flatMap_append]; simpa using hr5) hg5 (by rw [hsE]; exact ha5) hHo4.out hHN.out
        have hX5 := hHX4.out.grownR hg5 (fun k hk e => by have := hHlt.out k (.inr (.inr (.inl hk))); omega)
        have hR5 := hHR4.out.grownR hg5 (fun k hk e => by have := hHlt.out k (.inr (.inr (.inl hk))); omega)
        have hZ5 := hHZ4.out.grownR hg5 (fun k hk e => HZN.out (e ▸ .inr (.inr (.inl hk))))
        have hb5 := hHB4.out.grown hg5 hHB4.out.size (fun k hk => by have := hHlt.out k (.inr (.inr (.inl hk))); omega)
        have hZn5 : ¬ blksD (.slice A0 D.fn.length c0) (.slice A1 D.fl.length c1) (.slice A2 D.nn.length c2) (.slice A3 D.nl.length c3) (.slice A5 (fs.length + 1) c5) (fs ++ [(s, .slice An s.ns.length cn, .slice Al s.ls.length cl)]) Z := by
          intro hz
          rcases blksD_snoc ha5 hz with h1 | h1 | h1
          · exact HZN.out h1
          · omega
          · exact hHnZ.out h1
        have hO6 := hO5.setFar (p := ⟨Z, 4, none⟩) hZn5 (.slice A5 (fs.length + 1) c5)
        have hO7 : OwnD (w.heap.size + 1 + 1) (w5.setCell ⟨Z, 4, none⟩ (.slice A5 (fs.length + 1) c5)) (.slice A0 D.fn.length c0) (.slice A1 D.fl.length c1) (.slice A2 D.nn.length c2) (.slice A3 D.nl.length c3) (.slice A5 (fs.length + 1) c5) ⟨D.fn, D.fl, D.nn, D.nl, D.ss.take (fs.length + 1)⟩ (fs ++ [(s, .slice An s.ns.length cn, .slice Al s.ls.length cl)]) := by
          rw [hsk.out]; exact hO6
        have HFIN : Hid (CpSt w D v0 v1 v2 v3 (.slice (some ⟨b, off, none⟩) D.ss.length c) Z (fs.length + 1) (w5.setCell ⟨Z, 4, none⟩ (.slice A5 (fs.length + 1) c5))) :=
          Lib.hid ⟨A0, c0, A1, c1, A2, c2, A3, c3, A5, c5, _, hO7, hX5.far (p := ⟨Z, 4, none⟩) (by show _ ≠ Z; omega) _, hR5.far (p := ⟨Z, 4, none⟩) (by show _ ≠ Z; omega) _, hZ5.set_ 4 _, hZl, hZn5, hb5.setCell (p := ⟨Z, 4, none⟩) (by show w.heap.size ≤ Z; omega) _⟩
        (have y_0 := hZ5.cell 0); (have y_1 := hZ5.cell 1); (have y_2 := hZ5.cell 2); (have y_3 := hZ5.cell 3); (have y_4 := hZ5.cell 4); simp only [List.getElem?_toArray, List.getElem?_cons_succ, List.getElem?_cons_zero] at y_0 y_1 y_2 y_3 y_4; (have y_f0 := hZ5.frozen 0); (have y_f1 := hZ5.frozen 1); (have y_f2 := hZ5.frozen 2); (have y_f3 := hZ5.frozen 3); (have y_f4 := hZ5.frozen 4)
        clear hO5 hO6 hO7 hX5 hR5 hZ5 hb5 hZn5 hr5 hg5 ha5 hHO4 hHo4 hHX4 hHR4 hHZ4 hHL4 hHB4 hHN hHlt hHnZ HZN hsk s_0 s_1 s_2 s_3 s_4 s_f0 s_f1 s_f2 s_f3 s_f4 z_0 z_1 z_2 z_3 z_4
        go_wp2
        go_roundw
        case rel => exact ⟨fs.length + 1, by omega, by go_num, HFIN⟩
        case measure => simp [intOf]; omega
      · have hkk : fs.length = D.ss.length := by omega
        have hO' : OwnD (w.heap.size + 1 + 1) wr (.slice A0 D.fn.length c0) (.slice A1 D.fl.length c1) (.slice A2 D.nn.length c2) (.slice A3 D.nl.length c3) (.slice A4 D.ss.length c4) D fs := by
          have := hO
          rw [hkk, List.take_length] at this
          exact this
        rw [hkk] at hZ
        (have z_0 := hZ.cell 0); (have z_1 := hZ.cell 1); (have z_2 := hZ.cell 2); (have z_3 := hZ.cell 3); (have z_4 := hZ.cell 4); simp only [List.getElem?_toArray, List.getElem?_cons_succ, List.getElem?_cons_zero] at z_0 z_1 z_2 z_3 z_4
        (have r_0 := hR.cell 0); (have r_1 := hR.cell 1); (have r_2 := hR.cell 2); (have r_3 := hR.cell 3); (have r_4 := hR.cell 4); simp only [List.getElem?_toArray, List.getElem?_cons_succ, List.getElem?_cons_zero] at r_0 r_1 r_2 r_3 r_4; (have r_f0 := hR.frozen 0); (have r_f1 := hR.frozen 1); (have r_f2 := hR.frozen 2); (have r_f3 := hR.frozen 3); (have r_f4 := hR.frozen 4)
        have hRlt := hR.lt
        have hlo : ∀ k, blksD (.slice A0 D.fn.length c0) (.slice A1 D.fl.length c1) (.slice A2 D.nn.length c2) (.slice A3 D.nl.length c3) (.slice A4 D.ss.length c4) fs k → w.heap.size + 1 < k := fun k hk => (hO'.lt k hk).1
        have step : ∀ (W : World) (j : Nat) (u : Value), OwnD w.heap.size W (.slice A0 D.fn.length c0) (.slice A1 D.fl.length c1) (.slice A2 D.nn.length c2) (.slice A3 D.nl.length c3) (.slice A4 D.ss.length c4) D fs → OwnD w.heap.size (W.setCell ⟨w.heap.size + 1, j, none⟩ u) (.slice A0 D.fn.length c0) (.slice A1 D.fl.length c1) (.slice A2 D.nn.length c2) (.slice A3 D.nl.length c3) (.slice A4 D.ss.length c4) D fs :=
          fun W j u hW => hW.setFar (p := ⟨w.heap.size + 1, j, none⟩) (fun hk => by have h2 : w.heap.size + 1 < w.heap.size + 1 := hlo _ hk; omega) u
        have HH : ∀ u0 u1 u2 u3 u4, Hid (OwnD w.heap.size (((((wr.setCell ⟨w.heap.size + 1, 0, none⟩ u0).setCell ⟨w.heap.size + 1, 1, none⟩ u1).setCell ⟨w.heap.size + 1, 2, none⟩ u2).setCell ⟨w.heap.size + 1, 3, none⟩ u3).setCell ⟨w.heap.size + 1, 4, none⟩ u4) (.slice A0 D.fn.length c0) (.slice A1 D.fl.length c1) (.slice A2 D.nn.length c2) (.slice A3 D.nl.length c3) (.slice A4 D.ss.length c4) D fs) := fun u0 u1 u2 u3 u4 =>
          Lib.hid (step _ _ _ (step _ _ _ (step _ _ _ (step _ _ _ (step _ _ _ (hO'.mono (by omega)))))))
        have HB : ∀ u0 u1 u2 u3 u4, Hid (Below w.heap.size w (((((wr.setCell ⟨w.heap.size + 1, 0, none⟩ u0).setCell ⟨w.heap.size + 1, 1, none⟩ u1).setCell ⟨w.heap.size + 1, 2, none⟩ u2).setCell ⟨w.heap.size + 1, 3, none⟩ u3).setCell ⟨w.heap.size + 1, 4, none⟩ u4)) := fun u0 u1 u2 u3 u4 => Lib.hid
          (((((hbl.setCell (p := ⟨w.heap.size + 1, 0, none⟩) (by first | omega | (simp; done) | (simp; omega)) u0).setCell (p := ⟨w.heap.size + 1, 1, none⟩) (by first | omega | (simp; done) | (simp; omega)) u1).setCell (p := ⟨w.heap.size + 1, 2, none⟩) (by first | omega | (simp; done) | (simp; omega)) u2).setCell (p := ⟨w.heap.size + 1, 3, none⟩) (by first | omega | (simp; done) | (simp; omega)) u3).setCell (p := ⟨w.heap.size + 1, 4, none⟩) (by first | omega | (simp; done) | (simp; omega)) u4)
        have hcx : ¬ ((fs.length : Int) < (D.ss.length : Int)) := by omega
        clear hO hO' hlo step hcell hbl hX hZ hR hZn
        go_wp2
        exact bodyPost_ret (v := .agg #[.slice A0 D.fn.length c0, .slice A1 D.fl.length c1, .slice A2 D.nn.length c2, .slice A3 D.nl.length c3, .slice A4 D.ss.length c4]) (by simp [results, Try.results80, go_sem, r_0, r_1, r_2, r_3, r_4, hRlt]) rfl ⟨_, _, _, _, _, _, _, _, _, _, fs, rfl, (HH _ _ _ _ _).out, (HB _ _ _ _ _).out⟩

set_option maxHeartbeats 8000000 in
set_option maxRecDepth 100000 in
theorem iCopyD_any (v0 v1 v2 v3 v4 : Value) (D : Dr) (w : World) (h : RD w v0 v1 v2 v3 v4 D) (hle : DrLe D) :
    Calls Try.prog 79 #[.agg #[v0, v1, v2, v3, v4]] w (RetD D w) := by
  have HLE := Lib.hid hle
  have hfn := h.fn
  have hfl := h.fl
  have hnn := h.nn
  have hnl := h.nl
  obtain ⟨A, c, e4, hc, hm, hcell⟩ := h.ss
  subst e4
  unfold maxLen at hm
  clear hle h
  obtain ⟨i0, hi, iz0, iz1, iz2⟩ := info_parts infoStep
  have hlt2 : w.heap.size < w.heap.size + 1 + 1 := by omega
  have hlt3 : w.heap.size < w.heap.size + 1 + 1 + 1 := by omega
  have hne2 : ¬ w.heap.size + 1 + 1 = w.heap.size := by omega
  go_enter Try.func79, Try.ntmps79
  go_wp2_with fail
  go_cut [3] (fun z wx => ∃ Z, z = .pointer (some ⟨Z, 0, none⟩) ∧ CpSt w D v0 v1 v2 v3 (.slice A D.ss.length c) Z 0 wx)
  case first =>
    go_region_held3 (fun w' => w'.cell? ⟨w.heap.size, 0, none⟩ = some v0 ∧ w'.cell? ⟨w.heap.size, 1, none⟩ = some v1 ∧ w'.cell? ⟨w.heap.size, 2, none⟩ = some v2 ∧ w'.cell? ⟨w.heap.size, 3, none⟩ = some v3)
      (go_keep)
      (first | (go_at_call 48; refine Calls.mono (iCopy_any _ _ D.fn D.fl _ ?a1 ?a2 HLE.out.fn HLE.out.fl) ?_; (case a1 => exact hfn.below (by (repeat' (first | (with_reducible exact Below.refl _ _) | (with_reducible assumption) | (with_reducible refine Below.drew ?_) | (with_reducible refine below_drewN ?_ _) | (with_reducible refine Below.alloc ?_ ?_ _) | (with_reducible refine Below.setCell ?_ ?_ _) | (with_reducible refine Below.step (by assumption) ?_ ?_))); all_goals (first | omega | (simp; done) | (simp; omega)))); (case a2 => exact hfl.below (by (repeat' (first | (with_reducible exact Below.refl _ _) | (with_reducible assumption) | (with_reducible refine Below.drew ?_) | (with_reducible refine below_drewN ?_ _) | (with_reducible refine Below.alloc ?_ ?_ _) | (with_reducible refine Below.setCell ?_ ?_ _) | (with_reducible refine Below.step (by assumption) ?_ ?_))); all_goals (first | omega | (simp; done) | (simp; omega)))); rintro e w1 ⟨An1, cn1, Al1, cl1, rfl, ho1, hb1⟩; (first | (with_reducible have hcf1 := bcell_drew hb1) | have hcf1 := bcell hb1); obtain ⟨hc1, hf1⟩ := hcf1; have hz1 := hb1.size; (try simp at hz1); (try have hp1_0 : w.heap.size < w1.heap.size := by omega); (try have hp1_1 : w.heap.size + 1 < w1.heap.size := by omega); (try have hp1_2 : w.heap.size + 1 + 1 < w1.heap.size := by omega); (try have hp1_3 : w.heap.size + 1 + 1 + 1 < w1.heap.size := by omega); (have hq1 : w.heap.size < w1.heap.size + 1 := by omega); (have hq2 : ¬ w1.heap.size = w.heap.size := by omega)) | (go_at_call 48; refine Calls.mono (iCopy_any _ _ D.nn D.nl _ ?a3 ?a4 HLE.out.nn HLE.out.nl) ?_; (case a3 => exact hnn.below (by (repeat' (first | (with_reducible exact Below.refl _ _) | (with_reducible assumption) | (with_reducible refine Below.drew ?_) | (with_reducible refine below_drewN ?_ _) | (with_reducible refine Below.alloc ?_ ?_ _) | (with_reducible refine Below.setCell ?_ ?_ _) | (with_reducible refine Below.step (by assumption) ?_ ?_))); all_goals (first | omega | (simp; done) | (simp; omega)))); (case a4 => exact hnl.below (by (repeat' (first | (with_reducible exact Below.refl _ _) | (with_reducible assumption) | (with_reducible refine Below.drew ?_) | (with_reducible refine below_drewN ?_ _) | (with_reducible refine Below.alloc ?_ ?_ _) | (with_reducible refine Below.setCell ?_ ?_ _) | (with_reducible refine Below.step (by assumption) ?_ ?_))); all_goals (first | omega | (simp; done) | (simp; omega)))); rintro e w2 ⟨An2, cn2, Al2, cl2, rfl, ho2, hb2⟩; (first | (with_reducible have hcf2 := bcell_drew hb2) | have hcf2 := bcell hb2); obtain ⟨hc2, hf2⟩ := hcf2; have hz2 := hb2.size; (try simp at hz2); (try have hp2_0 : w.heap.size < w2.heap.size := by omega); (try have hp2_1 : w.heap.size + 1 < w2.heap.size := by omega); (try have hp2_2 : w.heap.size + 1 + 1 < w2.heap.size := by omega); (try have hp2_3 : w.heap.size + 1 + 1 + 1 < w2.heap.size := by omega); (have hq3 : ¬ w2.heap.size = w.heap.size := by omega)))
    all_goals go_wp2
    all_goals go_meet
    · have hBB : Below (w.heap.size + 1 + 1) ((w.alloc (.cells #[v0, v1, v2, v3, .slice A D.ss.length c] 59)).alloc (.cells #[.slice none 0 0, .slice none 0 0, .slice none 0 0, .slice none 0 0, .slice none 0 0] 59)) w2 := by (repeat' (first | (with_reducible exact Below.refl _ _) | (with_reducible assumption) | (with_reducible refine Below.drew ?_) | (with_reducible refine below_drewN ?_ _) | (with_reducible refine Below.alloc ?_ ?_ _) | (with_reducible refine Below.setCell ?_ ?_ _) | (with_reducible refine Below.step (by assumption) ?_ ?_))); all_goals (first | omega | (simp; done) | (simp; omega))
      have hX2 := Blk.below ((Blk.newAt rfl).alloc _) hBB (show w.heap.size < _ by omega)
      have hR2 := Blk.below (Blk.newAt (by simp)) hBB (show w.heap.size + 1 < _ by omega)
      have hl1 : ∀ k, blksW (.slice An1 D.fn.length cn1) (.slice Al1 D.fl.length cl1) k → w.heap.size + 1 + 1 ≤ k ∧ k < w1.heap.size := fun k hk => by have := ho1.lt k hk; simp at this; omega
      have hl2 := ho2.lt
      exact ⟨_, rfl, cp_start (hX2.alloc _) (hR2.alloc _) (Blk.newAt rfl) ((ho1.kept hb2).alloc' _) (ho2.alloc' _) (fun k hk => (hl1 k hk).2) (by simp) (by omega) (fun hk => by have := (hl1 _ hk).2; omega) (fun hk => by have := (hl2 _ hk).2; omega) (by omega) (by (repeat' (first | (with_reducible exact Below.refl _ _) | (with_reducible assumption) | (with_reducible refine Below.drew ?_) | (with_reducible refine below_drewN ?_ _) | (with_reducible refine Below.alloc ?_ ?_ _) | (with_reducible refine Below.setCell ?_ ?_ _) | (with_reducible refine Below.step (by assumption) ?_ ?_))); all_goals (first | omega | (simp; done) | (simp; omega)))⟩
    · have hBB : Below (w.heap.size + 1 + 1) ((w.alloc (.cells #[v0, v1, v2, v3, .slice A D.ss.length c] 59)).alloc (.cells #[.slice none 0 0, .slice none 0 0, .slice none 0 0, .slice none 0 0, .slice none 0 0] 59)) w2 := by (repeat' (first | (with_reducible exact Below.refl _ _) | (with_reducible assumption) | (with_reducible refine Below.drew ?_) | (with_reducible refine below_drewN ?_ _) | (with_reducible refine Below.alloc ?_ ?_ _) | (with_reducible refine Below.setCell ?_ ?_ _) | (with_reducible refine Below.step (by assumption) ?_ ?_))); all_goals (first | omega | (simp; done) | (simp; omega))
      have hX2 := Blk.below ((Blk.newAt rfl).alloc _) hBB (show w.heap.size < _ by omega)
      have hR2 := Blk.below (Blk.newAt (by simp)) hBB (show w.heap.size + 1 < _ by omega)
      have hZ2 := Blk.below (Blk.newAt rfl) hb2 (show w1.heap.size < _ by simp)
      have hl1 : ∀ k, blksW (.slice An1 D.fn.length cn1) (.slice Al1 D.fl.length cl1) k → w.heap.size + 1 + 1 ≤ k ∧ k < w1.heap.size := fun k hk => by have := ho1.lt k hk; simp at this; omega
      have hl2 : ∀ k, blksW (.slice An2 D.nn.length cn2) (.slice Al2 D.nl.length cl2) k → w1.heap.size + 1 ≤ k ∧ k < w2.heap.size := fun k hk => by have := ho2.lt k hk; simp at this; omega
      have z1 : ¬ blksW (.slice An1 D.fn.length cn1) (.slice Al1 D.fl.length cl1) w1.heap.size := fun hk => by have := (hl1 _ hk).2; omega
      have z2 : ¬ blksW (.slice An2 D.nn.length cn2) (.slice Al2 D.nl.length cl2) w1.heap.size := fun hk => by have := (hl2 _ hk).1; omega
      have n0 : w.heap.size ≠ w1.heap.size := by omega
      have n1 : w.heap.size + 1 ≠ w1.heap.size := by omega
      have ho1' := (ho1.alloc' _).kept hb2
      exact ⟨_, rfl, cp_start (((((hX2.far (p := ⟨w1.heap.size, 0, none⟩) n0 _).far (p := ⟨w1.heap.size, 1, none⟩) n0 _).far (p := ⟨w1.heap.size, 2, none⟩) n0 _).far (p := ⟨w1.heap.size, 3, none⟩) n0 _).far (p := ⟨w1.heap.size, 4, none⟩) n0 _)
        (((((hR2.far (p := ⟨w1.heap.size, 0, none⟩) n1 _).far (p := ⟨w1.heap.size, 1, none⟩) n1 _).far (p := ⟨w1.heap.size, 2, none⟩) n1 _).far (p := ⟨w1.heap.size, 3, none⟩) n1 _).far (p := ⟨w1.heap.size, 4, none⟩) n1 _)
        (((((hZ2.set_ 0 _).set_ 1 _).set_ 2 _).set_ 3 _).set_ 4 _)
        (((((ho1'.setOff (p := ⟨w1.heap.size, 0, none⟩) z1 _).setOff (p := ⟨w1.heap.size, 1, none⟩) z1 _).setOff (p := ⟨w1.heap.size, 2, none⟩) z1 _).setOff (p := ⟨w1.heap.size, 3, none⟩) z1 _).setOff (p := ⟨w1.heap.size, 4, none⟩) z1 _)
        (((((ho2.setOff (p := ⟨w1.heap.size, 0, none⟩) z2 _).setOff (p := ⟨w1.heap.size, 1, none⟩) z2 _).setOff (p := ⟨w1.heap.size, 2, none⟩) z2 _).setOff (p := ⟨w1.heap.size, 3, none⟩) z2 _).setOff (p := ⟨w1.heap.size, 4, none⟩) z2 _)
        (fun k hk => by have := (hl1 k hk).2; simp; omega) (by simp) (by simp; omega) z1 z2 (by omega) (by (repeat' (first | (with_reducible exact Below.refl _ _) | (with_reducible assumption) | (with_reducible refine Below.drew ?_) | (with_reducible refine below_drewN ?_ _) | (with_reducible refine Below.alloc ?_ ?_ _) | (with_reducible refine Below.setCell ?_ ?_ _) | (with_reducible refine Below.step (by assumption) ?_ ?_))); all_goals (first | omega | (simp; done) | (simp; omega)))⟩
    · have hBB : Below (w.heap.size + 1 + 1 + 1) (((w.alloc (.cells #[v0, v1, v2, v3, .slice A D.ss.length c] 59)).alloc (.cells #[.slice none 0 0, .slice none 0 0, .slice none 0 0, .slice none 0 0, .slice none 0 0] 59)).alloc (.cells #[.slice none 0 0, .slice none 0 0, .slice none 0 0, .slice none 0 0, .slice none 0 0] 59)) w2 := by (repeat' (first | (with_reducible exact Below.refl _ _) | (with_reducible assumption) | (with_reducible refine Below.drew ?_) | (with_reducible refine below_drewN ?_ _) | (with_reducible refine Below.alloc ?_ ?_ _) | (with_reducible refine Below.setCell ?_ ?_ _) | (with_reducible refine Below.step (by assumption) ?_ ?_))); all_goals (first | omega | (simp; done) | (simp; omega))
      have hX2 := Blk.below (((Blk.newAt rfl).alloc _).alloc _) hBB (show w.heap.size < _ by omega)
      have hR2 := Blk.below ((Blk.newAt (by simp)).alloc _) hBB (show w.heap.size + 1 < _ by omega)
      have hZ2 := Blk.below (Blk.newAt (by simp)) hBB (show w.heap.size + 1 + 1 < _ by omega)
      have hl1 : ∀ k, blksW (.slice An1 D.fn.length cn1) (.slice Al1 D.fl.length cl1) k → w.heap.size + 1 + 1 + 1 ≤ k ∧ k < w1.heap.size := fun k hk => by have := ho1.lt k hk; simp at this; omega
      have hl2 := ho2.lt
      have z1 : ¬ blksW (.slice An1 D.fn.length cn1) (.slice Al1 D.fl.length cl1) (w.heap.size + 1 + 1) := fun hk => by have := (hl1 _ hk).1; omega
      have z2 : ¬ blksW (.slice An2 D.nn.length cn2) (.slice Al2 D.nl.length cl2) (w.heap.size + 1 + 1) := fun hk => by have := (hl2 _ hk).1; omega
      have n0 : w.heap.size ≠ w.heap.size + 1 + 1 := by omega
      have n1 : w.heap.size + 1 ≠ w.heap.size + 1 + 1 := by omega
      have ho1' := ho1.kept hb2
      exact ⟨_, rfl, cp_start (((((hX2.far (p := ⟨w.heap.size + 1 + 1, 0, none⟩) n0 _).far (p := ⟨w.heap.size + 1 + 1, 1, none⟩) n0 _).far (p := ⟨w.heap.size + 1 + 1, 2, none⟩) n0 _).far (p := ⟨w.heap.size + 1 + 1, 3, none⟩) n0 _).far (p := ⟨w.heap.size + 1 + 1, 4, none⟩) n0 _)
        (((((hR2.far (p := ⟨w.heap.size + 1 + 1, 0, none⟩) n1 _).far (p := ⟨w.heap.size + 1 + 1, 1, none⟩) n1 _).far (p := ⟨w.heap.size + 1 + 1, 2, none⟩) n1 _).far (p := ⟨w.heap.size + 1 + 1, 3, none⟩) n1 _).far (p := ⟨w.heap.size + 1 + 1, 4, none⟩) n1 _)
        (((((hZ2.set_ 0 _).set_ 1 _).set_ 2 _).set_ 3 _).set_ 4 _)
        (((((ho1'.setOff (p := ⟨w.heap.size + 1 + 1, 0, none⟩) z1 _).setOff (p := ⟨w.heap.size + 1 + 1, 1, none⟩) z1 _).setOff (p := ⟨w.heap.size + 1 + 1, 2, none⟩) z1 _).setOff (p := ⟨w.heap.size + 1 + 1, 3, none⟩) z1 _).setOff (p := ⟨w.heap.size + 1 + 1, 4, none⟩) z1 _)
        (((((ho2.setOff (p := ⟨w.heap.size + 1 + 1, 0, none⟩) z2 _).setOff (p := ⟨w.heap.size + 1 + 1, 1, none⟩) z2 _).setOff (p := ⟨w.heap.size + 1 + 1, 2, none⟩) z2 _).setOff (p := ⟨w.heap.size + 1 + 1, 3, none⟩) z2 _).setOff (p := ⟨w.heap.size + 1 + 1, 4, none⟩) z2 _)
        (fun k hk => (hl1 k hk).2) (by simp) (by omega) z1 z2 (by omega) (by (repeat' (first | (with_reducible exact Below.refl _ _) | (with_reducible assumption) | (with_reducible refine Below.drew ?_) | (with_reducible refine below_drewN ?_ _) | (with_reducible refine Below.alloc ?_ ?_ _) | (with_reducible refine Below.setCell ?_ ?_ _) | (with_reducible refine Below.step (by assumption) ?_ ?_))); all_goals (first | omega | (simp; done) | (simp; omega)))⟩
  case rest =>
    obtain ⟨Z, rfl, HS0⟩ := hcut
    have HS := Lib.hid HS0
    clear HS0
    obtain ⟨A0, c0, A1, c1, A2, c2, A3, c3, A4, c4, fs0, hO0, hX0, hR0, hZ0, hZl, hZn, hbw0⟩ := HS.out
    (have x_0 := hX0.cell 0); (have x_1 := hX0.cell 1); (have x_2 := hX0.cell 2); (have x_3 := hX0.cell 3); (have x_4 := hX0.cell 4); simp only [List.getElem?_toArray, List.getElem?_cons_succ, List.getElem?_cons_zero] at x_0 x_1 x_2 x_3 x_4
    have hX0l := hX0.lt
    clear hO0 hR0 hZ0 hZn
    go_wp2_with fail
    go_loopw [16] (fun i wr => ∃ k : Nat, k ≤ D.ss.length ∧ i = .int .i64 k ∧ Hid (CpSt w D v0 v1 v2 v3 (.slice A D.ss.length c) Z k wr)) (fun i _ => D.ss.length - (intOf i).toNat)
    case atStart => exact ⟨0, Nat.zero_le _, rfl, HS⟩
    case round =>
      obtain ⟨k, hk, rfl, HT⟩ := hrel
      clear HS hX0 x_0 x_1 x_2 x_3 x_4 hX0l hbw0
      clear A0 c0 A1 c1 A2 c2 A3 c3 A4 c4 fs0
      obtain ⟨A0, c0, A1, c1, A2, c2, A3, c3, A4, c4, fs, hO, hX, hR, hZ, hZl, hZn, hbl⟩ := HT.out
      clear HT
      have hfl : fs.length = k := by
        have := congrArg List.length hO.map
        simp at this
        omega
      subst hfl
      have hsz := hbl.size
      have hZlt := hZ.lt
      have hXlt := hX.lt
      (have x_0 := hX.cell 0); (have x_1 := hX.cell 1); (have x_2 := hX.cell 2); (have x_3 := hX.cell 3); (have x_4 := hX.cell 4); simp only [List.getElem?_toArray, List.getElem?_cons_succ, List.getElem?_cons_zero] at x_0 x_1 x_2 x_3 x_4
      by_cases hlt : fs.length < D.ss.length
      · obtain ⟨b, off, rfl, hb, hcl⟩ := hcell (by omega)
        obtain ⟨k0, k1, k2, vn, vl, k3, k4, hn, hl⟩ := hcl fs.length hlt
        obtain ⟨hw1, hw2⟩ := HLE.out.ws fs.length hlt
        obtain ⟨Av, cv, ev, _⟩ := hn.form
        obtain ⟨Au, cu, eu, _⟩ := hl.form
        subst ev eu
        have q0 := (hbl.cell (p := ⟨b, off + fs.length * 5, none⟩) hb).trans k0
        have q1 := (hbl.cell (p := ⟨b, off + fs.length * 5 + 1, none⟩) hb).trans k1
        have q2 := (hbl.cell (p := ⟨b, off + fs.length * 5 + 2, none⟩) hb).trans k2
        have q3 := (hbl.cell (p := ⟨b, off + fs.length * 5 + 3, none⟩) hb).trans k3
        have q4 := (hbl.cell (p := ⟨b, off + fs.length * 5 + 4, none⟩) hb).trans k4
        have hn' := Lib.hid (hn.below hbl)
        have hl' := Lib.hid (hl.below hbl)
        have hsk : Hid (D.ss.take (fs.length + 1) = D.ss.take fs.length ++ [D.ss[fs.length]]) := Lib.hid (List.take_succ_eq_append_getElem hlt)
        generalize D.ss[fs.length] = s at *
        clear k0 k1 k2 k3 k4 hcl hcell hn hl
        have HO := Lib.hid hO
        have HX := Lib.hid hX
        have HR := Lib.hid hR
        have HZ := Lib.hid hZ
        have HZN := Lib.hid hZn
        clear hO hX hR hZ hZn
        go_wp2_with fail
        obtain ⟨w2, hw2'⟩ : ∃ w2, w2 = wr.alloc (.cells #[.int .i64 s.k, .int .i64 s.a, .int .i64 s.b, .slice Av s.ns.length cv, .slice Au s.ls.length cu] 94) := ⟨_, rfl⟩
        rw [← hw2']
        have hbr2 : Below wr.heap.size wr w2 := hw2' ▸ (Below.refl _ _).alloc (Nat.le_refl _) _
        have hS2 : Blk w2 wr.heap.size 94 #[.int .i64 s.k, .int .i64 s.a, .int .i64 s.b, .slice Av s.ns.length cv, .slice Au s.ls.length cu] := hw2' ▸ Blk.newAt rfl
        clear hw2' q0 q1 q2 q3 q4 x_0 x_1 x_2 x_3 x_4
        have hS2l := hS2.lt
        refine (iCopy_any _ _ s.ns s.ls _ (hn'.out.below hbr2) (hl'.out.below hbr2) hw1 hw2).mono ?_
        rintro e w3 ⟨An, cn, Al, cl, rfl, ho3, hb3⟩
        have hbr3 : Below wr.heap.size wr w3 := hbr2.trans (hb3.mono hbr2.size)
        have hS3 := hS2.below hb3 hS2l
        have hO3 := HO.out.kept hbr3
        have hltO := HO.out.lt
        have hX3 := HX.out.below hbr3 hXlt
        have hR3 := HR.out.below hbr3 HR.out.lt
        have hZ3 := HZ.out.below hbr3 hZlt
        have hsz3 := hbr3.size
        have hbw3 := hbl.trans (hbr3.mono hsz)
        have hbase : w.heap.size + 1 + 1 ≤ wr.heap.size := by omega
        have ho3m := ho3.mono (show w.heap.size + 1 + 1 ≤ w2.heap.size from Nat.le_trans hbase hbr2.size)
        have hlt3 : ∀ b, blksW (.slice An s.ns.length cn) (.slice Al s.ls.length cl) b → wr.heap.size < b := fun b hb => by have := (ho3.lt b hb).1; omega
        have hS3l := hS3.lt
        have hnG : ¬ blksD (.slice A0 D.fn.length c0) (.slice A1 D.fl.length c1) (.slice A2 D.nn.length c2) (.slice A3 D.nl.length c3) (.slice A4 fs.length c4) fs wr.heap.size := fun hb => by have := (hltO _ hb).2; omega
        have hnW : ¬ blksW (.slice An s.ns.length cn) (.slice Al s.ls.length cl) wr.heap.size := fun hb => by have := hlt3 _ hb; omega
        have hnZ : ¬ blksW (.slice An s.ns.length cn) (.slice Al s.ls.length cl) Z := fun hb => by have := hlt3 _ hb; omega
        have hHN : Hid (∀ b, blksW (.slice An s.ns.length cn) (.slice Al s.ls.length cl) b → ¬ blksD (.slice A0 D.fn.length c0) (.slice A1 D.fl.length c1) (.slice A2 D.nn.length c2) (.slice A3 D.nl.length c3) (.slice A4 fs.length c4) fs b) := Lib.hid (fun b hb hb' => by have := hlt3 b hb; have := (hltO b hb').2; omega)
        have hHlt : Hid (∀ b, blksD (.slice A0 D.fn.length c0) (.slice A1 D.fl.length c1) (.slice A2 D.nn.length c2) (.slice A3 D.nl.length c3) (.slice A4 fs.length c4) fs b → w.heap.size + 1 + 1 ≤ b) := Lib.hid (fun b hb => (hltO b hb).1)
        have hHnZ := Lib.hid hnZ
        have hZG : Z ≠ wr.heap.size := by omega
        have hXG : w.heap.size ≠ wr.heap.size := by omega
        have hRG : w.heap.size + 1 ≠ wr.heap.size := by omega
        obtain ⟨w4, hw4⟩ : ∃ w4, w4 = (w3.setCell ⟨wr.heap.size, 3, none⟩ (.slice An s.ns.length cn)).setCell ⟨wr.heap.size, 4, none⟩ (.slice Al s.ls.length cl) := ⟨_, rfl⟩
        have hO4 : OwnD (w.heap.size + 1 + 1) w4 _ _ _ _ _ _ fs := hw4 ▸ (hO3.setFar (p := ⟨wr.heap.size, 3, none⟩) hnG _).setFar (p := ⟨wr.heap.size, 4, none⟩) hnG _
        have ho4 : OwnW (w.heap.size + 1 + 1) w4 _ _ s.ns s.ls := hw4 ▸ (ho3m.setOff (p := ⟨wr.heap.size, 3, none⟩) hnW _).setOff (p := ⟨wr.heap.size, 4, none⟩) hnW _
        have hX4 : Blk w4 w.heap.size _ _ := hw4 ▸ (hX3.far (p := ⟨wr.heap.size, 3, none⟩) hXG _).far (p := ⟨wr.heap.size, 4, none⟩) hXG _
        have hR4 : Blk w4 (w.heap.size + 1) _ _ := hw4 ▸ (hR3.far (p := ⟨wr.heap.size, 3, none⟩) hRG _).far (p := ⟨wr.heap.size, 4, none⟩) hRG _
        have hZ4 : Blk w4 Z _ _ := hw4 ▸ (hZ3.far (p := ⟨wr.heap.size, 3, none⟩) hZG _).far (p := ⟨wr.heap.size, 4, none⟩) hZG _
        have hbw4 : Below w.heap.size w w4 := hw4 ▸ (hbw3.setCell (p := ⟨wr.heap.size, 3, none⟩) (show w.heap.size ≤ wr.heap.size from hsz) _).setCell (p := ⟨wr.heap.size, 4, none⟩) (show w.heap.size ≤ wr.heap.size from hsz) _
        have hsz4 : w4.heap.size = w3.heap.size := by rw [hw4]; simp
        have hHO4 := Lib.hid (hO4.alloc (.cells #[.int .i64 s.k, .int .i64 s.a, .int .i64 s.b, .slice An s.ns.length cn, .slice Al s.ls.length cl] 94))
        have hHo4 := Lib.hid (ho4.alloc' (.cells #[.int .i64 s.k, .int .i64 s.a, .int .i64 s.b, .slice An s.ns.length cn, .slice Al s.ls.length cl] 94))
        have hHX4 := Lib.hid (hX4.alloc (.cells #[.int .i64 s.k, .int .i64 s.a, .int .i64 s.b, .slice An s.ns.length cn, .slice Al s.ls.length cl] 94))
        have hHR4 := Lib.hid (hR4.alloc (.cells #[.int .i64 s.k, .int .i64 s.a, .int .i64 s.b, .slice An s.ns.length cn, .slice Al s.ls.length cl] 94))
        have hHZ4 := Lib.hid (hZ4.alloc (.cells #[.int .i64 s.k, .int .i64 s.a, .int .i64 s.b, .slice An s.ns.length cn, .slice Al s.ls.length cl] 94))
        have hsE : (w4.alloc (.cells #[.int .i64 s.k, .int .i64 s.a, .int .i64 s.b, .slice An s.ns.length cn, .slice Al s.ls.length cl] 94)).heap.size = w3.heap.size + 1 := by simp [hsz4]
        have hfs20 : fs.length ≤ 1048576 := by have := HLE.out.ss; omega
        have hHL4 : Hid (∀ (j : Nat) (u : Value), (sfc (s, .slice An s.ns.length cn, .slice Al s.ls.length cl))[j]? = some u → (w4.alloc (.cells #[.int .i64 s.k, .int .i64 s.a, .int .i64 s.b, .slice An s.ns.length cn, .slice Al s.ls.length cl] 94)).cell? ((⟨w3.heap.size, 0, none⟩ : Addr).add j) = some u) := Lib.hid (lit_step hsz4.symm rfl)
        have hHB4 := Lib.hid (hbw4.alloc hbw4.size (.cells #[.int .i64 s.k, .int .i64 s.a, .int .i64 s.b, .slice An s.ns.length cn, .slice Al s.ls.length cl] 94))
        have hb20 : w.heap.size + 1 + 1 ≤ (w4.alloc (.cells #[.int .i64 s.k, .int .i64 s.a, .int .i64 s.b, .slice An s.ns.length cn, .slice Al s.ls.length cl] 94)).heap.size := by simp; omega
        (have s_0 := hS3.cell 0); (have s_1 := hS3.cell 1); (have s_2 := hS3.cell 2); (have s_3 := hS3.cell 3); (have s_4 := hS3.cell 4); simp only [List.getElem?_toArray, List.getElem?_cons_succ, List.getElem?_cons_zero] at s_0 s_1 s_2 s_3 s_4; (have s_f0 := hS3.frozen 0); (have s_f1 := hS3.frozen 1); (have s_f2 := hS3.frozen 2); (have s_f3 := hS3.frozen 3); (have s_f4 := hS3.frozen 4)
        (have z_0 := hZ3.cell 0); (have z_1 := hZ3.cell 1); (have z_2 := hZ3.cell 2); (have z_3 := hZ3.cell 3); (have z_4 := hZ3.cell 4); simp only [List.getElem?_toArray, List.getElem?_cons_succ, List.getElem?_cons_zero] at z_0 z_1 z_2 z_3 z_4
        have hz3l := hZ3.lt
        clear hb3 hS2 hn' hl' HO HX HR HZ hbl ho3 ho3m hO3 hX3 hR3 hZ3 hbr3 hbr2 hbw3 hS2l hO4 ho4 hX4 hR4 hZ4 hltO hlt3 hnG hnW hnZ
        clear hsz4
        subst hw4
        go_wp2_with (at_builtin; refine wpList_append_step rfl _ _ _ rfl (w.heap.size + 1 + 1) 94 i0 Try.underlying57 hi iz0 iz1 iz2 (.slice A4 fs.length c4) fs (s, .slice An s.ns.length cn, .slice Al s.ls.length cl) ⟨w3.heap.size, 0, none⟩ 1 rfl rfl hHO4.out.ss.row hHL4.out (sfc_one _ _ _ _ _ _ _ rfl rfl) hfs20 hb20 ?_)
        intro A5 c5 w5 hr5 hg5 ha5
        have hO5 := hHO4.out.snoc (f := (s, .slice An s.ns.length cn, .slice Al s.ls.length cl)) (by rw [List.flatMap_append]; simpa using hr5) hg5 (by rw [hsE]; exact ha5) hHo4.out hHN.out
        have hX5 := hHX4.out.grownR hg5 (fun k hk e => by have := hHlt.out k (.inr (.inr (.inl hk))); omega)
        have hR5 := hHR4.out.grownR hg5 (fun k hk e => by have := hHlt.out k (.inr (.inr (.inl hk))); omega)
        have hZ5 := hHZ4.out.grownR hg5 (fun k hk e => HZN.out (e ▸ .inr (.inr (.inl hk))))
        have hb5 := hHB4.out.grown hg5 hHB4.out.size (fun k hk => by have := hHlt.out k (.inr (.inr (.inl hk))); omega)
        have hZn5 : ¬ blksD (.slice A0 D.fn.length c0) (.slice A1 D.fl.length c1) (.slice A2 D.nn.length c2) (.slice A3 D.nl.length c3) (.slice A5 (fs.length + 1) c5) (fs ++ [(s, .slice An s.ns.length cn, .slice Al s.ls.length cl)]) Z := by
          intro hz
          rcases blksD_snoc ha5 hz with h1 | h1 | h1
          · exact HZN.out h1
          · omega
          · exact hHnZ.out h1
        have hO6 := hO5.setFar (p := ⟨Z, 4, none⟩) hZn5 (.slice A5 (fs.length + 1) c5)
        have hO7 : OwnD (w.heap.size + 1 + 1) (w5.setCell ⟨Z, 4, none⟩ (.slice A5 (fs.length + 1) c5)) (.slice A0 D.fn.length c0) (.slice A1 D.fl.length c1) (.slice A2 D.nn.length c2) (.slice A3 D.nl.length c3) (.slice A5 (fs.length + 1) c5) ⟨D.fn, D.fl, D.nn, D.nl, D.ss.take (fs.length + 1)⟩ (fs ++ [(s, .slice An s.ns.length cn, .slice Al s.ls.length cl)]) := by
          rw [hsk.out]; exact hO6
        have HFIN : Hid (CpSt w D v0 v1 v2 v3 (.slice (some ⟨b, off, none⟩) D.ss.length c) Z (fs.length + 1) (w5.setCell ⟨Z, 4, none⟩ (.slice A5 (fs.length + 1) c5))) :=
          Lib.hid ⟨A0, c0, A1, c1, A2, c2, A3, c3, A5, c5, _, hO7, hX5.far (p := ⟨Z, 4, none⟩) (by show _ ≠ Z; omega) _, hR5.far (p := ⟨Z, 4, none⟩) (by show _ ≠ Z; omega) _, hZ5.set_ 4 _, hZl, hZn5, hb5.setCell (p := ⟨Z, 4, none⟩) (by show w.heap.size ≤ Z; omega) _⟩
        (have y_0 := hZ5.cell 0); (have y_1 := hZ5.cell 1); (have y_2 := hZ5.cell 2); (have y_3 := hZ5.cell 3); (have y_4 := hZ5.cell 4); simp only [List.getElem?_toArray, List.getElem?_cons_succ, List.getElem?_cons_zero] at y_0 y_1 y_2 y_3 y_4; (have y_f0 := hZ5.frozen 0); (have y_f1 := hZ5.frozen 1); (have y_f2 := hZ5.frozen 2); (have y_f3 := hZ5.frozen 3); (have y_f4 := hZ5.frozen 4)
        clear hO5 hO6 hO7 hX5 hR5 hZ5 hb5 hZn5 hr5 hg5 ha5 hHO4 hHo4 hHX4 hHR4 hHZ4 hHL4 hHB4 hHN hHlt hHnZ HZN hsk s_0 s_1 s_2 s_3 s_4 s_f0 s_f1 s_f2 s_f3 s_f4 z_0 z_1 z_2 z_3 z_4
        go_wp2
        go_roundw
        case rel => exact ⟨fs.length + 1, by omega, by go_num, HFIN⟩
        case measure => simp [intOf]; omega
      · have hkk : fs.length = D.ss.length := by omega
        have hO' : OwnD (w.heap.size + 1 + 1) wr (.slice A0 D.fn.length c0) (.slice A1 D.fl.length c1) (.slice A2 D.nn.length c2) (.slice A3 D.nl.length c3) (.slice A4 D.ss.length c4) D fs := by
          have := hO
          rw [hkk, List.take_length] at this
          exact this
        rw [hkk] at hZ
        (have z_0 := hZ.cell 0); (have z_1 := hZ.cell 1); (have z_2 := hZ.cell 2); (have z_3 := hZ.cell 3); (have z_4 := hZ.cell 4); simp only [List.getElem?_toArray, List.getElem?_cons_succ, List.getElem?_cons_zero] at z_0 z_1 z_2 z_3 z_4
        (have r_0 := hR.cell 0); (have r_1 := hR.cell 1); (have r_2 := hR.cell 2); (have r_3 := hR.cell 3); (have r_4 := hR.cell 4); simp only [List.getElem?_toArray, List.getElem?_cons_succ, List.getElem?_cons_zero] at r_0 r_1 r_2 r_3 r_4; (have r_f0 := hR.frozen 0); (have r_f1 := hR.frozen 1); (have r_f2 := hR.frozen 2); (have r_f3 := hR.frozen 3); (have r_f4 := hR.frozen 4)
        have hRlt := hR.lt
        have hlo : ∀ k, blksD (.slice A0 D.fn.length c0) (.slice A1 D.fl.length c1) (.slice A2 D.nn.length c2) (.slice A3 D.nl.length c3) (.slice A4 D.ss.length c4) fs k → w.heap.size + 1 < k := fun k hk => (hO'.lt k hk).1
        have step : ∀ (W : World) (j : Nat) (u : Value), OwnD w.heap.size W (.slice A0 D.fn.length c0) (.slice A1 D.fl.length c1) (.slice A2 D.nn.length c2) (.slice A3 D.nl.length c3) (.slice A4 D.ss.length c4) D fs → OwnD w.heap.size (W.setCell ⟨w.heap.size + 1, j, none⟩ u) (.slice A0 D.fn.length c0) (.slice A1 D.fl.length c1) (.slice A2 D.nn.length c2) (.slice A3 D.nl.length c3) (.slice A4 D.ss.length c4) D fs :=
          fun W j u hW => hW.setFar (p := ⟨w.heap.size + 1, j, none⟩) (fun hk => by have h2 : w.heap.size + 1 < w.heap.size + 1 := hlo _ hk; omega) u
        have HH : ∀ u0 u1 u2 u3 u4, Hid (OwnD w.heap.size (((((wr.setCell ⟨w.heap.size + 1, 0, none⟩ u0).setCell ⟨w.heap.size + 1, 1, none⟩ u1).setCell ⟨w.heap.size + 1, 2, none⟩ u2).setCell ⟨w.heap.size + 1, 3, none⟩ u3).setCell ⟨w.heap.size + 1, 4, none⟩ u4) (.slice A0 D.fn.length c0) (.slice A1 D.fl.length c1) (.slice A2 D.nn.length c2) (.slice A3 D.nl.length c3) (.slice A4 D.ss.length c4) D fs) := fun u0 u1 u2 u3 u4 =>
          Lib.hid (step _ _ _ (step _ _ _ (step _ _ _ (step _ _ _ (step _ _ _ (hO'.mono (by omega)))))))
        have HB : ∀ u0 u1 u2 u3 u4, Hid (Below w.heap.size w (((((wr.setCell ⟨w.heap.size + 1, 0, none⟩ u0).setCell ⟨w.heap.size + 1, 1, none⟩ u1).setCell ⟨w.heap.size + 1, 2, none⟩ u2).setCell ⟨w.heap.size + 1, 3, none⟩ u3).setCell ⟨w.heap.size + 1, 4, none⟩ u4)) := fun u0 u1 u2 u3 u4 => Lib.hid
          (((((hbl.setCell (p := ⟨w.heap.size + 1, 0, none⟩) (by first | omega | (simp; done) | (simp; omega)) u0).setCell (p := ⟨w.heap.size + 1, 1, none⟩) (by first | omega | (simp; done) | (simp; omega)) u1).setCell (p := ⟨w.heap.size + 1, 2, none⟩) (by first | omega | (simp; done) | (simp; omega)) u2).setCell (p := ⟨w.heap.size + 1, 3, none⟩) (by first | omega | (simp; done) | (simp; omega)) u3).setCell (p := ⟨w.heap.size + 1, 4, none⟩) (by first | omega | (simp; done) | (simp; omega)) u4)
        have hcx : ¬ ((fs.length : Int) < (D.ss.length : Int)) := by omega
        clear hO hO' hlo step hcell hbl hX hZ hR hZn
        go_wp2
        exact bodyPost_ret (v := .agg #[.slice A0 D.fn.length c0, .slice A1 D.fl.length c1, .slice A2 D.nn.length c2, .slice A3 D.nl.length c3, .slice A4 D.ss.length c4]) (by simp [results, Try.results79, go_sem, r_0, r_1, r_2, r_3, r_4, hRlt]) rfl ⟨_, _, _, _, _, _, _, _, _, _, fs, rfl, (HH _ _ _ _ _).out, (HB _ _ _ _ _).out⟩

end Go.Proofs.Ytnpdincjekelaaa

namespace Go.Proofs.Ytnpdincjekelaaa
open Go.RowKit

/-- Steps of running numbers, of the sizes of the given ones. -/
def markS : Int → List Sp → List Sp
  | _, [] => []
  | a, s :: r => ⟨a, a + 1, a + 2, runP (a + 3) s.ns.length, runP (a + 3 + 2 * s.ns.length) s.ls.length⟩ :: markS (a + 3 + 2 * s.ns.length + 2 * s.ls.length) r

def markT : Int → List SF → List SF
  | _, [] => []
  | a, f :: r => (⟨a, a + 1, a + 2, runP (a + 3) f.1.ns.length, runP (a + 3 + 2 * f.1.ns.length) f.1.ls.length⟩, f.2) :: markT (a + 3 + 2 * f.1.ns.length + 2 * f.1.ls.length) r

def cntS : List Sp → Nat
  | [] => 0
  | s :: r => 3 + 2 * s.ns.length + 2 * s.ls.length + cntS r

theorem markT_map : ∀ (fs : List SF) (a : Int), (markT a fs).map Prod.fst = markS a (fs.map Prod.fst)
  | [], _ => rfl
  | f :: r, a => by simp only [markT, markS, List.map_cons, markT_map r]

theorem markT_length : ∀ (fs : List SF) (a : Int), (markT a fs).length = fs.length
  | [], _ => rfl
  | f :: r, a => by simp only [markT, List.length_cons, markT_length r]

theorem markS_length : ∀ (l : List Sp) (a : Int), (markS a l).length = l.length
  | [], _ => rfl
  | f :: r, a => by simp only [markS, List.length_cons, markS_length r]

theorem markT_snd : ∀ (fs : List SF) (a : Int), (markT a fs).map Prod.snd = fs.map Prod.snd
  | [], _ => rfl
  | f :: r, a => by simp only [markT, List.map_cons, markT_snd r]

theorem cntS_eq : ∀ l : List Sp, cntS l = 3 * l.length + 2 * sumT l
  | [] => rfl
  | s :: r => by simp only [cntS, sumT, List.length_cons, cntS_eq r]; omega

/-- The blocks are those of the values. -/
theorem blksT_snd {v : Value} {fs gs : List SF} (h : gs.map Prod.snd = fs.map Prod.snd) (b : Nat) : blksT v gs b → blksT v fs b := by
  have hl : gs.length = fs.length := by simpa using congrArg List.length h
  rintro (hb | ⟨k, hk, hb⟩)
  · exact .inl hb
  · refine .inr ⟨k, by omega, ?_⟩
    have e : gs[k].2 = fs[k].2 := by
      have h1 : (gs.map Prod.snd)[k]'(by simpa using hk) = (fs.map Prod.snd)[k]'(by simp; omega) := by simp only [h]
      simpa using h1
    rw [← e]
    exact hb

theorem map_set_same {α β : Type} (f : α → β) : ∀ (l : List α) (k : Nat) (x : α) (hk : k < l.length), f x = f l[k] → (l.set k x).map f = l.map f
  | [], k, x, hk, _ => absurd hk (by simp)
  | a :: l, 0, x, hk, h => by simpa using h
  | a :: l, k + 1, x, hk, h => by
    rw [List.set_cons_succ, List.map_cons, List.map_cons, map_set_same f l k x (by simpa using hk) (by simpa using h)]

/-- A callee has turned a step's window alone. -/
theorem OwnT.rewin {base : Nat} {w w' : World} {v : Value} {fs : List SF} {S : Nat → Prop} (h : OwnT base w v fs) {q : Nat} (hq : q < fs.length) {f : SF} (ht : Turns S w w') (hS : ∀ b, S b → blksW fs[q].2.1 fs[q].2.2 b) (hc : sfc f = sfc fs[q]) (hv : f.2 = fs[q].2)
    (hf : OwnW base w' f.2.1 f.2.2 f.1.ns f.1.ls) : OwnT base w' v (fs.set q f) := by
  have hflat : (fs.set q f).flatMap sfc = fs.flatMap sfc := by
    rw [List.flatMap_def, List.flatMap_def, map_set_same sfc fs q f hq hc]
  refine ⟨by rw [List.length_set, hflat]; exact own_turned h.row ht (fun b hb hs => h.rw_ q hq b hb (hS b hs)), fun k hk => ?_, fun k hk b hb => ?_, fun i j hi hj hne b => ?_⟩
  · rw [List.length_set] at hk
    rw [List.getElem_set]
    split
    · exact hf
    · rename_i hne
      exact (h.win k hk).turned ht (fun b hb hs => h.ww k q hk hq (by omega) b hb (hS b hs))
  · rw [List.length_set] at hk
    rw [List.getElem_set]
    split
    · rw [hv]; exact h.rw_ q hq b hb
    · exact h.rw_ k hk b hb
  · rw [List.length_set] at hi hj
    rw [List.getElem_set, List.getElem_set]
    split
    · rename_i e1
      rw [if_neg (by omega), hv]
      exact h.ww q j hq hj (by omega) b
    · split
      · rename_i e2
        rw [hv]
        exact h.ww i q hi hq (by omega) b
      · exact h.ww i j hi hj hne b

set_option maxHeartbeats 8000000 in
set_option maxRecDepth 100000 in
theorem markStepS_any (base : Nat) (v : Value) (fs : List SF) (a : Int) (w : World) (h : OwnT base w v fs) (ha : 0 ≤ a) (hb : a + cntS (fs.map Prod.fst) ≤ 1000000000000) :
    Calls Try.prog 81 #[v, .int .i64 a] w fun e w' => e = .returned (.int .i64 (a + cntS (fs.map Prod.fst))) ∧ OwnT base w' v (markT a fs) ∧ Turns (blksT v fs) w w' := by
  rcases hcase : h.row.2 with ⟨rfl, hn⟩ | ⟨g, cap, cur, rfl, hbg, hh, hnc, hcm, hsz, hxs⟩
  · have hz : fs = [] := List.eq_nil_of_length_eq_zero hn
    subst hz
    clear hcase hn hb
    go_enter Try.func81, Try.ntmps81
    go_wp2
    go_loop [1, 5] (fun x i => i = .int .i64 0 ∧ x = .int .i64 a) (fun _ _ => 0)
    case atStart => exact ⟨rfl, rfl⟩
    case round =>
      obtain ⟨rfl, rfl⟩ := hrel
      go_wp2
      go_ret
      exact ⟨by simp [cntS], OwnT.nil _ _, Turns.refl _ _⟩
  · clear hcase hh hxs hsz
    obtain ⟨T, hT⟩ : ∃ T, a + (cntS (fs.map Prod.fst) : Int) = T := ⟨_, rfl⟩
    rw [hT]
    have HT := Lib.hid hT
    have hTm : T ≤ 1000000000000 := by omega
    have HO := Lib.hid h
    clear h hb hT
    unfold maxLen at hcm
    go_enter Try.func81, Try.ntmps81
    go_wp2
    go_loopw [1, 5] (fun y i wr => ∃ (k : Nat) (x : Int) (ds : List SF), k ≤ fs.length ∧ i = .int .i64 k ∧ y = .int .i64 x ∧ 0 ≤ x ∧ ds.length = k ∧ Hid (ds ++ markT x (fs.drop k) = markT a fs) ∧ Hid (x + (cntS ((fs.drop k).map Prod.fst) : Int) = T) ∧ Hid ((ds ++ fs.drop k).map Prod.snd = fs.map Prod.snd) ∧
        Hid (OwnT base wr (.slice (some ⟨g, 0, none⟩) fs.length cap) (ds ++ fs.drop k)) ∧ Hid (Turns (blksT (.slice (some ⟨g, 0, none⟩) fs.length cap) fs) w wr)) (fun _ i _ => fs.length - (intOf i).toNat)
    case atStart => exact ⟨0, a, [], Nat.zero_le _, rfl, rfl, ha, rfl, Lib.hid (by simp), Lib.hid (by simpa using HT.out), Lib.hid (by simp), Lib.hid (by simpa using HO.out), Lib.hid (Turns.refl _ _)⟩
    case round =>
      obtain ⟨k, x, ds, hk, rfl, rfl, hx0, hdl, HM, HC, HS, HW, HTU⟩ := hrel
      clear HO
      by_cases hlt : k < fs.length
      · have hO := HW.out
        have hdr : fs.drop k = fs[k] :: fs.drop (k + 1) := List.drop_eq_getElem_cons hlt
        have hM := HM.out
        have hC := HC.out
        have hS := HS.out
        rw [hdr] at hO hM hC hS
        generalize fs[k] = f at *
        obtain ⟨⟨sk, sa, sb, ns, ls⟩, vn, vl⟩ := f
        simp only [markT, cntS, List.map_cons] at hM hC
        have hkq : k < (ds ++ (⟨sk, sa, sb, ns, ls⟩, vn, vl) :: fs.drop (k + 1)).length := by simp; omega
        have hgl : (ds ++ (⟨sk, sa, sb, ns, ls⟩, vn, vl) :: fs.drop (k + 1)).length = fs.length := by simp; omega
        have hgk : (ds ++ ((⟨sk, sa, sb, ns, ls⟩, vn, vl) : SF) :: fs.drop (k + 1))[k] = (⟨sk, sa, sb, ns, ls⟩, vn, vl) := by
          rw [List.getElem_append_right (by omega)]; simp [hdl]
        have hset : ∀ f' : SF, (ds ++ ((⟨sk, sa, sb, ns, ls⟩, vn, vl) : SF) :: fs.drop (k + 1)).set k f' = ds ++ f' :: fs.drop (k + 1) := fun f' => by
          rw [List.set_append, if_neg (by omega), hdl, Nat.sub_self, List.set_cons_zero]
        have hw0 := hO.win k hkq
        have hr0 := hO.rw_ k hkq
        have hww := fun j hj (hne : j ≠ k) b => hO.ww k j hkq hj (Ne.symm hne) b
        rw [hgk] at hw0 hr0 hww
        obtain ⟨Av, cv, ev⟩ := hw0.1.form
        obtain ⟨Au, cu, eu⟩ := hw0.2.1.form
        dsimp only at ev eu
        subst ev eu
        have hrow := hO.row
        rw [hgl] at hrow
        have y0 := hrow.cellAt (k * 5 + 0) (by omega)
        have y1 := hrow.cellAt (k * 5 + 1) (by omega)
        have y2 := hrow.cellAt (k * 5 + 2) (by omega)
        rw [flat_get sfc 5 (fun _ => rfl) _ k _ hkq (by omega), hgk] at y0 y1 y2
        simp only [sfc, Nat.add_zero, List.getElem?_cons_zero, List.getElem?_cons_succ] at y0 y1 y2
        have f0 := hrow.frozenAt (k * 5)
        have f1 := hrow.frozenAt (k * 5 + 1)
        have f2 := hrow.frozenAt (k * 5 + 2)
        obtain ⟨r0, t0⟩ := hrow.stored (k * 5 + 0) (.int .i64 x)
        obtain ⟨r1, t1⟩ := r0.stored (k * 5 + 1) (.int .i64 (x + 1))
        obtain ⟨r2, t2⟩ := r1.stored (k * 5 + 2) (.int .i64 (x + 2))
        rw [flat_setT _ k 0 _ (⟨x, sa, sb, ns, ls⟩, .slice Av ns.length cv, .slice Au ls.length cu) hkq (by omega) (by rw [hgk]; rfl),
          flat_setT _ k 1 _ (⟨x, x + 1, sb, ns, ls⟩, .slice Av ns.length cv, .slice Au ls.length cu) (by rw [List.length_set]; exact hkq) (by omega) (by rw [List.getElem_set_self]; rfl),
          flat_setT _ k 2 _ (⟨x, x + 1, x + 2, ns, ls⟩, .slice Av ns.length cv, .slice Au ls.length cu) (by rw [List.length_set, List.length_set]; exact hkq) (by omega) (by rw [List.getElem_set_self]; rfl),
          List.set_set, List.set_set] at r2
        have ht3 := Turns.trans (Turns.trans (Turns.ofGrown (S := fun b => b = g) t0 (fun k hk => by cases hk; rfl)) (Turns.ofGrown t1 (fun k hk => by cases hk; rfl))) (Turns.ofGrown t2 (fun k hk => by cases hk; rfl))
        have hput := hO.put hkq hgl.symm r2 ht3 (f := (⟨x, x + 1, x + 2, ns, ls⟩, .slice Av ns.length cv, .slice Au ls.length cu)) hw0 (fun hb => hr0 g rfl hb) (fun j hj hne b hb => hww j hj hne b hb)
        rw [hset, Nat.add_zero] at hput
        have hSg : blksT (.slice (some ⟨g, 0, none⟩) fs.length cap) fs g := .inl rfl
        have hSw : ∀ b, blksW (.slice Av ns.length cv) (.slice Au ls.length cu) b → blksT (.slice (some ⟨g, 0, none⟩) fs.length cap) fs b := fun b hb => blksT_snd hS b (.inr ⟨k, hkq, by rw [hgk]; exact hb⟩)
        have HTU3 := Lib.hid (HTU.out.trans (ht3.mono (fun b hb => by subst hb; exact hSg)))
        rw [Nat.add_zero] at HTU3
        have HP := Lib.hid hput
        have HSW := Lib.hid hSw
        have HM2 := Lib.hid hM
        have HC2 := Lib.hid hC
        have HS2 : Hid ((ds ++ ((⟨x, x + 1, x + 2, ns, ls⟩, .slice Av ns.length cv, .slice Au ls.length cu) : SF) :: fs.drop (k + 1)).map Prod.snd = fs.map Prod.snd) := Lib.hid (by rw [← hS]; simp)
        have hsm : x + 3 + 2 * (ns.length : Int) + 2 * (ls.length : Int) ≤ T := by omega
        clear r0 r1 r2 t0 t1 t2 ht3 hput hSw hM hC hS hO hrow hset hgk hw0 hr0 hww HM HC HS HW HTU hkq hgl hdr
        go_upto_region 10 with (fail)
        rw [show x + 1 + 1 + 1 = x + 3 by omega, show x + 1 + 1 = x + 2 by omega]
        obtain ⟨w3, hw3⟩ : ∃ w3, w3 = ((wr.setCell ⟨g, k * 5, none⟩ (.int .i64 x)).setCell ⟨g, k * 5 + 1, none⟩ (.int .i64 (x + 1))).setCell ⟨g, k * 5 + 2, none⟩ (.int .i64 (x + 2)) := ⟨_, rfl⟩
        rw [← hw3]
        have hP3 : OwnT base w3 (.slice (some ⟨g, 0, none⟩) fs.length cap) (ds ++ ((⟨x, x + 1, x + 2, ns, ls⟩, .slice Av ns.length cv, .slice Au ls.length cu) : SF) :: fs.drop (k + 1)) := hw3 ▸ HP.out
        have HTU4 : Hid (Turns (blksT (.slice (some ⟨g, 0, none⟩) fs.length cap) fs) w w3) := Lib.hid (hw3 ▸ HTU3.out)
        clear hw3 HP HTU3 y0 y1 y2 f0 f1 f2
        have hgl : ∀ f' : SF, (ds ++ f' :: fs.drop (k + 1)).length = fs.length := fun f' => by simp; omega
        have hkq : ∀ f' : SF, k < (ds ++ f' :: fs.drop (k + 1)).length := fun f' => by rw [hgl]; exact hlt
        have hgk : ∀ (f' : SF) (h : k < (ds ++ f' :: fs.drop (k + 1)).length), (ds ++ f' :: fs.drop (k + 1))[k]'h = f' := fun f' _ => by
          rw [List.getElem_append_right (by omega)]; simp [hdl]
        have hset : ∀ f' f'' : SF, (ds ++ f'' :: fs.drop (k + 1)).set k f' = ds ++ f' :: fs.drop (k + 1) := fun f' f'' => by
          rw [List.set_append, if_neg (by omega), hdl, Nat.sub_self, List.set_cons_zero]
        have hrow := hP3.row
        rw [hgl] at hrow
        have y3 := hrow.cellAt (k * 5 + 3) (by omega)
        rw [flat_get sfc 5 (fun _ => rfl) _ k _ (hkq _) (by omega), hgk] at y3
        simp only [sfc, List.getElem?_cons_zero, List.getElem?_cons_succ] at y3
        have hw0 := hP3.win k (hkq _)
        rw [hgk] at hw0
        have HP3 := Lib.hid hP3
        have HGL := Lib.hid hgl
        have HKQ := Lib.hid hkq
        have HGK := Lib.hid hgk
        have HSET := Lib.hid hset
        clear hrow hP3 hgl hkq hgk hset
        go_wp2_with fail
        refine (markNodeS_any base _ ns (x + 3) _ hw0.1 (by omega) (by omega)).mono ?_
        rintro e w4 ⟨rfl, ho4, hg4⟩
        have ht4 : Turns (fun b => (Value.slice Av ns.length cv).ownBlock = some b) w3 w4 := Turns.ofGrown hg4 (fun b hb => hb)
        have hP4 := HP3.out.rewin (HKQ.out _) (f := (⟨x, x + 1, x + 2, runP (x + 3) ns.length, ls⟩, .slice Av ns.length cv, .slice Au ls.length cu)) ht4 (fun b hb => by rw [HGK.out]; exact .inl hb) (by rw [HGK.out]; rfl) (by rw [HGK.out])
          ⟨by have e5 := ho4; exact e5, hw0.2.1.turned ht4 (fun b hb hb' => hw0.2.2 b hb' hb), hw0.2.2⟩
        rw [HSET.out] at hP4
        have HTU5 := Lib.hid (HTU4.out.trans (ht4.mono (fun b hb => HSW.out b (.inl hb))))
        clear ht4 hg4 ho4 hw0 HTU4 HP3 y3
        have hrow := hP4.row
        rw [HGL.out] at hrow
        have y4 := hrow.cellAt (k * 5 + 4) (by omega)
        rw [flat_get sfc 5 (fun _ => rfl) _ k _ (HKQ.out _) (by omega), HGK.out] at y4
        simp only [sfc, List.getElem?_cons_zero, List.getElem?_cons_succ] at y4
        have hw1 := hP4.win k (HKQ.out _)
        rw [HGK.out] at hw1
        have HP4 := Lib.hid hP4
        clear hrow hP4
        go_wp2_with fail
        refine (markLeadS_any base _ ls (x + 3 + 2 * ns.length) _ hw1.2.1 (by omega) (by omega)).mono ?_
        rintro e w5 ⟨rfl, ho5, hg5⟩
        have ht5 : Turns (fun b => (Value.slice Au ls.length cu).ownBlock = some b) w4 w5 := Turns.ofGrown hg5 (fun b hb => hb)
        have hP5 := HP4.out.rewin (HKQ.out _) (f := (⟨x, x + 1, x + 2, runP (x + 3) ns.length, runP (x + 3 + 2 * ns.length) ls.length⟩, .slice Av ns.length cv, .slice Au ls.length cu)) ht5 (fun b hb => by rw [HGK.out]; exact .inr hb) (by rw [HGK.out]; rfl) (by rw [HGK.out])
          ⟨hw1.1.turned ht5 (fun b hb hb' => hw1.2.2 b hb hb'), ho5, hw1.2.2⟩
        rw [HSET.out] at hP5
        have HTU6 := Lib.hid (HTU5.out.trans (ht5.mono (fun b hb => HSW.out b (.inr hb))))
        have HP5 : Hid (OwnT base w5 (.slice (some ⟨g, 0, none⟩) fs.length cap) ((ds ++ [(⟨x, x + 1, x + 2, runP (x + 3) ns.length, runP (x + 3 + 2 * ns.length) ls.length⟩, .slice Av ns.length cv, .slice Au ls.length cu)]) ++ fs.drop (k + 1))) := Lib.hid (by rw [List.append_assoc]; exact hP5)
        clear ht5 hg5 ho5 hw1 HTU5 HP4 hP5 y4
        go_wp2
        go_roundw
        case rel => exact ⟨k + 1, x + 3 + 2 * ns.length + 2 * ls.length, ds ++ [(⟨x, x + 1, x + 2, runP (x + 3) ns.length, runP (x + 3 + 2 * ns.length) ls.length⟩, .slice Av ns.length cv, .slice Au ls.length cu)], by omega, by go_num, rfl, by omega, by simp [hdl], Lib.hid (by rw [List.append_assoc]; exact HM2.out), Lib.hid (by have := HC2.out; omega), Lib.hid (by rw [← HS2.out]; simp), HP5, HTU6⟩
        case measure => simp [intOf]; omega
      · have hkk : k = fs.length := by omega
        have hM := HM.out
        have hC := HC.out
        have hW := HW.out
        rw [hkk, List.drop_length] at hM hC hW
        simp only [markT, cntS, List.append_nil, List.map_nil] at hM hC hW
        have HF : Hid (OwnT base wr (.slice (some ⟨g, 0, none⟩) fs.length cap) (markT a fs)) := Lib.hid (hM ▸ hW)
        have hxT : x = T := by omega
        subst hxT
        clear hM hC hW HM HC HW HS
        go_wp2
        go_ret
        exact ⟨rfl, HF.out, HTU.out⟩

theorem markS_get : ∀ (l : List Sp) (a : Int) (k : Nat) (hk : k < l.length), ∃ x : Int, (markS a l).drop k = markS x (l.drop k) ∧ x + (cntS (l.drop k) : Int) = a + cntS l ∧ a ≤ x
  | l, a, 0, _ => ⟨a, by simp, by simp, Int.le_refl _⟩
  | [], a, k + 1, hk => absurd hk (by simp)
  | s :: r, a, k + 1, hk => by
    obtain ⟨x, h1, h2, h3⟩ := markS_get r (a + 3 + 2 * s.ns.length + 2 * s.ls.length) k (by simpa using hk)
    refine ⟨x, by simpa [markS] using h1, ?_, by omega⟩
    simp only [List.drop_succ_cons, cntS]
    omega

set_option maxHeartbeats 8000000 in
set_option maxRecDepth 100000 in
theorem heldStepS_ok (v : Value) (l : List Sp) (a : Int) (w : World) (h : RT w v (markS a l)) (ha : 0 ≤ a) (hb : a + cntS l ≤ 1000000000000) :
    Calls Try.prog 82 #[v, .int .i64 a] w fun e w' => e = .returned (.int .i64 (a + cntS l)) ∧ Below w.heap.size w w' := by
  obtain ⟨A, c, rfl, hc, hm, hcell⟩ := h
  have hml : (markS a l).length = l.length := markS_length l a
  unfold maxLen at hm
  rw [hml] at hc hm
  have hcell' : 0 < l.length → ∃ b off, A = some ⟨b, off, none⟩ ∧ b < w.heap.size ∧ ∀ (k : Nat) (hk : k < (markS a l).length), StepAt w b (off + k * 5) (markS a l)[k] := by rw [← hml]; exact hcell
  rw [hml]
  obtain ⟨T, hT⟩ : ∃ T, a + (cntS l : Int) = T := ⟨_, rfl⟩
  rw [hT]
  have HT := Lib.hid hT
  have HML := Lib.hid hml
  have hTm : T ≤ 1000000000000 := by omega
  clear hb hT hcell hml
  go_enter Try.func82, Try.ntmps82
  go_wp2
  go_loopw [1, 5] (fun y i wr => ∃ (k : Nat) (x : Int), k ≤ l.length ∧ i = .int .i64 k ∧ y = .int .i64 x ∧ 0 ≤ x ∧ Hid ((markS a l).drop k = markS x (l.drop k)) ∧ Hid (x + (cntS (l.drop k) : Int) = T) ∧ Below w.heap.size w wr) (fun _ i _ => l.length - (intOf i).toNat)
  case atStart => exact ⟨0, a, Nat.zero_le _, rfl, rfl, ha, Lib.hid (by simp), Lib.hid (by simpa using HT.out), Below.refl _ _⟩
  case round =>
    obtain ⟨k, x, hk, rfl, rfl, hx0, HM, HC, hbl⟩ := hrel
    have hsz := hbl.size
    by_cases hlt : k < l.length
    · obtain ⟨b, off, rfl, hb, hcl⟩ := hcell' (by omega)
      have hkm : k < (markS a l).length := by rw [HML.out]; exact hlt
      have hst := hcl k hkm
      have hM := HM.out
      have hC := HC.out
      rw [List.drop_eq_getElem_cons hkm, List.drop_eq_getElem_cons hlt] at hM
      rw [List.drop_eq_getElem_cons hlt] at hC
      simp only [markS, cntS, List.cons.injEq] at hM hC
      obtain ⟨hM1, hM2⟩ := hM
      rw [hM1] at hst
      generalize l[k] = s at *
      obtain ⟨k0, k1, k2, vn, vl, k3, k4, hn, hl⟩ := hst
      obtain ⟨Av, cv, ev, _⟩ := hn.form
      obtain ⟨Au, cu, eu, _⟩ := hl.form
      dsimp only at k0 k1 k2 hn hl ev eu
      rw [runP_length] at ev eu
      subst ev eu
      have q0 := (hbl.cell (p := ⟨b, off + k * 5, none⟩) hb).trans k0
      have q1 := (hbl.cell (p := ⟨b, off + k * 5 + 1, none⟩) hb).trans k1
      have q2 := (hbl.cell (p := ⟨b, off + k * 5 + 2, none⟩) hb).trans k2
      have q3 := (hbl.cell (p := ⟨b, off + k * 5 + 3, none⟩) hb).trans k3
      have q4 := (hbl.cell (p := ⟨b, off + k * 5 + 4, none⟩) hb).trans k4
      have hn' := Lib.hid (hn.below hbl)
      have hl' := Lib.hid (hl.below hbl)
      have HM2 := Lib.hid hM2
      have HC2 := Lib.hid hC
      have hsm : x + 3 + 2 * (s.ns.length : Int) + 2 * (s.ls.length : Int) ≤ T := by omega
      have e2 : x + 2 = x + 1 + 1 := by omega
      rw [e2] at q2
      have c1 : ¬ x + 3 + 2 * (s.ns.length : Int) < 0 := by omega
      have c2 : ¬ x + 3 + 2 * (s.ns.length : Int) + 2 * (s.ls.length : Int) < 0 := by omega
      clear k0 k1 k2 k3 k4 hcl hcell' hn hl hM1 hM2 hC HM HC hkm e2
      go_upto_region 13 with (fail)
      rw [show x + 1 + 1 + 1 = x + 3 by omega]
      go_wp2_with fail
      refine (heldNodeS_ok _ s.ns.length (x + 3) _ hn'.out (by omega) (by omega)).mono ?_
      rintro e w2 ⟨rfl, rfl⟩
      go_wp2_with fail
      refine (heldLeadS_ok _ s.ls.length (x + 3 + 2 * s.ns.length) _ hl'.out (by omega) (by omega)).mono ?_
      rintro e w3 ⟨rfl, rfl⟩
      go_wp2
      go_roundw
      case rel => exact ⟨k + 1, x + 3 + 2 * s.ns.length + 2 * s.ls.length, by omega, by go_num, rfl, by omega, HM2, Lib.hid (by have := HC2.out; omega), hbl⟩
      case measure => simp [intOf]; omega
    · have hkk : k = l.length := by omega
      have hC := HC.out
      rw [hkk, List.drop_length] at hC
      simp only [cntS] at hC
      have hxT : x = T := by omega
      subst hxT
      clear hC HC HM hcell'
      go_wp2
      go_ret
      exact ⟨rfl, hbl⟩

/-- A draft of running numbers. -/
def markD (a : Int) (D : Dr) : Dr :=
  ⟨runP a D.fn.length, runP (a + 2 * D.fn.length) D.fl.length, runP (a + 2 * D.fn.length + 2 * D.fl.length) D.nn.length, runP (a + 2 * D.fn.length + 2 * D.fl.length + 2 * D.nn.length) D.nl.length,
    markS (a + 2 * D.fn.length + 2 * D.fl.length + 2 * D.nn.length + 2 * D.nl.length) D.ss⟩

def cntD (D : Dr) : Nat := 2 * D.fn.length + 2 * D.fl.length + 2 * D.nn.length + 2 * D.nl.length + cntS D.ss

theorem blksT_mark {v : Value} {fs : List SF} {a : Int} (b : Nat) (h : blksT v (markT a fs) b) : blksT v fs b := blksT_snd (markT_snd fs a) b h

set_option maxHeartbeats 8000000 in
set_option maxRecDepth 100000 in
theorem markDraft_any (base : Nat) (va vb vc vd ve : Value) (D : Dr) (fs : List SF) (x : Int) (w : World) (h : OwnD base w va vb vc vd ve D fs) (hx : 0 ≤ x) (hm : x + cntD D ≤ 1000000000000) :
    Calls Try.prog 41 #[.agg #[va, vb, vc, vd, ve], .int .i64 x] w fun e w' => e = .returned (.int .i64 (x + cntD D)) ∧
      OwnD base w' va vb vc vd ve (markD x D) (markT (x + 2 * D.fn.length + 2 * D.fl.length + 2 * D.nn.length + 2 * D.nl.length) fs) ∧ Turns (blksD va vb vc vd ve fs) w w' := by
  have HLT := Lib.hid h.lt
  have HFN := Lib.hid h.f_n
  have HFS := Lib.hid h.f_s
  have HNS := Lib.hid h.n_s
  have HMP := Lib.hid h.map
  have hcs : cntS (fs.map Prod.fst) = cntS D.ss := by rw [h.map]
  have hD : cntD D = 2 * D.fn.length + 2 * D.fl.length + 2 * D.nn.length + 2 * D.nl.length + cntS D.ss := rfl
  obtain ⟨m, hmm⟩ : ∃ m, cntS D.ss = m := ⟨_, rfl⟩
  rw [hmm] at hcs hD
  have hE : x + (cntD D : Int) = x + 2 * D.fn.length + 2 * D.fl.length + 2 * D.nn.length + 2 * D.nl.length + m := by omega
  rw [hE]
  have hm' : x + 2 * D.fn.length + 2 * D.fl.length + 2 * D.nn.length + 2 * D.nl.length + m ≤ 1000000000000 := by omega
  have HO := Lib.hid (h.alloc (.cells #[va, vb, vc, vd, ve] 59))
  have HCS := Lib.hid hcs
  clear h hm hD hE hcs hmm
  go_enter Try.func41, Try.ntmps41
  go_wp2_with fail
  obtain ⟨w0, hw0⟩ : ∃ w0, w0 = w.alloc (.cells #[va, vb, vc, vd, ve] 59) := ⟨_, rfl⟩
  have hX0 : Blk w0 w.heap.size 59 #[va, vb, vc, vd, ve] := hw0 ▸ Blk.newAt rfl
  have hT0 : Turns (blksD va vb vc vd ve fs) w w0 := hw0 ▸ Turns.ofBelow ((Below.refl _ _).alloc (Nat.le_refl _) _)
  rw [← hw0] at HO ⊢
  clear hw0
  have hnX : ¬ blksD va vb vc vd ve fs w.heap.size := fun hk => by have := (HLT.out _ hk).2; omega
  have h0 := HO.out
  clear HO
  refine (markWindow_any base _ _ D.fn D.fl x _ h0.first hx (by omega)).mono ?_
  rintro e w1 ⟨rfl, ho1, ht1⟩
  have hX1 := hX0.turned ht1 (fun hk => hnX (.inl hk))
  have hN1 := h0.now.turned ht1 (fun k hk hk' => HFN.out k hk' hk)
  have hS1 := h0.ss.turned ht1 (fun k hk hk' => HFS.out k hk' hk)
  have hT1 := hT0.trans (ht1.mono (S' := blksD va vb vc vd ve fs) (fun k hk => .inl hk))
  clear ht1 h0 hX0 hT0
  (have y_0 := hX1.cell 0); (have y_1 := hX1.cell 1); (have y_2 := hX1.cell 2); (have y_3 := hX1.cell 3); (have y_4 := hX1.cell 4); simp only [List.getElem?_toArray, List.getElem?_cons_succ, List.getElem?_cons_zero] at y_0 y_1 y_2 y_3 y_4
  go_wp2_with fail
  refine (markWindow_any base _ _ D.nn D.nl (x + 2 * D.fn.length + 2 * D.fl.length) _ hN1 (by omega) (by omega)).mono ?_
  rintro e w2 ⟨rfl, ho2, ht2⟩
  have hX2 := hX1.turned ht2 (fun hk => hnX (.inr (.inl hk)))
  have hF2 := ho1.turned ht2 (fun k hk hk' => HFN.out k hk hk')
  have hS2 := hS1.turned ht2 (fun k hk hk' => HNS.out k hk' hk)
  have hT2 := hT1.trans (ht2.mono (S' := blksD va vb vc vd ve fs) (fun k hk => .inr (.inl hk)))
  clear ht2 hX1 hN1 hS1 hT1 ho1 y_0 y_1 y_2 y_3 y_4
  (have y_0 := hX2.cell 0); (have y_1 := hX2.cell 1); (have y_2 := hX2.cell 2); (have y_3 := hX2.cell 3); (have y_4 := hX2.cell 4); simp only [List.getElem?_toArray, List.getElem?_cons_succ, List.getElem?_cons_zero] at y_0 y_1 y_2 y_3 y_4
  go_wp2_with fail
  refine (markStepS_any base _ fs (x + 2 * D.fn.length + 2 * D.fl.length + 2 * D.nn.length + 2 * D.nl.length) _ hS2 (by omega) (by rw [HCS.out]; exact hm')).mono ?_
  rintro e w3 ⟨rfl, ho3, ht3⟩
  have hF3 := hF2.turned ht3 (fun k hk hk' => HFS.out k hk hk')
  have hN3 := ho2.turned ht3 (fun k hk hk' => HNS.out k hk hk')
  have hT3 := hT2.trans (ht3.mono (S' := blksD va vb vc vd ve fs) (fun k hk => .inr (.inr hk)))
  have HF : Hid (OwnD base w3 va vb vc vd ve (markD x D) (markT (x + 2 * D.fn.length + 2 * D.fl.length + 2 * D.nn.length + 2 * D.nl.length) fs)) :=
    Lib.hid ⟨hF3, hN3, ho3, by rw [markT_map, HMP.out]; rfl, HFN.out, fun k hk hk' => HFS.out k hk (blksT_mark k hk'), fun k hk hk' => HNS.out k hk (blksT_mark k hk')⟩
  clear ht3 hX2 hF2 hS2 hT2 ho2 ho3 hF3 hN3 y_0 y_1 y_2 y_3 y_4
  rw [HCS.out]
  go_wp2
  go_ret
  exact ⟨rfl, HF.out, hT3⟩

set_option maxHeartbeats 8000000 in
set_option maxRecDepth 100000 in
theorem heldDraft_ok (va vb vc vd ve : Value) (D : Dr) (x : Int) (w : World) (h : RD w va vb vc vd ve (markD x D)) (hx : 0 ≤ x) (hm : x + cntD D ≤ 1000000000000) :
    Calls Try.prog 42 #[.agg #[va, vb, vc, vd, ve], .int .i64 x] w fun e w' => e = .returned (.int .i64 (x + cntD D)) ∧ Below w.heap.size w w' := by
  have hD : cntD D = 2 * D.fn.length + 2 * D.fl.length + 2 * D.nn.length + 2 * D.nl.length + cntS D.ss := rfl
  have hE : x + (cntD D : Int) = x + 2 * D.fn.length + 2 * D.fl.length + 2 * D.nn.length + 2 * D.nl.length + cntS D.ss := by omega
  rw [hE]
  have hm' : x + 2 * D.fn.length + 2 * D.fl.length + 2 * D.nn.length + 2 * D.nl.length + cntS D.ss ≤ 1000000000000 := by omega
  clear hm hE hD
  have c1 : ¬ x + 2 * (D.fn.length : Int) + 2 * D.fl.length < 0 := by omega
  have c2 : ¬ x + 2 * (D.fn.length : Int) + 2 * D.fl.length + 2 * D.nn.length + 2 * D.nl.length < 0 := by omega
  have c3 : ¬ x + 2 * (D.fn.length : Int) + 2 * D.fl.length + 2 * D.nn.length + 2 * D.nl.length + cntS D.ss < 0 := by omega
  have h0 := h.below ((Below.refl _ _).alloc (Nat.le_refl _) (.cells #[va, vb, vc, vd, ve] 59))
  clear h
  go_enter Try.func42, Try.ntmps42
  go_wp2_with fail
  obtain ⟨w0, hw0⟩ : ∃ w0, w0 = w.alloc (.cells #[va, vb, vc, vd, ve] 59) := ⟨_, rfl⟩
  have hX0 : Blk w0 w.heap.size 59 #[va, vb, vc, vd, ve] := hw0 ▸ Blk.newAt rfl
  have hb0 : Below w.heap.size w w0 := hw0 ▸ (Below.refl _ _).alloc (Nat.le_refl _) _
  rw [← hw0] at h0 ⊢
  clear hw0
  refine (heldWindow_ok _ _ D.fn.length D.fl.length x _ h0.fn h0.fl hx (by omega)).mono ?_
  rintro e w1 ⟨rfl, hb1⟩
  have hX1 := hX0.below hb1 hX0.lt
  have h1 := h0.below hb1
  have hbw1 := hb0.trans (hb1.mono hb0.size)
  clear hb1 hX0 h0 hb0
  (have y_0 := hX1.cell 0); (have y_1 := hX1.cell 1); (have y_2 := hX1.cell 2); (have y_3 := hX1.cell 3); (have y_4 := hX1.cell 4); simp only [List.getElem?_toArray, List.getElem?_cons_succ, List.getElem?_cons_zero] at y_0 y_1 y_2 y_3 y_4
  go_wp2_with fail
  refine (heldWindow_ok _ _ D.nn.length D.nl.length (x + 2 * D.fn.length + 2 * D.fl.length) _ h1.nn h1.nl (by omega) (by omega)).mono ?_
  rintro e w2 ⟨rfl, hb2⟩
  have hX2 := hX1.below hb2 hX1.lt
  have h2 := h1.below hb2
  have hbw2 := hbw1.trans (hb2.mono hbw1.size)
  clear hb2 hX1 h1 hbw1 y_0 y_1 y_2 y_3 y_4
  (have y_0 := hX2.cell 0); (have y_1 := hX2.cell 1); (have y_2 := hX2.cell 2); (have y_3 := hX2.cell 3); (have y_4 := hX2.cell 4); simp only [List.getElem?_toArray, List.getElem?_cons_succ, List.getElem?_cons_zero] at y_0 y_1 y_2 y_3 y_4
  go_wp2_with fail
  refine (heldStepS_ok _ D.ss (x + 2 * D.fn.length + 2 * D.fl.length + 2 * D.nn.length + 2 * D.nl.length) _ h2.ss (by omega) hm').mono ?_
  rintro e w3 ⟨rfl, hb3⟩
  have hbw3 := hbw2.trans (hb3.mono hbw2.size)
  go_wp2
  go_ret
  exact ⟨rfl, hbw3⟩

end Go.Proofs.Ytnpdincjekelaaa

namespace Go.Proofs.Ytnpdincjekelaaa
open Go.RowKit

/-- The copy in its variable. -/
structure OutSt (w : World) (v0 v1 v2 v3 v4 : Value) (Z : Nat) (a b c d e : Value) (D : Dr) (fs : List SF) (wr : World) : Prop where
  own : OwnD (w.heap.size + 1 + 1) wr a b c d e D fs
  X : Blk wr w.heap.size 59 #[v0, v1, v2, v3, v4]
  R : Blk wr (w.heap.size + 1) 59 #[.slice none 0 0, .slice none 0 0, .slice none 0 0, .slice none 0 0, .slice none 0 0]
  Z_ : Blk wr Z 59 #[a, b, c, d, e]
  lt : w.heap.size + 1 < Z
  far : ¬ blksD a b c d e fs Z
  blw : Below w.heap.size w wr

section
variable {w wr wr' : World} {v0 v1 v2 v3 v4 a b c d e : Value} {Z : Nat} {D : Dr} {fs : List SF}
theorem OutSt.below (h : OutSt w v0 v1 v2 v3 v4 Z a b c d e D fs wr) (hb : Below wr.heap.size wr wr') : OutSt w v0 v1 v2 v3 v4 Z a b c d e D fs wr' :=
  ⟨h.own.kept hb, h.X.below hb h.X.lt, h.R.below hb h.R.lt, h.Z_.below hb h.Z_.lt, h.lt, h.far, h.blw.trans (hb.mono h.blw.size)⟩

theorem OutSt.start {base : Nat} (ho : OwnD base wr a b c d e D fs) (hbase : w.heap.size + 1 + 1 ≤ base) (hX : Blk wr w.heap.size 59 #[v0, v1, v2, v3, v4]) (hR : Blk wr (w.heap.size + 1) 59 #[.slice none 0 0, .slice none 0 0, .slice none 0 0, .slice none 0 0, .slice none 0 0]) (hb : Below w.heap.size w wr) :
    OutSt w v0 v1 v2 v3 v4 wr.heap.size a b c d e D fs (wr.alloc (.cells #[a, b, c, d, e] 59)) :=
  ⟨(ho.mono hbase).alloc _, hX.alloc _, hR.alloc _, Blk.newAt rfl, hR.lt, fun hk => by have := (ho.lt _ hk).2; omega, hb.alloc hb.size _⟩

/-- The copy is returned. -/
theorem OutSt.fin (h : OutSt w v0 v1 v2 v3 v4 Z a b c d e D fs wr) (u0 u1 u2 u3 u4 : Value) :
    OwnD w.heap.size (((((wr.setCell ⟨w.heap.size + 1, 0, none⟩ u0).setCell ⟨w.heap.size + 1, 1, none⟩ u1).setCell ⟨w.heap.size + 1, 2, none⟩ u2).setCell ⟨w.heap.size + 1, 3, none⟩ u3).setCell ⟨w.heap.size + 1, 4, none⟩ u4) a b c d e D fs ∧
    Below w.heap.size w (((((wr.setCell ⟨w.heap.size + 1, 0, none⟩ u0).setCell ⟨w.heap.size + 1, 1, none⟩ u1).setCell ⟨w.heap.size + 1, 2, none⟩ u2).setCell ⟨w.heap.size + 1, 3, none⟩ u3).setCell ⟨w.heap.size + 1, 4, none⟩ u4) := by
  have hR : ¬ blksD a b c d e fs (w.heap.size + 1) := fun hk => by have := (h.own.lt _ hk).1; omega
  have step : ∀ (W : World) (j : Nat) (u : Value), OwnD w.heap.size W a b c d e D fs → OwnD w.heap.size (W.setCell ⟨w.heap.size + 1, j, none⟩ u) a b c d e D fs := fun W j u hW => hW.setFar (p := ⟨w.heap.size + 1, j, none⟩) hR u
  have hs : w.heap.size ≤ w.heap.size + 1 := Nat.le_succ _
  exact ⟨step _ _ _ (step _ _ _ (step _ _ _ (step _ _ _ (step _ _ _ (h.own.mono (by omega)))))),
    ((((h.blw.setCell (p := ⟨w.heap.size + 1, 0, none⟩) hs u0).setCell (p := ⟨w.heap.size + 1, 1, none⟩) hs u1).setCell (p := ⟨w.heap.size + 1, 2, none⟩) hs u2).setCell (p := ⟨w.heap.size + 1, 3, none⟩) hs u3).setCell (p := ⟨w.heap.size + 1, 4, none⟩) hs u4⟩

theorem OwnD.newNow {base base' : Nat} {c' d' : Value} {N L : List Pr} (h : OwnD base w a b c d e D fs) (hw : OwnW base' w c' d' N L) (hb : base ≤ base') (hf : ∀ k, blksW c' d' k → ¬ blksD a b c d e fs k) : OwnD base w a b c' d' e ⟨D.fn, D.fl, N, L, D.ss⟩ fs :=
  ⟨h.first, hw.mono hb, h.ss, h.map, fun k hk hk' => hf k hk' (.inl hk), h.f_s, fun k hk hk' => hf k hk (.inr (.inr hk'))⟩

theorem OwnD.noSteps {base : Nat} (h : OwnD base w a b c d e D fs) : OwnD base w a b c d (.slice none 0 0) ⟨D.fn, D.fl, D.nn, D.nl, []⟩ [] := by
  have hn : ∀ k, ¬ blksT (.slice none 0 0) [] k := by
    rintro k (h | ⟨i, hi, _⟩)
    · simp [Value.ownBlock] at h
    · simp at hi
  exact ⟨h.first, h.now, OwnT.nil _ _, rfl, h.f_n, fun k _ hk => hn k hk, fun k _ hk => hn k hk⟩

theorem blksT_take {A : Option Addr} {n c k b : Nat} (h : blksT (.slice A k c) (fs.take k) b) : blksT (.slice A n c) fs b := by
  rcases h with h | ⟨i, hi, h⟩
  · exact .inl (by cases A with | none => cases h | some a => exact h)
  · have hi' : i < fs.length := by simp at hi; omega
    refine .inr ⟨i, hi', ?_⟩
    rw [List.getElem_take] at h
    exact h

theorem OwnT.takeN {base : Nat} {g n c k : Nat} (h : OwnT base w (.slice (some ⟨g, 0, none⟩) n c) fs) (hk : k ≤ fs.length) : OwnT base w (.slice (some ⟨g, 0, none⟩) k c) (fs.take k) := by
  have hl : (fs.take k).length = k := by simp; omega
  refine ⟨?_, fun i hi => ?_, fun i hi b hb => ?_, fun i j hi hj hne b => ?_⟩
  · rw [hl]
    obtain ⟨h1, h2⟩ := h.row
    refine ⟨by rw [flat_len sfc 5 (fun _ => rfl), hl], ?_⟩
    rcases h2 with ⟨e, _⟩ | ⟨g', cap, cur, e, e1, e2, e3, e4, e5, e6⟩
    · cases e
    · injection e with e7 e8 e9
      injection e7 with e7
      injection e7 with e7
      subst e7 e9
      refine .inr ⟨g, c, cur, rfl, e1, e2, by omega, e4, e5, ?_⟩
      have hx : fs.flatMap sfc = (fs.take k).flatMap sfc ++ (fs.drop k).flatMap sfc := by rw [← List.flatMap_append, List.take_append_drop]
      have hm : min (k * 5) (fs.length * 5) = k * 5 := by omega
      rw [← hm, ← List.take_take, e6, hx, List.take_left' (by rw [flat_len sfc 5 (fun _ => rfl), hl])]
  · rw [List.getElem_take]; exact h.win i (by omega)
  · rw [List.getElem_take]; exact h.rw_ i (by omega) b hb
  · rw [List.getElem_take, List.getElem_take]; exact h.ww i j (by omega) (by omega) hne b

theorem OwnD.takeN {base : Nat} {g n cap k : Nat} (h : OwnD base w a b c d (.slice (some ⟨g, 0, none⟩) n cap) D fs) (hk : k ≤ fs.length) : OwnD base w a b c d (.slice (some ⟨g, 0, none⟩) k cap) ⟨D.fn, D.fl, D.nn, D.nl, D.ss.take k⟩ (fs.take k) :=
  ⟨h.first, h.now, h.ss.takeN hk, by rw [List.map_take, h.map], h.f_n, fun x hx hx' => h.f_s x hx (blksT_take hx'), fun x hx hx' => h.n_s x hx (blksT_take hx')⟩

/-- The last step's window is the window now; the step is gone. -/
theorem OwnD.popNow {base : Nat} {g n cap k : Nat} (h : OwnD base w a b c d (.slice (some ⟨g, 0, none⟩) n cap) D fs) (hk : k < fs.length) : OwnD base w a b fs[k].2.1 fs[k].2.2 (.slice (some ⟨g, 0, none⟩) k cap) ⟨D.fn, D.fl, fs[k].1.ns, fs[k].1.ls, D.ss.take k⟩ (fs.take k) := by
  refine ⟨h.first, h.ss.win k hk, h.ss.takeN (by omega), by rw [List.map_take, h.map], fun x hx hx' => h.f_s x hx (.inr ⟨k, hk, hx'⟩), fun x hx hx' => h.f_s x hx (blksT_take hx'), fun x hx hx' => ?_⟩
  rcases hx' with hx' | ⟨i, hi, hx'⟩
  · exact h.ss.rw_ k hk x hx' hx
  · rw [List.getElem_take] at hx'
    have hi' : i < k := by simp at hi; omega
    exact h.ss.ww i k (by omega) hk (by omega) x hx' hx
end

theorem OwnT.addr {base : Nat} {w : World} {A : Option Addr} {n c : Nat} {fs : List SF} (h : OwnT base w (.slice A n c) fs) (hn : 0 < fs.length) : ∃ g, A = some ⟨g, 0, none⟩ ∧ n = fs.length ∧ n ≤ c := by
  rcases h.row.2 with ⟨_, h0⟩ | ⟨g, cap, cur, e, _, _, h3, _⟩
  · omega
  · injection e with e1 e2 e3
    exact ⟨g, e1, e2, by omega⟩

/-- A call returns a draft in new memory and whether it is another one. -/
def RetDB (D : Dr) (b : Bool) (w : World) (e : Ending) (w' : World) : Prop := ∃ A0 c0 A1 c1 A2 c2 A3 c3 A4 c4 fs,
  e = .returned (.tuple #[.agg #[.slice A0 D.fn.length c0, .slice A1 D.fl.length c1, .slice A2 D.nn.length c2, .slice A3 D.nl.length c3, .slice A4 D.ss.length c4], .bool b]) ∧
  OwnD w.heap.size w' (.slice A0 D.fn.length c0) (.slice A1 D.fl.length c1) (.slice A2 D.nn.length c2) (.slice A3 D.nl.length c3) (.slice A4 D.ss.length c4) D fs ∧ Below w.heap.size w w'

noncomputable def undoAllD (D : Dr) : Dr := if okD D = true then ⟨D.fn, D.fl, D.fn, D.fl, []⟩ else D

theorem undoAll_nil {D : Dr} (h : okD D = true) (hn : D.ss.length = 0) : (⟨D.fn, D.fl, D.fn, D.fl, []⟩ : Dr) = D := by
  obtain ⟨fn, fl, nn, nl, ss⟩ := D
  have hs : ss = [] := List.eq_nil_of_length_eq_zero hn
  subst hs
  unfold okD okFrom at h
  simp only [Bool.and_eq_true, sameWB, decide_eq_true_eq] at h
  obtain ⟨_, _, h1, h2⟩ := h
  rw [h1, h2]

theorem DrLe.cnt {D : Dr} (h : DrLe D) : cntD D ≤ 20000000 := by
  have e : cntD D = 2 * D.fn.length + 2 * D.fl.length + 2 * D.nn.length + 2 * D.nl.length + cntS D.ss := rfl
  have := cntS_eq D.ss
  have := h.fn
  have := h.fl
  have := h.nn
  have := h.nl
  have := h.ss
  have := h.sum
  omega

theorem undoAll_cnt (D : Dr) (h : DrLe D) : cntD (undoAllD D) ≤ 20000000 := by
  unfold undoAllD
  split
  · have e : cntD (⟨D.fn, D.fl, D.fn, D.fl, []⟩ : Dr) = 2 * D.fn.length + 2 * D.fl.length + 2 * D.fn.length + 2 * D.fl.length + 0 := rfl
    have := h.fn
    have := h.fl
    omega
  · exact h.cnt

/-- The last step undone. -/
def canUndo (b : Bool) (D : Dr) : Bool := b && decide (0 < D.ss.length)
def undoD (b : Bool) (D : Dr) : Dr := if h : b = true ∧ 0 < D.ss.length then ⟨D.fn, D.fl, (D.ss[D.ss.length - 1]'(by omega)).ns, (D.ss[D.ss.length - 1]'(by omega)).ls, D.ss.take (D.ss.length - 1)⟩ else D

theorem undoD_no {b : Bool} {D : Dr} (h : ¬ (b = true ∧ 0 < D.ss.length)) : undoD b D = D := by unfold undoD; rw [dif_neg h]
theorem undoD_yes {D : Dr} (h : 0 < D.ss.length) : undoD true D = ⟨D.fn, D.fl, (D.ss[D.ss.length - 1]'(by omega)).ns, (D.ss[D.ss.length - 1]'(by omega)).ls, D.ss.take (D.ss.length - 1)⟩ := by unfold undoD; rw [dif_pos ⟨rfl, h⟩]

set_option maxHeartbeats 8000000 in
set_option maxRecDepth 100000 in
theorem iUndoAll_at (v0 v1 v2 v3 v4 : Value) (D : Dr) (w : World) (h : RD w v0 v1 v2 v3 v4 D) (hle : DrLe D) :
    Calls Try.prog 39 #[.agg #[v0, v1, v2, v3, v4]] w (RetD (undoAllD D) w) := by
  obtain ⟨r, hr⟩ : ∃ r, okD D = r := ⟨_, rfl⟩
  have HR := Lib.hid hr
  have HLE := Lib.hid hle
  obtain ⟨B4, d4, ev4, _⟩ := h.ss
  subst ev4
  obtain ⟨E, hE⟩ : ∃ E, undoAllD D = E := ⟨_, rfl⟩
  rw [hE]
  have HE := Lib.hid hE
  clear hle hE
  go_enter Try.func39, Try.ntmps39
  go_wp2_with fail
  refine (iCopyD_any _ _ _ _ _ D _ (h.below (by (repeat' (first | (with_reducible exact Below.refl _ _) | (with_reducible assumption) | (with_reducible refine Below.drew ?_) | (with_reducible refine below_drewN ?_ _) | (with_reducible refine Below.alloc ?_ ?_ _) | (with_reducible refine Below.setCell ?_ ?_ _) | (with_reducible refine Below.step (by assumption) ?_ ?_))); all_goals (first | omega | (simp; done) | (simp; omega)))) HLE.out).mono ?_
  rintro e w1 ⟨A0, c0, A1, c1, A2, c2, A3, c3, A4, c4, fs, rfl, ho1, hb1⟩
  have hz1 := hb1.size
  simp at hz1
  have hX1 : Blk w1 w.heap.size 59 #[v0, v1, v2, v3, (.slice B4 D.ss.length d4)] := Blk.below ((Blk.newAt rfl).alloc _) hb1 (by first | omega | (simp; done) | (simp; omega))
  have hR1 : Blk w1 (w.heap.size + 1) 59 #[.slice none 0 0, .slice none 0 0, .slice none 0 0, .slice none 0 0, .slice none 0 0] := Blk.below (Blk.newAt (by simp)) hb1 (by first | omega | (simp; done) | (simp; omega))
  have hbw1 : Below w.heap.size w w1 := by (repeat' (first | (with_reducible exact Below.refl _ _) | (with_reducible assumption) | (with_reducible refine Below.drew ?_) | (with_reducible refine below_drewN ?_ _) | (with_reducible refine Below.alloc ?_ ?_ _) | (with_reducible refine Below.setCell ?_ ?_ _) | (with_reducible refine Below.step (by assumption) ?_ ?_))); all_goals (first | omega | (simp; done) | (simp; omega))
  have hO1 : OwnD (w.heap.size + 1 + 1) w1 (.slice A0 D.fn.length c0) (.slice A1 D.fl.length c1) (.slice A2 D.nn.length c2) (.slice A3 D.nl.length c3) (.slice A4 D.ss.length c4) D fs := by simpa using ho1
  have HS2 := Lib.hid (OutSt.start hO1 (Nat.le_refl _) hX1 hR1 hbw1)
  (have x_0 := hX1.cell 0); (have x_1 := hX1.cell 1); (have x_2 := hX1.cell 2); (have x_3 := hX1.cell 3); (have x_4 := hX1.cell 4); simp only [List.getElem?_toArray, List.getElem?_cons_succ, List.getElem?_cons_zero] at x_0 x_1 x_2 x_3 x_4
  have hX1l := hX1.lt
  clear ho1 hb1 hO1
  go_wp2_with fail
  obtain ⟨w2, hw2⟩ : ∃ w2, w2 = w1.alloc (.cells #[.slice A0 D.fn.length c0, .slice A1 D.fl.length c1, .slice A2 D.nn.length c2, .slice A3 D.nl.length c3, .slice A4 D.ss.length c4] 59) := ⟨_, rfl⟩
  rw [← hw2] at HS2 ⊢
  generalize w1.heap.size = Z at *
  clear hw2 hX1 hR1 hbw1 x_0 x_1 x_2 x_3 x_4 hX1l hz1
  refine (iDok_at _ _ _ _ _ D r _ (h.below HS2.out.blw) HR).mono ?_
  rintro e w3 ⟨rfl, hb3⟩
  have HS3 := Lib.hid (HS2.out.below hb3)
  clear hb3 HS2
  have hX3 := HS3.out.X
  have hZ3 := HS3.out.Z_
  have hR3 := HS3.out.R
  (have x_0 := hX3.cell 0); (have x_1 := hX3.cell 1); (have x_2 := hX3.cell 2); (have x_3 := hX3.cell 3); (have x_4 := hX3.cell 4); simp only [List.getElem?_toArray, List.getElem?_cons_succ, List.getElem?_cons_zero] at x_0 x_1 x_2 x_3 x_4
  cases r
  · have hu : D = E := by rw [← HE.out]; unfold undoAllD; rw [hr]; rfl
    subst hu
    have HF := HS3
    clear HS3 HE hr
    obtain ⟨_, _, hR, hZ, hZl, _, _⟩ := HF.out
    (have z_0 := hZ.cell 0); (have z_1 := hZ.cell 1); (have z_2 := hZ.cell 2); (have z_3 := hZ.cell 3); (have z_4 := hZ.cell 4); simp only [List.getElem?_toArray, List.getElem?_cons_succ, List.getElem?_cons_zero] at z_0 z_1 z_2 z_3 z_4
    (have r_0 := hR.cell 0); (have r_1 := hR.cell 1); (have r_2 := hR.cell 2); (have r_3 := hR.cell 3); (have r_4 := hR.cell 4); simp only [List.getElem?_toArray, List.getElem?_cons_succ, List.getElem?_cons_zero] at r_0 r_1 r_2 r_3 r_4; (have r_f0 := hR.frozen 0); (have r_f1 := hR.frozen 1); (have r_f2 := hR.frozen 2); (have r_f3 := hR.frozen 3); (have r_f4 := hR.frozen 4)
    have hRlt := hR.lt
    have HFF := Lib.hid (fun u0 u1 u2 u3 u4 => HF.out.fin u0 u1 u2 u3 u4)
    clear hR hZ HF
    go_wp2
    exact bodyPost_ret (v := .agg #[.slice A0 D.fn.length c0, .slice A1 D.fl.length c1, .slice A2 D.nn.length c2, .slice A3 D.nl.length c3, .slice A4 D.ss.length c4]) (by simp [results, Try.results39, go_sem, r_0, r_1, r_2, r_3, r_4, hRlt]) rfl ⟨_, _, _, _, _, _, _, _, _, _, _, rfl, (HFF.out _ _ _ _ _).1, (HFF.out _ _ _ _ _).2⟩
  · have hu : E = ⟨D.fn, D.fl, D.fn, D.fl, []⟩ := by rw [← HE.out]; unfold undoAllD; rw [hr]; rfl
    subst hu
    clear HE
    have hX3l := hX3.lt
    have hZ3l := hZ3.lt
    have hf3 := (h.below HS3.out.blw).fn
    have hf4 := (h.below HS3.out.blw).fl
    go_wp2_with fail
    refine (iCopy_any _ _ D.fn D.fl _ hf3 hf4 HLE.out.fn HLE.out.fl).mono ?_
    rintro e w4 ⟨An, cn, Al, cl, rfl, ho4, hb4⟩
    have hlt3 := HS3.out.own.lt
    have HS4 := HS3.out.below hb4
    have hZ4 := HS4.Z_
    have hlt4 := ho4.lt
    have hR4l := HS4.R.lt
    have hbase : w.heap.size + 1 + 1 ≤ w3.heap.size := by have := hR3.lt; omega
    have hnow := HS4.own.newNow ho4 hbase (fun k hk hk' => by have := (hlt4 k hk).1; have := (hlt3 k hk').2; omega)
    have hN := (hnow).noSteps
    have hZfar : ¬ blksD (.slice A0 D.fn.length c0) (.slice A1 D.fl.length c1) (.slice An D.fn.length cn) (.slice Al D.fl.length cl) (.slice none 0 0) [] Z := by
      rintro (hk | hk | hk)
      · exact HS4.far (.inl hk)
      · have := (hlt4 _ hk).1; omega
      · rcases hk with hk | ⟨i, hi, _⟩
        · simp [Value.ownBlock] at hk
        · simp at hi
    obtain ⟨w5, hw5⟩ : ∃ w5, w5 = ((w4.setCell ⟨Z, 2, none⟩ (.slice An D.fn.length cn)).setCell ⟨Z, 3, none⟩ (.slice Al D.fl.length cl)).setCell ⟨Z, 4, none⟩ (.slice none 0 0) := ⟨_, rfl⟩
    have hzl := HS4.lt
    have nX : w.heap.size ≠ Z := by omega
    have nR : w.heap.size + 1 ≠ Z := by omega
    have nB : w.heap.size ≤ Z := by omega
    have HF : Hid (OutSt w v0 v1 v2 v3 (.slice B4 D.ss.length d4) Z (.slice A0 D.fn.length c0) (.slice A1 D.fl.length c1) (.slice An D.fn.length cn) (.slice Al D.fl.length cl) (.slice none 0 0) ⟨D.fn, D.fl, D.fn, D.fl, []⟩ [] w5) := Lib.hid
      (hw5 ▸ ⟨((hN.setFar (p := ⟨Z, 2, none⟩) hZfar _).setFar (p := ⟨Z, 3, none⟩) hZfar _).setFar (p := ⟨Z, 4, none⟩) hZfar _, ((HS4.X.far (p := ⟨Z, 2, none⟩) nX _).far (p := ⟨Z, 3, none⟩) nX _).far (p := ⟨Z, 4, none⟩) nX _,
        ((HS4.R.far (p := ⟨Z, 2, none⟩) nR _).far (p := ⟨Z, 3, none⟩) nR _).far (p := ⟨Z, 4, none⟩) nR _, ((hZ4.set_ 2 _).set_ 3 _).set_ 4 _, hzl, hZfar, ((HS4.blw.setCell (p := ⟨Z, 2, none⟩) nB _).setCell (p := ⟨Z, 3, none⟩) nB _).setCell (p := ⟨Z, 4, none⟩) nB _⟩)
    (have z_0 := hZ4.cell 0); (have z_1 := hZ4.cell 1); (have z_2 := hZ4.cell 2); (have z_3 := hZ4.cell 3); (have z_4 := hZ4.cell 4); simp only [List.getElem?_toArray, List.getElem?_cons_succ, List.getElem?_cons_zero] at z_0 z_1 z_2 z_3 z_4; (have z_f0 := hZ4.frozen 0); (have z_f1 := hZ4.frozen 1); (have z_f2 := hZ4.frozen 2); (have z_f3 := hZ4.frozen 3); (have z_f4 := hZ4.frozen 4)
    have hZ4l := hZ4.lt
    clear hN hnow HS4 HS3 hlt3 hlt4 hZfar ho4 hb4 hX3 hZ3 hR3 x_0 x_1 x_2 x_3 x_4 hf3 hf4 hX3l hZ3l hZ4
    go_upto_region 5 with (fail)
    rw [← hw5]
    clear hw5 z_0 z_1 z_2 z_3 z_4 z_f0 z_f1 z_f2 z_f3 z_f4 hZ4l
    obtain ⟨_, _, hR, hZ, hZl, _, _⟩ := HF.out
    (have z_0 := hZ.cell 0); (have z_1 := hZ.cell 1); (have z_2 := hZ.cell 2); (have z_3 := hZ.cell 3); (have z_4 := hZ.cell 4); simp only [List.getElem?_toArray, List.getElem?_cons_succ, List.getElem?_cons_zero] at z_0 z_1 z_2 z_3 z_4
    (have r_0 := hR.cell 0); (have r_1 := hR.cell 1); (have r_2 := hR.cell 2); (have r_3 := hR.cell 3); (have r_4 := hR.cell 4); simp only [List.getElem?_toArray, List.getElem?_cons_succ, List.getElem?_cons_zero] at r_0 r_1 r_2 r_3 r_4; (have r_f0 := hR.frozen 0); (have r_f1 := hR.frozen 1); (have r_f2 := hR.frozen 2); (have r_f3 := hR.frozen 3); (have r_f4 := hR.frozen 4)
    have hRlt := hR.lt
    have HFF := Lib.hid (fun u0 u1 u2 u3 u4 => HF.out.fin u0 u1 u2 u3 u4)
    clear hR hZ HF
    go_wp2
    exact bodyPost_ret (v := .agg #[.slice A0 D.fn.length c0, .slice A1 D.fl.length c1, .slice An D.fn.length cn, .slice Al D.fl.length cl, .slice none 0 0]) (by simp [results, Try.results39, go_sem, r_0, r_1, r_2, r_3, r_4, hRlt]) rfl ⟨_, _, _, _, _, _, _, _, _, _, _, rfl, (HFF.out _ _ _ _ _).1, (HFF.out _ _ _ _ _).2⟩

set_option maxHeartbeats 8000000 in
set_option maxRecDepth 100000 in
theorem sUndoAll_at (v0 v1 v2 v3 v4 : Value) (D : Dr) (w : World) (h : RD w v0 v1 v2 v3 v4 D) (hle : DrLe D) :
    Calls Try.prog 40 #[.agg #[v0, v1, v2, v3, v4]] w (RetD (undoAllD D) w) := by
  obtain ⟨r, hr⟩ : ∃ r, okD D = r := ⟨_, rfl⟩
  have HR := Lib.hid hr
  have HLE := Lib.hid hle
  obtain ⟨B4, d4, ev4, _⟩ := h.ss
  subst ev4
  obtain ⟨E, hE⟩ : ∃ E, undoAllD D = E := ⟨_, rfl⟩
  rw [hE]
  have HE := Lib.hid hE
  clear hle hE
  go_enter Try.func40, Try.ntmps40
  go_wp2_with fail
  refine (sCopyD_any _ _ _ _ _ D _ (h.below (by (repeat' (first | (with_reducible exact Below.refl _ _) | (with_reducible assumption) | (with_reducible refine Below.drew ?_) | (with_reducible refine below_drewN ?_ _) | (with_reducible refine Below.alloc ?_ ?_ _) | (with_reducible refine Below.setCell ?_ ?_ _) | (with_reducible refine Below.step (by assumption) ?_ ?_))); all_goals (first | omega | (simp; done) | (simp; omega)))) HLE.out).mono ?_
  rintro e w1 ⟨A0, c0, A1, c1, A2, c2, A3, c3, A4, c4, fs, rfl, ho1, hb1⟩
  have hz1 := hb1.size
  simp at hz1
  have hX1 : Blk w1 w.heap.size 59 #[v0, v1, v2, v3, (.slice B4 D.ss.length d4)] := Blk.below ((Blk.newAt rfl).alloc _) hb1 (by first | omega | (simp; done) | (simp; omega))
  have hR1 : Blk w1 (w.heap.size + 1) 59 #[.slice none 0 0, .slice none 0 0, .slice none 0 0, .slice none 0 0, .slice none 0 0] := Blk.below (Blk.newAt (by simp)) hb1 (by first | omega | (simp; done) | (simp; omega))
  have hbw1 : Below w.heap.size w w1 := by (repeat' (first | (with_reducible exact Below.refl _ _) | (with_reducible assumption) | (with_reducible refine Below.drew ?_) | (with_reducible refine below_drewN ?_ _) | (with_reducible refine Below.alloc ?_ ?_ _) | (with_reducible refine Below.setCell ?_ ?_ _) | (with_reducible refine Below.step (by assumption) ?_ ?_))); all_goals (first | omega | (simp; done) | (simp; omega))
  have hO1 : OwnD (w.heap.size + 1 + 1) w1 (.slice A0 D.fn.length c0) (.slice A1 D.fl.length c1) (.slice A2 D.nn.length c2) (.slice A3 D.nl.length c3) (.slice A4 D.ss.length c4) D fs := by simpa using ho1
  have HS2 := Lib.hid (OutSt.start hO1 (Nat.le_refl _) hX1 hR1 hbw1)
  (have x_0 := hX1.cell 0); (have x_1 := hX1.cell 1); (have x_2 := hX1.cell 2); (have x_3 := hX1.cell 3); (have x_4 := hX1.cell 4); simp only [List.getElem?_toArray, List.getElem?_cons_succ, List.getElem?_cons_zero] at x_0 x_1 x_2 x_3 x_4
  have hX1l := hX1.lt
  clear ho1 hb1 hO1
  go_wp2_with fail
  obtain ⟨w2, hw2⟩ : ∃ w2, w2 = w1.alloc (.cells #[.slice A0 D.fn.length c0, .slice A1 D.fl.length c1, .slice A2 D.nn.length c2, .slice A3 D.nl.length c3, .slice A4 D.ss.length c4] 59) := ⟨_, rfl⟩
  rw [← hw2] at HS2 ⊢
  generalize w1.heap.size = Z at *
  clear hw2 hX1 hR1 hbw1 x_0 x_1 x_2 x_3 x_4 hX1l hz1
  refine (sDok_at _ _ _ _ _ D r _ (h.below HS2.out.blw) HR).mono ?_
  rintro e w3 ⟨rfl, hb3⟩
  have HS3 := Lib.hid (HS2.out.below hb3)
  clear hb3 HS2
  have hX3 := HS3.out.X
  have hZ3 := HS3.out.Z_
  have hR3 := HS3.out.R
  (have x_0 := hX3.cell 0); (have x_1 := hX3.cell 1); (have x_2 := hX3.cell 2); (have x_3 := hX3.cell 3); (have x_4 := hX3.cell 4); simp only [List.getElem?_toArray, List.getElem?_cons_succ, List.getElem?_cons_zero] at x_0 x_1 x_2 x_3 x_4
  cases r
  · have hu : D = E := by rw [← HE.out]; unfold undoAllD; rw [hr]; rfl
    subst hu
    have HF := HS3
    clear HS3 HE hr
    obtain ⟨_, _, hR, hZ, hZl, _, _⟩ := HF.out
    (have z_0 := hZ.cell 0); (have z_1 := hZ.cell 1); (have z_2 := hZ.cell 2); (have z_3 := hZ.cell 3); (have z_4 := hZ.cell 4); simp only [List.getElem?_toArray, List.getElem?_cons_succ, List.getElem?_cons_zero] at z_0 z_1 z_2 z_3 z_4
    (have r_0 := hR.cell 0); (have r_1 := hR.cell 1); (have r_2 := hR.cell 2); (have r_3 := hR.cell 3); (have r_4 := hR.cell 4); simp only [List.getElem?_toArray, List.getElem?_cons_succ, List.getElem?_cons_zero] at r_0 r_1 r_2 r_3 r_4; (have r_f0 := hR.frozen 0); (have r_f1 := hR.frozen 1); (have r_f2 := hR.frozen 2); (have r_f3 := hR.frozen 3); (have r_f4 := hR.frozen 4)
    have hRlt := hR.lt
    have HFF := Lib.hid (fun u0 u1 u2 u3 u4 => HF.out.fin u0 u1 u2 u3 u4)
    clear hR hZ HF
    go_wp2
    exact bodyPost_ret (v := .agg #[.slice A0 D.fn.length c0, .slice A1 D.fl.length c1, .slice A2 D.nn.length c2, .slice A3 D.nl.length c3, .slice A4 D.ss.length c4]) (by simp [results, Try.results40, go_sem, r_0, r_1, r_2, r_3, r_4, hRlt]) rfl ⟨_, _, _, _, _, _, _, _, _, _, _, rfl, (HFF.out _ _ _ _ _).1, (HFF.out _ _ _ _ _).2⟩
  · have hu : E = ⟨D.fn, D.fl, D.fn, D.fl, []⟩ := by rw [← HE.out]; unfold undoAllD; rw [hr]; rfl
    clear HE
    by_cases hn0 : D.ss.length = 0
    · have hu2 : D = E := by rw [hu]; exact (undoAll_nil hr hn0).symm
      subst hu2
      have hn1 : ((D.ss.length : Int) == 0) = true := by simp [hn0]
      have HF := HS3
      clear HS3 hu hr
      obtain ⟨_, _, hR, hZ, hZl, _, _⟩ := HF.out
      (have z_0 := hZ.cell 0); (have z_1 := hZ.cell 1); (have z_2 := hZ.cell 2); (have z_3 := hZ.cell 3); (have z_4 := hZ.cell 4); simp only [List.getElem?_toArray, List.getElem?_cons_succ, List.getElem?_cons_zero] at z_0 z_1 z_2 z_3 z_4
      (have r_0 := hR.cell 0); (have r_1 := hR.cell 1); (have r_2 := hR.cell 2); (have r_3 := hR.cell 3); (have r_4 := hR.cell 4); simp only [List.getElem?_toArray, List.getElem?_cons_succ, List.getElem?_cons_zero] at r_0 r_1 r_2 r_3 r_4; (have r_f0 := hR.frozen 0); (have r_f1 := hR.frozen 1); (have r_f2 := hR.frozen 2); (have r_f3 := hR.frozen 3); (have r_f4 := hR.frozen 4)
      have hRlt := hR.lt
      have HFF := Lib.hid (fun u0 u1 u2 u3 u4 => HF.out.fin u0 u1 u2 u3 u4)
      clear hR hZ HF
      go_wp2
      exact bodyPost_ret (v := .agg #[.slice A0 D.fn.length c0, .slice A1 D.fl.length c1, .slice A2 D.nn.length c2, .slice A3 D.nl.length c3, .slice A4 D.ss.length c4]) (by simp [results, Try.results40, go_sem, r_0, r_1, r_2, r_3, r_4, hRlt, hn0]) rfl ⟨_, _, _, _, _, _, _, _, _, _, _, rfl, (HFF.out _ _ _ _ _).1, (HFF.out _ _ _ _ _).2⟩
    · subst hu
      have hm := congrArg List.length HS3.out.own.map
      simp at hm
      obtain ⟨g, hg, _, hcap⟩ := HS3.out.own.ss.addr (by omega)
      subst hg
      have hX3l := hX3.lt
      have hZ3l := hZ3.lt
      have hf3 := (h.below HS3.out.blw).fn
      have hf4 := (h.below HS3.out.blw).fl
      clear hm
      go_wp2_with fail
      refine (sCopy_any _ _ D.fn D.fl _ hf3 hf4 HLE.out.fn HLE.out.fl).mono ?_
      rintro e w4 ⟨An, cn, Al, cl, rfl, ho4, hb4⟩
      have hlt3 := HS3.out.own.lt
      have HS4 := HS3.out.below hb4
      have hZ4 := HS4.Z_
      have hlt4 := ho4.lt
      have hR4l := HS4.R.lt
      have hbase : w.heap.size + 1 + 1 ≤ w3.heap.size := by have := hR3.lt; omega
      have hnow := HS4.own.newNow ho4 hbase (fun k hk hk' => by have := (hlt4 k hk).1; have := (hlt3 k hk').2; omega)
      have hN : OwnD (w.heap.size + 1 + 1) w4 (.slice A0 D.fn.length c0) (.slice A1 D.fl.length c1) (.slice An D.fn.length cn) (.slice Al D.fl.length cl) (.slice (some ⟨g, 0, none⟩) 0 c4) ⟨D.fn, D.fl, D.fn, D.fl, []⟩ [] := by
        have := hnow.takeN (k := 0) (Nat.zero_le _)
        simpa using this
      have hZfar : ¬ blksD (.slice A0 D.fn.length c0) (.slice A1 D.fl.length c1) (.slice An D.fn.length cn) (.slice Al D.fl.length cl) (.slice (some ⟨g, 0, none⟩) 0 c4) [] Z := by
        rintro (hk | hk | hk)
        · exact HS4.far (.inl hk)
        · have := (hlt4 _ hk).1; omega
        · rcases hk with hk | ⟨i, hi, _⟩
          · exact HS4.far (.inr (.inr (.inl hk)))
          · simp at hi
      obtain ⟨w5, hw5⟩ : ∃ w5, w5 = ((w4.setCell ⟨Z, 2, none⟩ (.slice An D.fn.length cn)).setCell ⟨Z, 3, none⟩ (.slice Al D.fl.length cl)).setCell ⟨Z, 4, none⟩ (.slice (some ⟨g, 0, none⟩) 0 c4) := ⟨_, rfl⟩
      have hzl := HS4.lt
      have nX : w.heap.size ≠ Z := by omega
      have nR : w.heap.size + 1 ≠ Z := by omega
      have nB : w.heap.size ≤ Z := by omega
      have HF : Hid (OutSt w v0 v1 v2 v3 (.slice B4 D.ss.length d4) Z (.slice A0 D.fn.length c0) (.slice A1 D.fl.length c1) (.slice An D.fn.length cn) (.slice Al D.fl.length cl) (.slice (some ⟨g, 0, none⟩) 0 c4) ⟨D.fn, D.fl, D.fn, D.fl, []⟩ [] w5) := Lib.hid
        (hw5 ▸ ⟨((hN.setFar (p := ⟨Z, 2, none⟩) hZfar _).setFar (p := ⟨Z, 3, none⟩) hZfar _).setFar (p := ⟨Z, 4, none⟩) hZfar _, ((HS4.X.far (p := ⟨Z, 2, none⟩) nX _).far (p := ⟨Z, 3, none⟩) nX _).far (p := ⟨Z, 4, none⟩) nX _,
          ((HS4.R.far (p := ⟨Z, 2, none⟩) nR _).far (p := ⟨Z, 3, none⟩) nR _).far (p := ⟨Z, 4, none⟩) nR _, ((hZ4.set_ 2 _).set_ 3 _).set_ 4 _, hzl, hZfar, ((HS4.blw.setCell (p := ⟨Z, 2, none⟩) nB _).setCell (p := ⟨Z, 3, none⟩) nB _).setCell (p := ⟨Z, 4, none⟩) nB _⟩)
      (have z_0 := hZ4.cell 0); (have z_1 := hZ4.cell 1); (have z_2 := hZ4.cell 2); (have z_3 := hZ4.cell 3); (have z_4 := hZ4.cell 4); simp only [List.getElem?_toArray, List.getElem?_cons_succ, List.getElem?_cons_zero] at z_0 z_1 z_2 z_3 z_4; (have z_f0 := hZ4.frozen 0); (have z_f1 := hZ4.frozen 1); (have z_f2 := hZ4.frozen 2); (have z_f3 := hZ4.frozen 3); (have z_f4 := hZ4.frozen 4)
      have hZ4l := hZ4.lt
      have hc0 : (0 : Int) ≤ (c4 : Int) := by omega
      clear hN hnow HS4 HS3 hlt3 hlt4 hZfar ho4 hb4 hX3 hZ3 hR3 x_0 x_1 x_2 x_3 x_4 hf3 hf4 hX3l hZ3l hZ4
      go_upto_region 6 with (fail)
      rw [← hw5]
      clear hw5 z_0 z_1 z_2 z_3 z_4 z_f0 z_f1 z_f2 z_f3 z_f4 hZ4l
      obtain ⟨_, _, hR, hZ, hZl, _, _⟩ := HF.out
      (have z_0 := hZ.cell 0); (have z_1 := hZ.cell 1); (have z_2 := hZ.cell 2); (have z_3 := hZ.cell 3); (have z_4 := hZ.cell 4); simp only [List.getElem?_toArray, List.getElem?_cons_succ, List.getElem?_cons_zero] at z_0 z_1 z_2 z_3 z_4
      (have r_0 := hR.cell 0); (have r_1 := hR.cell 1); (have r_2 := hR.cell 2); (have r_3 := hR.cell 3); (have r_4 := hR.cell 4); simp only [List.getElem?_toArray, List.getElem?_cons_succ, List.getElem?_cons_zero] at r_0 r_1 r_2 r_3 r_4; (have r_f0 := hR.frozen 0); (have r_f1 := hR.frozen 1); (have r_f2 := hR.frozen 2); (have r_f3 := hR.frozen 3); (have r_f4 := hR.frozen 4)
      have hRlt := hR.lt
      have HFF := Lib.hid (fun u0 u1 u2 u3 u4 => HF.out.fin u0 u1 u2 u3 u4)
      clear hR hZ HF
      go_wp2
      exact bodyPost_ret (v := .agg #[.slice A0 D.fn.length c0, .slice A1 D.fl.length c1, .slice An D.fn.length cn, .slice Al D.fl.length cl, .slice (some ⟨g, 0, none⟩) 0 c4]) (by simp [results, Try.results40, go_sem, r_0, r_1, r_2, r_3, r_4, hRlt]) rfl ⟨_, _, _, _, _, _, _, _, _, _, _, rfl, (HFF.out _ _ _ _ _).1, (HFF.out _ _ _ _ _).2⟩

end Go.Proofs.Ytnpdincjekelaaa

namespace Go.Proofs.Ytnpdincjekelaaa
open Go.RowKit

noncomputable def doStepB (D : Dr) (kd a b : Int) : Bool := okD D && (decide (D.ss.length < 40) && stepB D.nn D.nl kd a b)
noncomputable def doStepD (D : Dr) (kd a b : Int) : Dr := if doStepB D kd a b = true then ⟨D.fn, D.fl, stepN D.nn D.nl kd a b, stepL D.nn D.nl kd a b, D.ss ++ [⟨kd, a, b, D.nn, D.nl⟩]⟩ else D

theorem doStep_no {D : Dr} {kd a b : Int} (h : doStepB D kd a b = false) : doStepD D kd a b = D := by unfold doStepD; rw [h]; rfl
theorem doStep_yes {D : Dr} {kd a b : Int} (h : doStepB D kd a b = true) : doStepD D kd a b = ⟨D.fn, D.fl, stepN D.nn D.nl kd a b, stepL D.nn D.nl kd a b, D.ss ++ [⟨kd, a, b, D.nn, D.nl⟩]⟩ := by unfold doStepD; rw [h]; rfl

theorem cntS_append : ∀ l m : List Sp, cntS (l ++ m) = cntS l + cntS m
  | [], m => by simp [cntS]
  | s :: r, m => by simp only [List.cons_append, cntS, cntS_append r m]; omega

theorem doStep_cnt (D : Dr) (kd a b : Int) (h : DrLe D) : cntD (doStepD D kd a b) ≤ 20000000 := by
  by_cases hc : doStepB D kd a b = true
  · rw [doStep_yes hc]
    have e : cntD (⟨D.fn, D.fl, stepN D.nn D.nl kd a b, stepL D.nn D.nl kd a b, D.ss ++ [⟨kd, a, b, D.nn, D.nl⟩]⟩ : Dr) = 2 * D.fn.length + 2 * D.fl.length + 2 * (stepN D.nn D.nl kd a b).length + 2 * (stepL D.nn D.nl kd a b).length + cntS (D.ss ++ [⟨kd, a, b, D.nn, D.nl⟩]) := rfl
    have e2 : cntS ([⟨kd, a, b, D.nn, D.nl⟩] : List Sp) = 3 + 2 * D.nn.length + 2 * D.nl.length + 0 := rfl
    rw [cntS_append, e2] at e
    have := step_len D.nn D.nl kd a b
    have := cntS_eq D.ss
    have := h.fn
    have := h.fl
    have := h.nn
    have := h.nl
    have := h.ss
    have := h.sum
    omega
  · rw [doStep_no (by simpa using hc)]
    exact h.cnt

/-- The window now becomes the last step's, another one is the window now. -/
theorem OwnD.pushNow {base : Nat} {w w' : World} {a b c d e e' c' d' : Value} {D : Dr} {fs : List SF} {N L : List Pr} {x y z : Int} (h : OwnD base w a b c d e D fs) (hw : OwnW base w c' d' N L) (hf : ∀ k, blksW c' d' k → ¬ blksD a b c d e fs k)
    (hr : w'.ownsRow base 94 5 e' (fs.length + 1) ((fs ++ [((⟨x, y, z, D.nn, D.nl⟩, c, d) : SF)]).flatMap sfc)) (hg : w.grownBy w' e.ownBlock) (hv : e'.ownBlock = e.ownBlock ∨ e'.ownBlock = some w.heap.size) :
    OwnD base w' a b c' d' e' ⟨D.fn, D.fl, N, L, D.ss ++ [⟨x, y, z, D.nn, D.nl⟩]⟩ (fs ++ [(⟨x, y, z, D.nn, D.nl⟩, c, d)]) := by
  have ht : Turns (fun b => e.ownBlock = some b) w w' := Turns.ofGrown hg (fun k hk => hk)
  refine ⟨h.first.turned ht (fun k hk e1 => h.f_s k hk (.inl e1)), hw.turned ht (fun k hk e1 => hf k hk (.inr (.inr (.inl e1)))),
    h.ss.snoc hr hg hv h.now (fun k hk e1 => h.n_s k hk (.inl e1)) (fun j hj k hk hk' => h.n_s k hk (.inr ⟨j, hj, hk'⟩)), by rw [List.map_append, h.map]; rfl, fun k hk hk' => hf k hk' (.inl hk), fun k hk hk' => ?_, fun k hk hk' => ?_⟩
  · rcases blksT_snoc hv hk' with h1 | h1 | h1
    · exact h.f_s k hk h1
    · have := (h.first.lt k hk).2; omega
    · exact h.f_n k hk h1
  · rcases blksT_snoc hv hk' with h1 | h1 | h1
    · exact hf k hk (.inr (.inr h1))
    · have := (hw.lt k hk).2; omega
    · exact hf k hk (.inr (.inl h1))

/-- At a step of a region that draws its order. -/
theorem step_append_step {P : Program} {w : World} {ops : Array Oper} {o : Oper} {a : Act} {K : Act → World → Prop} {Q : Exit → Act → World → Prop} {E : Prop} (hgd : o.guard = none) (s x : Operand) (t : TypeId)
    (ho : o.op = .call { callee := .builtin .append, args := #[s, x], argTypes := #[t, t] })
    (base : Nat) (e : TypeId) (i : TypeInfo) (ht : P.underlying t = some (.slice e)) (hi : P.info? e = some i) (hz : i.zero = some (.agg #[.int .i64 0, .int .i64 0, .int .i64 0, .slice none 0 0, .slice none 0 0])) (hsize : i.size = 5) (hby : i.bytes = 72)
    (v : Value) (fs : List SF) (f : SF) (ad : Addr) (c : Nat) (hs : a.eval s = v) (hx : a.eval x = .slice (some ad) 1 c) (hown : w.ownsRow base e 5 v fs.length (fs.flatMap sfc)) (hn : ∀ (j : Nat) (u : Value), (sfc f)[j]? = some u → w.cell? (ad.add j) = some u)
    (hone : ∀ u ∈ sfc f, u.oneCell' = true) (hlen : fs.length ≤ 1048576) (hbase : base ≤ w.heap.size)
    (h : ∀ A c' w', w'.ownsRow base e 5 (.slice A (fs.length + 1) c') (fs.length + 1) ((fs ++ [f]).flatMap sfc) → w.grownBy w' v.ownBlock → ((Value.slice A (fs.length + 1) c').ownBlock = v.ownBlock ∨ (Value.slice A (fs.length + 1) c').ownBlock = some w.heap.size) → K (a.put o.dst (.slice A (fs.length + 1) c')) w') :
    if Region.wanted o (yielded ops a.tmps) = true then Oper.wp P o a w K Q else E := by
  have hw : Region.wanted o (yielded ops a.tmps) = true := by simp [Region.wanted, hgd]
  rw [if_pos hw]
  obtain ⟨A, c', w', hrun, h2, h3, h4⟩ := run_append_step (ty := o.type) (c := c) ht hi hz hsize hby hown hn hone hlen hbase
  unfold Oper.wp execOp
  simp only [ho, resolve, invoke, builtin, Sem.run_bind, Sem.run_pure, Result.andThen_ok, List.map_toArray, List.map_cons, List.map_nil, hs, hx, hrun]
  exact h A c' w' h2 h3 h4

set_option maxHeartbeats 16000000 in
set_option maxRecDepth 100000 in
theorem iDoStep_at (v0 v1 v2 v3 v4 : Value) (D : Dr) (kd a b : Int) (w : World) (h : RD w v0 v1 v2 v3 v4 D) (hle : DrLe D) :
    Calls Try.prog 37 #[.agg #[v0, v1, v2, v3, v4], .int .i64 kd, .int .i64 a, .int .i64 b] w (RetDB (doStepD D kd a b) (doStepB D kd a b) w) := by
  obtain ⟨r, hr⟩ : ∃ r, okD D = r := ⟨_, rfl⟩
  have HR := Lib.hid hr
  have HLE := Lib.hid hle
  obtain ⟨B4, d4, ev4, _⟩ := h.ss
  subst ev4
  obtain ⟨i0, hi, iz0, iz1, iz2⟩ := info_parts infoStep
  obtain ⟨E, hE⟩ : ∃ E, doStepD D kd a b = E := ⟨_, rfl⟩
  obtain ⟨bb, hbb⟩ : ∃ bb, doStepB D kd a b = bb := ⟨_, rfl⟩
  rw [hE, hbb]
  have HE := Lib.hid hE
  have HBB := Lib.hid hbb
  clear hle hE hbb
  go_enter Try.func37, Try.ntmps37
  go_wp2_with fail
  refine (iCopyD_any _ _ _ _ _ D _ (h.below (by (repeat' (first | (with_reducible exact Below.refl _ _) | (with_reducible assumption) | (with_reducible refine Below.drew ?_) | (with_reducible refine below_drewN ?_ _) | (with_reducible refine Below.alloc ?_ ?_ _) | (with_reducible refine Below.setCell ?_ ?_ _) | (with_reducible refine Below.step (by assumption) ?_ ?_))); all_goals (first | omega | (simp; done) | (simp; omega)))) HLE.out).mono ?_
  rintro e w1 ⟨A0, c0, A1, c1, A2, c2, A3, c3, A4, c4, fs, rfl, ho1, hb1⟩
  have hz1 := hb1.size
  simp at hz1
  have hX1 : Blk w1 w.heap.size 59 #[v0, v1, v2, v3, (.slice B4 D.ss.length d4)] := Blk.below ((Blk.newAt rfl).alloc _) hb1 (by first | omega | (simp; done) | (simp; omega))
  have hR1 : Blk w1 (w.heap.size + 1) 59 #[.slice none 0 0, .slice none 0 0, .slice none 0 0, .slice none 0 0, .slice none 0 0] := Blk.below (Blk.newAt (by simp)) hb1 (by first | omega | (simp; done) | (simp; omega))
  have hbw1 : Below w.heap.size w w1 := by (repeat' (first | (with_reducible exact Below.refl _ _) | (with_reducible assumption) | (with_reducible refine Below.drew ?_) | (with_reducible refine below_drewN ?_ _) | (with_reducible refine Below.alloc ?_ ?_ _) | (with_reducible refine Below.setCell ?_ ?_ _) | (with_reducible refine Below.step (by assumption) ?_ ?_))); all_goals (first | omega | (simp; done) | (simp; omega))
  have hO1 : OwnD (w.heap.size + 1 + 1) w1 (.slice A0 D.fn.length c0) (.slice A1 D.fl.length c1) (.slice A2 D.nn.length c2) (.slice A3 D.nl.length c3) (.slice A4 D.ss.length c4) D fs := by simpa using ho1
  have HS2 := Lib.hid (OutSt.start hO1 (Nat.le_refl _) hX1 hR1 hbw1)
  (have x_0 := hX1.cell 0); (have x_1 := hX1.cell 1); (have x_2 := hX1.cell 2); (have x_3 := hX1.cell 3); (have x_4 := hX1.cell 4); simp only [List.getElem?_toArray, List.getElem?_cons_succ, List.getElem?_cons_zero] at x_0 x_1 x_2 x_3 x_4
  have hX1l := hX1.lt
  clear ho1 hb1 hO1
  go_wp2_with fail
  obtain ⟨w2, hw2⟩ : ∃ w2, w2 = w1.alloc (.cells #[.slice A0 D.fn.length c0, .slice A1 D.fl.length c1, .slice A2 D.nn.length c2, .slice A3 D.nl.length c3, .slice A4 D.ss.length c4] 59) := ⟨_, rfl⟩
  rw [← hw2] at HS2 ⊢
  generalize w1.heap.size = Z at *
  clear hw2 hX1 hR1 hbw1 x_0 x_1 x_2 x_3 x_4 hX1l hz1
  refine (iDok_at _ _ _ _ _ D r _ (h.below HS2.out.blw) HR).mono ?_
  rintro e w3 ⟨rfl, hb3⟩
  have HS3 := Lib.hid (HS2.out.below hb3)
  clear hb3 HS2
  have hX3 := HS3.out.X
  have hZ3 := HS3.out.Z_
  have hR3 := HS3.out.R
  (have x_0 := hX3.cell 0); (have x_1 := hX3.cell 1); (have x_2 := hX3.cell 2); (have x_3 := hX3.cell 3); (have x_4 := hX3.cell 4); simp only [List.getElem?_toArray, List.getElem?_cons_succ, List.getElem?_cons_zero] at x_0 x_1 x_2 x_3 x_4
  cases r
  · have hno : doStepB D kd a b = false := by unfold doStepB; rw [hr]; rfl
    have hu : D = E := by rw [← HE.out]; exact (doStep_no hno).symm
    have hv : false = bb := by rw [← HBB.out]; exact hno.symm
    subst hu
    subst hv
    have HF := HS3
    clear HS3 HE HBB hno
    clear hr
    obtain ⟨_, _, hR, hZ, hZl, _, _⟩ := HF.out
    (have z_0 := hZ.cell 0); (have z_1 := hZ.cell 1); (have z_2 := hZ.cell 2); (have z_3 := hZ.cell 3); (have z_4 := hZ.cell 4); simp only [List.getElem?_toArray, List.getElem?_cons_succ, List.getElem?_cons_zero] at z_0 z_1 z_2 z_3 z_4
    (have r_0 := hR.cell 0); (have r_1 := hR.cell 1); (have r_2 := hR.cell 2); (have r_3 := hR.cell 3); (have r_4 := hR.cell 4); simp only [List.getElem?_toArray, List.getElem?_cons_succ, List.getElem?_cons_zero] at r_0 r_1 r_2 r_3 r_4; (have r_f0 := hR.frozen 0); (have r_f1 := hR.frozen 1); (have r_f2 := hR.frozen 2); (have r_f3 := hR.frozen 3); (have r_f4 := hR.frozen 4)
    have hRlt := hR.lt
    have HFF := Lib.hid (fun u0 u1 u2 u3 u4 => HF.out.fin u0 u1 u2 u3 u4)
    clear hR hZ HF
    go_wp2
    exact bodyPost_ret (v := .tuple #[.agg #[.slice A0 D.fn.length c0, .slice A1 D.fl.length c1, .slice A2 D.nn.length c2, .slice A3 D.nl.length c3, .slice A4 D.ss.length c4], .bool false]) (by simp [results, Try.results37, go_sem, r_0, r_1, r_2, r_3, r_4, hRlt]) rfl ⟨_, _, _, _, _, _, _, _, _, _, _, rfl, (HFF.out _ _ _ _ _).1, (HFF.out _ _ _ _ _).2⟩
  · by_cases h40 : ¬ D.ss.length < 40
    · have hno : doStepB D kd a b = false := by unfold doStepB; rw [hr, decide_eq_false h40]; rfl
      have hn40 : D.ss.length = 40 := by
        have h41 : D.ss.length ≤ 40 := by
          unfold okD at hr
          simp only [Bool.and_eq_true, decide_eq_true_eq] at hr
          exact hr.2.1
        omega
      have hu : D = E := by rw [← HE.out]; exact (doStep_no hno).symm
      have hv : false = bb := by rw [← HBB.out]; exact hno.symm
      subst hu
      subst hv
      have HF := HS3
      clear HS3 HE HBB hno
      clear hr h40
      obtain ⟨_, _, hR, hZ, hZl, _, _⟩ := HF.out
      (have z_0 := hZ.cell 0); (have z_1 := hZ.cell 1); (have z_2 := hZ.cell 2); (have z_3 := hZ.cell 3); (have z_4 := hZ.cell 4); simp only [List.getElem?_toArray, List.getElem?_cons_succ, List.getElem?_cons_zero] at z_0 z_1 z_2 z_3 z_4
      (have r_0 := hR.cell 0); (have r_1 := hR.cell 1); (have r_2 := hR.cell 2); (have r_3 := hR.cell 3); (have r_4 := hR.cell 4); simp only [List.getElem?_toArray, List.getElem?_cons_succ, List.getElem?_cons_zero] at r_0 r_1 r_2 r_3 r_4; (have r_f0 := hR.frozen 0); (have r_f1 := hR.frozen 1); (have r_f2 := hR.frozen 2); (have r_f3 := hR.frozen 3); (have r_f4 := hR.frozen 4)
      have hRlt := hR.lt
      have HFF := Lib.hid (fun u0 u1 u2 u3 u4 => HF.out.fin u0 u1 u2 u3 u4)
      clear hR hZ HF
      go_wp2
      exact bodyPost_ret (v := .tuple #[.agg #[.slice A0 D.fn.length c0, .slice A1 D.fl.length c1, .slice A2 D.nn.length c2, .slice A3 D.nl.length c3, .slice A4 D.ss.length c4], .bool false]) (by simp [results, Try.results37, go_sem, r_0, r_1, r_2, r_3, r_4, hRlt, hn40]) rfl ⟨_, _, _, _, _, _, _, _, _, _, _, rfl, (HFF.out _ _ _ _ _).1, (HFF.out _ _ _ _ _).2⟩
    · have h40' : D.ss.length < 40 := by omega
      have g1 : ¬ (40 : Int) ≤ (D.ss.length : Int) := by omega
      have g2 : ((D.ss.length : Int) == 40) = false := beq_eq_false_iff_ne.2 (by omega)
      obtain ⟨N, hN⟩ : ∃ N, stepN D.nn D.nl kd a b = N := ⟨_, rfl⟩
      obtain ⟨L, hL⟩ : ∃ L, stepL D.nn D.nl kd a b = L := ⟨_, rfl⟩
      obtain ⟨sb, hsb⟩ : ∃ sb, stepB D.nn D.nl kd a b = sb := ⟨_, rfl⟩
      have H1 := Lib.hid hN
      have H2 := Lib.hid hL
      have H3 := Lib.hid hsb
      have hX3l := hX3.lt
      have HZL3 := hZ3.lt
      have hnn := (h.below HS3.out.blw).nn
      have hnl := (h.below HS3.out.blw).nl
      clear h40
      have HOK := Lib.hid hr
      clear hr hN hL hsb
      go_wp2_with fail
      refine (iStep_at _ _ D.nn D.nl N L kd a b sb _ hnn hnl HLE.out.nn HLE.out.nl H1 H2 H3).mono ?_
      rintro e w4 ⟨An, cn, Al, cl, rfl, ho4, hb4⟩
      have hlt3 := HS3.out.own.lt
      have HS4 := HS3.out.below hb4
      have hR4l := HS4.R.lt
      have hbase : w.heap.size + 1 + 1 ≤ w3.heap.size := by have := hR3.lt; omega
      have hlt4 := ho4.lt
      have hm := congrArg List.length HS4.own.map
      simp at hm
      have hzl := HS4.lt
      obtain ⟨w5, hw5⟩ : ∃ w5, w5 = w4.alloc (.cells #[.slice An N.length cn, .slice Al L.length cl] 27) := ⟨_, rfl⟩
      have hb5 : Below w4.heap.size w4 w5 := hw5 ▸ (Below.refl _ _).alloc (Nat.le_refl _) _
      have hT5 : Blk w5 w4.heap.size 27 #[.slice An N.length cn, .slice Al L.length cl] := hw5 ▸ Blk.newAt rfl
      have HS5 := Lib.hid (HS4.below hb5)
      have ho5 := Lib.hid ((ho4.kept hb5).mono hbase)
      have hs45 : w3.heap.size ≤ w4.heap.size := hb4.size
      have HFR : Hid (∀ k, blksW (.slice An N.length cn) (.slice Al L.length cl) k → ¬ blksD (.slice A0 D.fn.length c0) (.slice A1 D.fl.length c1) (.slice A2 D.nn.length c2) (.slice A3 D.nl.length c3) (.slice A4 D.ss.length c4) fs k) := Lib.hid (fun k hk hk' => by have := (hlt4 k hk).1; have := (hlt3 k hk').2; omega)
      have HL4 : Hid (∀ k, blksW (.slice An N.length cn) (.slice Al L.length cl) k → k < w4.heap.size) := Lib.hid (fun k hk => (hlt4 k hk).2)
      have hZ5 := HS5.out.Z_.lt
      have HTZ0 : Hid (¬ w4.heap.size = Z) := Lib.hid (by have := HS4.Z_.lt; omega)
      have HZN0 : Hid (blksW (.slice An N.length cn) (.slice Al L.length cl) Z → False) := Lib.hid (fun hz => by have := (hlt4 _ hz).1; have := HZL3; omega)
      have HLO : Hid (∀ k, blksD (.slice A0 D.fn.length c0) (.slice A1 D.fl.length c1) (.slice A2 D.nn.length c2) (.slice A3 D.nl.length c3) (.slice A4 D.ss.length c4) fs k → k < w4.heap.size) := Lib.hid (fun k hk => by have := (hlt3 k hk).2; omega)
      clear ho4 hb4 hlt3 hlt4 HS4 HS3 hX3 hZ3 hR3 hX3l hnn hnl x_0 x_1 x_2 x_3 x_4 hR4l
      go_upto_region 5 with (fail)
      rw [← hw5]
      generalize w4.heap.size = T at *
      clear hw5 hb5
      cases sb
      · have hno : doStepB D kd a b = false := by unfold doStepB; rw [H3.out, Bool.and_false, Bool.and_false]
        have hu : D = E := by rw [← HE.out]; exact (doStep_no hno).symm
        have hv : false = bb := by rw [← HBB.out]; exact hno.symm
        subst hu
        subst hv
        have HF := HS5
        clear HS5 HE HBB hno
        clear HOK H1 H2 H3 hT5 ho5 HFR HL4 hbase hm hs45
        obtain ⟨_, _, hR, hZ, hZl, _, _⟩ := HF.out
        (have z_0 := hZ.cell 0); (have z_1 := hZ.cell 1); (have z_2 := hZ.cell 2); (have z_3 := hZ.cell 3); (have z_4 := hZ.cell 4); simp only [List.getElem?_toArray, List.getElem?_cons_succ, List.getElem?_cons_zero] at z_0 z_1 z_2 z_3 z_4
        (have r_0 := hR.cell 0); (have r_1 := hR.cell 1); (have r_2 := hR.cell 2); (have r_3 := hR.cell 3); (have r_4 := hR.cell 4); simp only [List.getElem?_toArray, List.getElem?_cons_succ, List.getElem?_cons_zero] at r_0 r_1 r_2 r_3 r_4; (have r_f0 := hR.frozen 0); (have r_f1 := hR.frozen 1); (have r_f2 := hR.frozen 2); (have r_f3 := hR.frozen 3); (have r_f4 := hR.frozen 4)
        have hRlt := hR.lt
        have HFF := Lib.hid (fun u0 u1 u2 u3 u4 => HF.out.fin u0 u1 u2 u3 u4)
        clear hR hZ HF
        go_wp2
        exact bodyPost_ret (v := .tuple #[.agg #[.slice A0 D.fn.length c0, .slice A1 D.fl.length c1, .slice A2 D.nn.length c2, .slice A3 D.nl.length c3, .slice A4 D.ss.length c4], .bool false]) (by simp [results, Try.results37, go_sem, r_0, r_1, r_2, r_3, r_4, hRlt]) rfl ⟨_, _, _, _, _, _, _, _, _, _, _, rfl, (HFF.out _ _ _ _ _).1, (HFF.out _ _ _ _ _).2⟩
      · have hyes : doStepB D kd a b = true := by unfold doStepB; rw [HOK.out, H3.out, decide_eq_true h40']; rfl
        have hu : E = ⟨D.fn, D.fl, N, L, D.ss ++ [⟨kd, a, b, D.nn, D.nl⟩]⟩ := by rw [← HE.out, doStep_yes hyes, H1.out, H2.out]
        have hv : true = bb := by rw [← HBB.out]; exact hyes.symm
        subst hu
        subst hv
        clear HE HBB hyes HOK H1 H2 H3
        have hZ5b := HS5.out.Z_
        have hX5b := HS5.out.X
        (have z_0 := hZ5b.cell 0); (have z_1 := hZ5b.cell 1); (have z_2 := hZ5b.cell 2); (have z_3 := hZ5b.cell 3); (have z_4 := hZ5b.cell 4); simp only [List.getElem?_toArray, List.getElem?_cons_succ, List.getElem?_cons_zero] at z_0 z_1 z_2 z_3 z_4; (have z_f0 := hZ5b.frozen 0); (have z_f1 := hZ5b.frozen 1); (have z_f2 := hZ5b.frozen 2); (have z_f3 := hZ5b.frozen 3); (have z_f4 := hZ5b.frozen 4)
        (have x_0 := hX5b.cell 0); (have x_1 := hX5b.cell 1); (have x_2 := hX5b.cell 2); (have x_3 := hX5b.cell 3); (have x_4 := hX5b.cell 4); simp only [List.getElem?_toArray, List.getElem?_cons_succ, List.getElem?_cons_zero] at x_0 x_1 x_2 x_3 x_4
        (have t_0 := hT5.cell 0); (have t_1 := hT5.cell 1); simp only [List.getElem?_toArray, List.getElem?_cons_succ, List.getElem?_cons_zero] at t_0 t_1
        have hX5l := hX5b.lt
        have hT5l := hT5.lt
        have hfs20 : fs.length ≤ 1048576 := by omega
        have HM := Lib.hid hm
        clear hm
        have HTZ : Hid (¬ T = Z) := HTZ0
        have HZN : Hid (blksW (.slice An N.length cn) (.slice Al L.length cl) Z → False) := HZN0
        have HFZ : Hid (blksW (.slice A2 D.nn.length c2) (.slice A3 D.nl.length c3) Z → False) := Lib.hid (fun hz => HS5.out.far (.inr (.inl hz)))
        have hrow := HS5.out.own.alloc (.cells #[.int .i64 kd, .int .i64 a, .int .i64 b, .slice A2 D.nn.length c2, .slice A3 D.nl.length c3] 94)
        have hwn := ho5.out.alloc' (.cells #[.int .i64 kd, .int .i64 a, .int .i64 b, .slice A2 D.nn.length c2, .slice A3 D.nl.length c3] 94)
        have HROW := Lib.hid hrow
        have HWN := Lib.hid hwn
        have HX6 := Lib.hid (HS5.out.X.alloc (.cells #[.int .i64 kd, .int .i64 a, .int .i64 b, .slice A2 D.nn.length c2, .slice A3 D.nl.length c3] 94))
        have HR6 := Lib.hid (HS5.out.R.alloc (.cells #[.int .i64 kd, .int .i64 a, .int .i64 b, .slice A2 D.nn.length c2, .slice A3 D.nl.length c3] 94))
        have HZ6 := Lib.hid (hZ5b.alloc (.cells #[.int .i64 kd, .int .i64 a, .int .i64 b, .slice A2 D.nn.length c2, .slice A3 D.nl.length c3] 94))
        have HT6 := Lib.hid (hT5.alloc (.cells #[.int .i64 kd, .int .i64 a, .int .i64 b, .slice A2 D.nn.length c2, .slice A3 D.nl.length c3] 94))
        have HBW6 := Lib.hid (HS5.out.blw.alloc HS5.out.blw.size (.cells #[.int .i64 kd, .int .i64 a, .int .i64 b, .slice A2 D.nn.length c2, .slice A3 D.nl.length c3] 94))
        have HLT : Hid (∀ k, (Value.slice A4 D.ss.length c4).ownBlock = some k → w.heap.size + 1 + 1 ≤ k ∧ k ≠ Z ∧ k < T) := Lib.hid (fun k hk => ⟨(HS5.out.own.lt k (.inr (.inr (.inl hk)))).1, fun e => HS5.out.far (e ▸ .inr (.inr (.inl hk))), HLO.out k (.inr (.inr (.inl hk)))⟩)
        have HLIT : Hid (∀ (j : Nat) (u : Value), (sfc ((⟨kd, a, b, D.nn, D.nl⟩, .slice A2 D.nn.length c2, .slice A3 D.nl.length c3) : SF))[j]? = some u → (w5.alloc (.cells #[.int .i64 kd, .int .i64 a, .int .i64 b, .slice A2 D.nn.length c2, .slice A3 D.nl.length c3] 94)).cell? ((⟨w5.heap.size, 0, none⟩ : Addr).add j) = some u) := Lib.hid (lit_step rfl rfl)
        have hb20 : w.heap.size + 1 + 1 ≤ (w5.alloc (.cells #[.int .i64 kd, .int .i64 a, .int .i64 b, .slice A2 D.nn.length c2, .slice A3 D.nl.length c3] 94)).heap.size := by simp; omega
        have HRW : Hid (World.ownsRow (w5.alloc (.cells #[.int .i64 kd, .int .i64 a, .int .i64 b, .slice A2 D.nn.length c2, .slice A3 D.nl.length c3] 94)) (w.heap.size + 1 + 1) 94 5 (.slice A4 D.ss.length c4) fs.length (fs.flatMap sfc)) := Lib.hid HROW.out.ss.row
        clear hrow hwn hX5b
        go_wp2_with (at_builtin; refine wpList_append_step rfl _ _ _ rfl (w.heap.size + 1 + 1) 94 i0 Try.underlying57 hi iz0 iz1 iz2 (.slice A4 D.ss.length c4) fs (⟨kd, a, b, D.nn, D.nl⟩, .slice A2 D.nn.length c2, .slice A3 D.nl.length c3) ⟨w5.heap.size, 0, none⟩ 1 rfl rfl HRW.out HLIT.out (sfc_one _ _ _ _ _ _ _ rfl rfl) hfs20 hb20 ?_)
        intro A5 c5 w6 hr6 hg6 ha6
        have hs6 := hg6.size
        simp at hs6
        have hO6 := HROW.out.pushNow HWN.out HFR.out (by rw [List.flatMap_append]; simpa using hr6) hg6 (by simpa using ha6)
        have hX6 := HX6.out.grownR hg6 (fun k hk e => by have := (HLT.out k hk).1; omega)
        have hR6 := HR6.out.grownR hg6 (fun k hk e => by have := (HLT.out k hk).1; omega)
        have hZ6 := HZ6.out.grownR hg6 (fun k hk e => (HLT.out k hk).2.1 e)
        have hT6 := HT6.out.grownR hg6 (fun k hk e => by have := (HLT.out k hk).2.2; omega)
        have hb6 := HBW6.out.grown hg6 HBW6.out.size (fun k hk => by have := (HLT.out k hk).1; omega)
        have hv6 : (Value.slice A5 (fs.length + 1) c5).ownBlock = (Value.slice A4 D.ss.length c4).ownBlock ∨ (Value.slice A5 (fs.length + 1) c5).ownBlock = some (w5.heap.size + 1) := by simpa using ha6
        have hZfar : ¬ blksD (.slice A0 D.fn.length c0) (.slice A1 D.fl.length c1) (.slice An N.length cn) (.slice Al L.length cl) (.slice A5 (fs.length + 1) c5) (fs ++ [(⟨kd, a, b, D.nn, D.nl⟩, .slice A2 D.nn.length c2, .slice A3 D.nl.length c3)]) Z := by
          rintro (hz | hz | hz)
          · exact HS5.out.far (.inl hz)
          · have := HZN.out hz; exact this
          · rcases blksT_snoc hv6 hz with h1 | h1 | h1
            · exact HS5.out.far (.inr (.inr h1))
            · omega
            · exact HFZ.out h1
        have nX : w.heap.size ≠ Z := by omega
        have nR : w.heap.size + 1 ≠ Z := by omega
        have nB : w.heap.size ≤ Z := by omega
        obtain ⟨w7, hw7⟩ : ∃ w7, w7 = ((w6.setCell ⟨Z, 4, none⟩ (.slice A5 (fs.length + 1) c5)).setCell ⟨Z, 2, none⟩ (.slice An N.length cn)).setCell ⟨Z, 3, none⟩ (.slice Al L.length cl) := ⟨_, rfl⟩
        have HF : Hid (OutSt w v0 v1 v2 v3 (.slice B4 D.ss.length d4) Z (.slice A0 D.fn.length c0) (.slice A1 D.fl.length c1) (.slice An N.length cn) (.slice Al L.length cl) (.slice A5 (fs.length + 1) c5) ⟨D.fn, D.fl, N, L, D.ss ++ [⟨kd, a, b, D.nn, D.nl⟩]⟩ (fs ++ [(⟨kd, a, b, D.nn, D.nl⟩, .slice A2 D.nn.length c2, .slice A3 D.nl.length c3)]) w7) := Lib.hid
          (hw7 ▸ ⟨((hO6.setFar (p := ⟨Z, 4, none⟩) hZfar _).setFar (p := ⟨Z, 2, none⟩) hZfar _).setFar (p := ⟨Z, 3, none⟩) hZfar _, ((hX6.far (p := ⟨Z, 4, none⟩) nX _).far (p := ⟨Z, 2, none⟩) nX _).far (p := ⟨Z, 3, none⟩) nX _,
            ((hR6.far (p := ⟨Z, 4, none⟩) nR _).far (p := ⟨Z, 2, none⟩) nR _).far (p := ⟨Z, 3, none⟩) nR _, ((hZ6.set_ 4 _).set_ 2 _).set_ 3 _, hzl, hZfar, ((hb6.setCell (p := ⟨Z, 4, none⟩) nB _).setCell (p := ⟨Z, 2, none⟩) nB _).setCell (p := ⟨Z, 3, none⟩) nB _⟩)
        clear z_0 z_1 z_2 z_3 z_4 z_f0 z_f1 z_f2 z_f3 z_f4 t_0 t_1 x_0 x_1 x_2 x_3 x_4
        (have z_0 := hZ6.cell 0); (have z_1 := hZ6.cell 1); (have z_2 := hZ6.cell 2); (have z_3 := hZ6.cell 3); (have z_4 := hZ6.cell 4); simp only [List.getElem?_toArray, List.getElem?_cons_succ, List.getElem?_cons_zero] at z_0 z_1 z_2 z_3 z_4; (have z_f0 := hZ6.frozen 0); (have z_f1 := hZ6.frozen 1); (have z_f2 := hZ6.frozen 2); (have z_f3 := hZ6.frozen 3); (have z_f4 := hZ6.frozen 4)
        (have t_0 := hT6.cell 0); (have t_1 := hT6.cell 1); simp only [List.getElem?_toArray, List.getElem?_cons_succ, List.getElem?_cons_zero] at t_0 t_1
        have hZ6l := hZ6.lt
        have hT6l := hT6.lt
        have nTZ : ¬ T = Z := HTZ.out
        have nTZ' : ¬ Z = T := fun e => HTZ.out e.symm
        clear hO6 hX6 hR6 hZ6 hT6 hb6 hZfar

        go_upto_region 9 with (fail)
        rw [← hw7]
        clear hw7 z_0 z_1 z_2 z_3 z_4 z_f0 z_f1 z_f2 z_f3 z_f4 t_0 t_1
        have hlen : (D.ss ++ [(⟨kd, a, b, D.nn, D.nl⟩ : Sp)]).length = fs.length + 1 := by have := HM.out; simp; omega
        have HLEN := Lib.hid hlen
        obtain ⟨_, _, hR, hZ, hZl, _, _⟩ := HF.out
        (have z_0 := hZ.cell 0); (have z_1 := hZ.cell 1); (have z_2 := hZ.cell 2); (have z_3 := hZ.cell 3); (have z_4 := hZ.cell 4); simp only [List.getElem?_toArray, List.getElem?_cons_succ, List.getElem?_cons_zero] at z_0 z_1 z_2 z_3 z_4
        (have r_0 := hR.cell 0); (have r_1 := hR.cell 1); (have r_2 := hR.cell 2); (have r_3 := hR.cell 3); (have r_4 := hR.cell 4); simp only [List.getElem?_toArray, List.getElem?_cons_succ, List.getElem?_cons_zero] at r_0 r_1 r_2 r_3 r_4; (have r_f0 := hR.frozen 0); (have r_f1 := hR.frozen 1); (have r_f2 := hR.frozen 2); (have r_f3 := hR.frozen 3); (have r_f4 := hR.frozen 4)
        have hRlt := hR.lt
        have HFF := Lib.hid (fun u0 u1 u2 u3 u4 => HF.out.fin u0 u1 u2 u3 u4)
        clear hR hZ HF hlen
        go_wp2
        exact bodyPost_ret (v := .tuple #[.agg #[.slice A0 D.fn.length c0, .slice A1 D.fl.length c1, .slice An N.length cn, .slice Al L.length cl, .slice A5 (fs.length + 1) c5], .bool true]) (by simp [results, Try.results37, go_sem, r_0, r_1, r_2, r_3, r_4, hRlt]) rfl
          ⟨A0, c0, A1, c1, An, cn, Al, cl, A5, c5, fs ++ [(⟨kd, a, b, D.nn, D.nl⟩, .slice A2 D.nn.length c2, .slice A3 D.nl.length c3)], by simp only [HLEN.out], by simp only [HLEN.out]; exact (HFF.out _ _ _ _ _).1, (HFF.out _ _ _ _ _).2⟩

set_option maxHeartbeats 16000000 in
set_option maxRecDepth 100000 in
theorem sDoStep_at (v0 v1 v2 v3 v4 : Value) (D : Dr) (kd a b : Int) (w : World) (h : RD w v0 v1 v2 v3 v4 D) (hle : DrLe D) :
    Calls Try.prog 44 #[.agg #[v0, v1, v2, v3, v4], .int .i64 kd, .int .i64 a, .int .i64 b] w (RetDB (doStepD D kd a b) (doStepB D kd a b) w) := by
  obtain ⟨r, hr⟩ : ∃ r, okD D = r := ⟨_, rfl⟩
  have HR := Lib.hid hr
  have HLE := Lib.hid hle
  obtain ⟨B4, d4, ev4, _⟩ := h.ss
  subst ev4
  obtain ⟨i0, hi, iz0, iz1, iz2⟩ := info_parts infoStep
  obtain ⟨E, hE⟩ : ∃ E, doStepD D kd a b = E := ⟨_, rfl⟩
  obtain ⟨bb, hbb⟩ : ∃ bb, doStepB D kd a b = bb := ⟨_, rfl⟩
  rw [hE, hbb]
  have HE := Lib.hid hE
  have HBB := Lib.hid hbb
  clear hle hE hbb
  go_enter Try.func44, Try.ntmps44
  go_wp2_with fail
  refine (sCopyD_any _ _ _ _ _ D _ (h.below (by (repeat' (first | (with_reducible exact Below.refl _ _) | (with_reducible assumption) | (with_reducible refine Below.drew ?_) | (with_reducible refine below_drewN ?_ _) | (with_reducible refine Below.alloc ?_ ?_ _) | (with_reducible refine Below.setCell ?_ ?_ _) | (with_reducible refine Below.step (by assumption) ?_ ?_))); all_goals (first | omega | (simp; done) | (simp; omega)))) HLE.out).mono ?_
  rintro e w1 ⟨A0, c0, A1, c1, A2, c2, A3, c3, A4, c4, fs, rfl, ho1, hb1⟩
  have hz1 := hb1.size
  simp at hz1
  have hX1 : Blk w1 w.heap.size 59 #[v0, v1, v2, v3, (.slice B4 D.ss.length d4)] := Blk.below ((Blk.newAt rfl).alloc _) hb1 (by first | omega | (simp; done) | (simp; omega))
  have hR1 : Blk w1 (w.heap.size + 1) 59 #[.slice none 0 0, .slice none 0 0, .slice none 0 0, .slice none 0 0, .slice none 0 0] := Blk.below (Blk.newAt (by simp)) hb1 (by first | omega | (simp; done) | (simp; omega))
  have hbw1 : Below w.heap.size w w1 := by (repeat' (first | (with_reducible exact Below.refl _ _) | (with_reducible assumption) | (with_reducible refine Below.drew ?_) | (with_reducible refine below_drewN ?_ _) | (with_reducible refine Below.alloc ?_ ?_ _) | (with_reducible refine Below.setCell ?_ ?_ _) | (with_reducible refine Below.step (by assumption) ?_ ?_))); all_goals (first | omega | (simp; done) | (simp; omega))
  have hO1 : OwnD (w.heap.size + 1 + 1) w1 (.slice A0 D.fn.length c0) (.slice A1 D.fl.length c1) (.slice A2 D.nn.length c2) (.slice A3 D.nl.length c3) (.slice A4 D.ss.length c4) D fs := by simpa using ho1
  have HS2 := Lib.hid (OutSt.start hO1 (Nat.le_refl _) hX1 hR1 hbw1)
  (have x_0 := hX1.cell 0); (have x_1 := hX1.cell 1); (have x_2 := hX1.cell 2); (have x_3 := hX1.cell 3); (have x_4 := hX1.cell 4); simp only [List.getElem?_toArray, List.getElem?_cons_succ, List.getElem?_cons_zero] at x_0 x_1 x_2 x_3 x_4
  have hX1l := hX1.lt
  clear ho1 hb1 hO1
  go_wp2_with fail
  obtain ⟨w2, hw2⟩ : ∃ w2, w2 = w1.alloc (.cells #[.slice A0 D.fn.length c0, .slice A1 D.fl.length c1, .slice A2 D.nn.length c2, .slice A3 D.nl.length c3, .slice A4 D.ss.length c4] 59) := ⟨_, rfl⟩
  rw [← hw2] at HS2 ⊢
  generalize w1.heap.size = Z at *
  clear hw2 hX1 hR1 hbw1 x_0 x_1 x_2 x_3 x_4 hX1l hz1
  refine (sDok_at _ _ _ _ _ D r _ (h.below HS2.out.blw) HR).mono ?_
  rintro e w3 ⟨rfl, hb3⟩
  have HS3 := Lib.hid (HS2.out.below hb3)
  clear hb3 HS2
  have hX3 := HS3.out.X
  have hZ3 := HS3.out.Z_
  have hR3 := HS3.out.R
  (have x_0 := hX3.cell 0); (have x_1 := hX3.cell 1); (have x_2 := hX3.cell 2); (have x_3 := hX3.cell 3); (have x_4 := hX3.cell 4); simp only [List.getElem?_toArray, List.getElem?_cons_succ, List.getElem?_cons_zero] at x_0 x_1 x_2 x_3 x_4
  cases r
  · have hno : doStepB D kd a b = false := by unfold doStepB; rw [hr]; rfl
    have hu : D = E := by rw [← HE.out]; exact (doStep_no hno).symm
    have hv : false = bb := by rw [← HBB.out]; exact hno.symm
    subst hu
    subst hv
    have HF := HS3
    clear HS3 HE HBB hno
    clear hr
    obtain ⟨_, _, hR, hZ, hZl, _, _⟩ := HF.out
    (have z_0 := hZ.cell 0); (have z_1 := hZ.cell 1); (have z_2 := hZ.cell 2); (have z_3 := hZ.cell 3); (have z_4 := hZ.cell 4); simp only [List.getElem?_toArray, List.getElem?_cons_succ, List.getElem?_cons_zero] at z_0 z_1 z_2 z_3 z_4
    (have r_0 := hR.cell 0); (have r_1 := hR.cell 1); (have r_2 := hR.cell 2); (have r_3 := hR.cell 3); (have r_4 := hR.cell 4); simp only [List.getElem?_toArray, List.getElem?_cons_succ, List.getElem?_cons_zero] at r_0 r_1 r_2 r_3 r_4; (have r_f0 := hR.frozen 0); (have r_f1 := hR.frozen 1); (have r_f2 := hR.frozen 2); (have r_f3 := hR.frozen 3); (have r_f4 := hR.frozen 4)
    have hRlt := hR.lt
    have HFF := Lib.hid (fun u0 u1 u2 u3 u4 => HF.out.fin u0 u1 u2 u3 u4)
    clear hR hZ HF
    go_wp2
    exact bodyPost_ret (v := .tuple #[.agg #[.slice A0 D.fn.length c0, .slice A1 D.fl.length c1, .slice A2 D.nn.length c2, .slice A3 D.nl.length c3, .slice A4 D.ss.length c4], .bool false]) (by simp [results, Try.results44, go_sem, r_0, r_1, r_2, r_3, r_4, hRlt]) rfl ⟨_, _, _, _, _, _, _, _, _, _, _, rfl, (HFF.out _ _ _ _ _).1, (HFF.out _ _ _ _ _).2⟩
  · by_cases h40 : ¬ D.ss.length < 40
    · have hno : doStepB D kd a b = false := by unfold doStepB; rw [hr, decide_eq_false h40]; rfl
      have hn40 : D.ss.length = 40 := by
        have h41 : D.ss.length ≤ 40 := by
          unfold okD at hr
          simp only [Bool.and_eq_true, decide_eq_true_eq] at hr
          exact hr.2.1
        omega
      have hu : D = E := by rw [← HE.out]; exact (doStep_no hno).symm
      have hv : false = bb := by rw [← HBB.out]; exact hno.symm
      subst hu
      subst hv
      have HF := HS3
      clear HS3 HE HBB hno
      clear hr h40
      obtain ⟨_, _, hR, hZ, hZl, _, _⟩ := HF.out
      (have z_0 := hZ.cell 0); (have z_1 := hZ.cell 1); (have z_2 := hZ.cell 2); (have z_3 := hZ.cell 3); (have z_4 := hZ.cell 4); simp only [List.getElem?_toArray, List.getElem?_cons_succ, List.getElem?_cons_zero] at z_0 z_1 z_2 z_3 z_4
      (have r_0 := hR.cell 0); (have r_1 := hR.cell 1); (have r_2 := hR.cell 2); (have r_3 := hR.cell 3); (have r_4 := hR.cell 4); simp only [List.getElem?_toArray, List.getElem?_cons_succ, List.getElem?_cons_zero] at r_0 r_1 r_2 r_3 r_4; (have r_f0 := hR.frozen 0); (have r_f1 := hR.frozen 1); (have r_f2 := hR.frozen 2); (have r_f3 := hR.frozen 3); (have r_f4 := hR.frozen 4)
      have hRlt := hR.lt
      have HFF := Lib.hid (fun u0 u1 u2 u3 u4 => HF.out.fin u0 u1 u2 u3 u4)
      clear hR hZ HF
      go_wp2
      exact bodyPost_ret (v := .tuple #[.agg #[.slice A0 D.fn.length c0, .slice A1 D.fl.length c1, .slice A2 D.nn.length c2, .slice A3 D.nl.length c3, .slice A4 D.ss.length c4], .bool false]) (by simp [results, Try.results44, go_sem, r_0, r_1, r_2, r_3, r_4, hRlt, hn40]) rfl ⟨_, _, _, _, _, _, _, _, _, _, _, rfl, (HFF.out _ _ _ _ _).1, (HFF.out _ _ _ _ _).2⟩
    · have h40' : D.ss.length < 40 := by omega
      have g1 : ¬ (40 : Int) ≤ (D.ss.length : Int) := by omega
      have g2 : ((D.ss.length : Int) == 40) = false := beq_eq_false_iff_ne.2 (by omega)
      obtain ⟨N, hN⟩ : ∃ N, stepN D.nn D.nl kd a b = N := ⟨_, rfl⟩
      obtain ⟨L, hL⟩ : ∃ L, stepL D.nn D.nl kd a b = L := ⟨_, rfl⟩
      obtain ⟨sb, hsb⟩ : ∃ sb, stepB D.nn D.nl kd a b = sb := ⟨_, rfl⟩
      have H1 := Lib.hid hN
      have H2 := Lib.hid hL
      have H3 := Lib.hid hsb
      have hX3l := hX3.lt
      have HZL3 := hZ3.lt
      have hnn := (h.below HS3.out.blw).nn
      have hnl := (h.below HS3.out.blw).nl
      clear h40
      have HOK := Lib.hid hr
      clear hr hN hL hsb
      go_wp2_with fail
      refine (sStep_at _ _ D.nn D.nl N L kd a b sb _ hnn hnl HLE.out.nn HLE.out.nl H1 H2 H3).mono ?_
      rintro e w4 ⟨An, cn, Al, cl, rfl, ho4, hb4⟩
      have hlt3 := HS3.out.own.lt
      have HS4 := HS3.out.below hb4
      have hR4l := HS4.R.lt
      have hbase : w.heap.size + 1 + 1 ≤ w3.heap.size := by have := hR3.lt; omega
      have hlt4 := ho4.lt
      have hm := congrArg List.length HS4.own.map
      simp at hm
      have hzl := HS4.lt
      obtain ⟨w5, hw5⟩ : ∃ w5, w5 = w4.alloc (.cells #[.slice An N.length cn, .slice Al L.length cl] 27) := ⟨_, rfl⟩
      have hb5 : Below w4.heap.size w4 w5 := hw5 ▸ (Below.refl _ _).alloc (Nat.le_refl _) _
      have hT5 : Blk w5 w4.heap.size 27 #[.slice An N.length cn, .slice Al L.length cl] := hw5 ▸ Blk.newAt rfl
      have HS5 := Lib.hid (HS4.below hb5)
      have ho5 := Lib.hid ((ho4.kept hb5).mono hbase)
      have hs45 : w3.heap.size ≤ w4.heap.size := hb4.size
      have HFR : Hid (∀ k, blksW (.slice An N.length cn) (.slice Al L.length cl) k → ¬ blksD (.slice A0 D.fn.length c0) (.slice A1 D.fl.length c1) (.slice A2 D.nn.length c2) (.slice A3 D.nl.length c3) (.slice A4 D.ss.length c4) fs k) := Lib.hid (fun k hk hk' => by have := (hlt4 k hk).1; have := (hlt3 k hk').2; omega)
      have HL4 : Hid (∀ k, blksW (.slice An N.length cn) (.slice Al L.length cl) k → k < w4.heap.size) := Lib.hid (fun k hk => (hlt4 k hk).2)
      have hZ5 := HS5.out.Z_.lt
      have HTZ0 : Hid (¬ w4.heap.size = Z) := Lib.hid (by have := HS4.Z_.lt; omega)
      have HZN0 : Hid (blksW (.slice An N.length cn) (.slice Al L.length cl) Z → False) := Lib.hid (fun hz => by have := (hlt4 _ hz).1; have := HZL3; omega)
      have HLO : Hid (∀ k, blksD (.slice A0 D.fn.length c0) (.slice A1 D.fl.length c1) (.slice A2 D.nn.length c2) (.slice A3 D.nl.length c3) (.slice A4 D.ss.length c4) fs k → k < w4.heap.size) := Lib.hid (fun k hk => by have := (hlt3 k hk).2; omega)
      clear ho4 hb4 hlt3 hlt4 HS4 HS3 hX3 hZ3 hR3 hX3l hnn hnl x_0 x_1 x_2 x_3 x_4 hR4l
      go_upto_region 5 with (fail)
      rw [← hw5]
      generalize w4.heap.size = T at *
      clear hw5 hb5
      cases sb
      · have hno : doStepB D kd a b = false := by unfold doStepB; rw [H3.out, Bool.and_false, Bool.and_false]
        have hu : D = E := by rw [← HE.out]; exact (doStep_no hno).symm
        have hv : false = bb := by rw [← HBB.out]; exact hno.symm
        subst hu
        subst hv
        have HF := HS5
        clear HS5 HE HBB hno
        clear HOK H1 H2 H3 hT5 ho5 HFR HL4 hbase hm hs45
        obtain ⟨_, _, hR, hZ, hZl, _, _⟩ := HF.out
        (have z_0 := hZ.cell 0); (have z_1 := hZ.cell 1); (have z_2 := hZ.cell 2); (have z_3 := hZ.cell 3); (have z_4 := hZ.cell 4); simp only [List.getElem?_toArray, List.getElem?_cons_succ, List.getElem?_cons_zero] at z_0 z_1 z_2 z_3 z_4
        (have r_0 := hR.cell 0); (have r_1 := hR.cell 1); (have r_2 := hR.cell 2); (have r_3 := hR.cell 3); (have r_4 := hR.cell 4); simp only [List.getElem?_toArray, List.getElem?_cons_succ, List.getElem?_cons_zero] at r_0 r_1 r_2 r_3 r_4; (have r_f0 := hR.frozen 0); (have r_f1 := hR.frozen 1); (have r_f2 := hR.frozen 2); (have r_f3 := hR.frozen 3); (have r_f4 := hR.frozen 4)
        have hRlt := hR.lt
        have HFF := Lib.hid (fun u0 u1 u2 u3 u4 => HF.out.fin u0 u1 u2 u3 u4)
        clear hR hZ HF
        go_wp2
        exact bodyPost_ret (v := .tuple #[.agg #[.slice A0 D.fn.length c0, .slice A1 D.fl.length c1, .slice A2 D.nn.length c2, .slice A3 D.nl.length c3, .slice A4 D.ss.length c4], .bool false]) (by simp [results, Try.results44, go_sem, r_0, r_1, r_2, r_3, r_4, hRlt]) rfl ⟨_, _, _, _, _, _, _, _, _, _, _, rfl, (HFF.out _ _ _ _ _).1, (HFF.out _ _ _ _ _).2⟩
      · have hyes : doStepB D kd a b = true := by unfold doStepB; rw [HOK.out, H3.out, decide_eq_true h40']; rfl
        have hu : E = ⟨D.fn, D.fl, N, L, D.ss ++ [⟨kd, a, b, D.nn, D.nl⟩]⟩ := by rw [← HE.out, doStep_yes hyes, H1.out, H2.out]
        have hv : true = bb := by rw [← HBB.out]; exact hyes.symm
        subst hu
        subst hv
        clear HE HBB hyes HOK H1 H2 H3
        have hZ5b := HS5.out.Z_
        have hX5b := HS5.out.X
        (have z_0 := hZ5b.cell 0); (have z_1 := hZ5b.cell 1); (have z_2 := hZ5b.cell 2); (have z_3 := hZ5b.cell 3); (have z_4 := hZ5b.cell 4); simp only [List.getElem?_toArray, List.getElem?_cons_succ, List.getElem?_cons_zero] at z_0 z_1 z_2 z_3 z_4; (have z_f0 := hZ5b.frozen 0); (have z_f1 := hZ5b.frozen 1); (have z_f2 := hZ5b.frozen 2); (have z_f3 := hZ5b.frozen 3); (have z_f4 := hZ5b.frozen 4)
        (have x_0 := hX5b.cell 0); (have x_1 := hX5b.cell 1); (have x_2 := hX5b.cell 2); (have x_3 := hX5b.cell 3); (have x_4 := hX5b.cell 4); simp only [List.getElem?_toArray, List.getElem?_cons_succ, List.getElem?_cons_zero] at x_0 x_1 x_2 x_3 x_4
        (have t_0 := hT5.cell 0); (have t_1 := hT5.cell 1); simp only [List.getElem?_toArray, List.getElem?_cons_succ, List.getElem?_cons_zero] at t_0 t_1
        have hX5l := hX5b.lt
        have hT5l := hT5.lt
        have hfs20 : fs.length ≤ 1048576 := by omega
        have HM := Lib.hid hm
        clear hm
        have HTZ : Hid (¬ T = Z) := HTZ0
        have HZN : Hid (blksW (.slice An N.length cn) (.slice Al L.length cl) Z → False) := HZN0
        go_upto_region 7 with (fail)
        have hnn5 := (h.below HS5.out.blw).nn
        have hnl5 := (h.below HS5.out.blw).nl
        have hbw5 : Below w5.heap.size w5 w5.drew := (Below.refl _ _).drew
        have HS6 := Lib.hid (HS5.out.below hbw5)
        have HWN5 := Lib.hid (ho5.out.kept hbw5)
        have HTD := Lib.hid (hT5.drew)
        have hnn6 := hnn5.below hbw5
        have hnl6 := hnl5.below hbw5
        clear hnn5 hnl5 hbw5 HS5 ho5 hX5b
        have hlt5 := HS6.out.own.lt
        refine region_D (n := 12) (S := fun w' => w'.cell? ⟨w.heap.size, 2, none⟩ = some v2 ∧ w'.cell? ⟨w.heap.size, 3, none⟩ = some v3 ∧ w'.cell? ⟨Z, 4, none⟩ = some (.slice A4 D.ss.length c4)) (by kernel_rfl) ⟨x_2, x_3, z_4⟩ (fun hS => ?_)
        (refine D_take (i := 0) (v := ?_) rfl rfl (by kernel_rfl) (by kernel_rfl) (by kernel_rfl) (by kernel_rfl) (fun _ _ _ h => h) (Or.inl ⟨by rfl, ?_⟩) (by assumption) ?_); rotate_left; (focus (intro w' hSw; (try dsimp only at hSw); go_simp; (try with_reducible rfl))); (try simp only [Act.put, List.setIfInBounds_toArray, List.set_cons_zero, List.set_cons_succ])
        (refine D_take (i := 1) (v := ?_) rfl rfl (by kernel_rfl) (by kernel_rfl) (by kernel_rfl) (by kernel_rfl) (fun _ _ _ h => h) (Or.inl ⟨by rfl, ?_⟩) (by assumption) ?_); rotate_left; (focus (intro w' hSw; (try dsimp only at hSw); go_simp; (try with_reducible rfl))); (try simp only [Act.put, List.setIfInBounds_toArray, List.set_cons_zero, List.set_cons_succ])
        (refine D_take (i := 2) (v := ?_) rfl rfl (by kernel_rfl) (by kernel_rfl) (by kernel_rfl) (by kernel_rfl) (fun _ _ _ h => h) (Or.inl ⟨by rfl, ?_⟩) (by assumption) ?_); rotate_left; (focus (intro w' hSw; (try dsimp only at hSw); go_simp; (try with_reducible rfl))); (try simp only [Act.put, List.setIfInBounds_toArray, List.set_cons_zero, List.set_cons_succ])
        (refine D_take (i := 3) (v := ?_) rfl rfl (by kernel_rfl) (by kernel_rfl) (by kernel_rfl) (by kernel_rfl) (fun _ _ _ h => h) (Or.inl ⟨by rfl, ?_⟩) (by assumption) ?_); rotate_left; (focus (intro w' hSw; (try dsimp only at hSw); go_simp; (try with_reducible rfl))); (try simp only [Act.put, List.setIfInBounds_toArray, List.set_cons_zero, List.set_cons_succ])
        (refine D_take (i := 4) (v := ?_) rfl rfl (by kernel_rfl) (by kernel_rfl) (by kernel_rfl) (by kernel_rfl) (fun _ _ _ h => h) (Or.inl ⟨by rfl, ?_⟩) (by assumption) ?_); rotate_left; (focus (intro w' hSw; (try dsimp only at hSw); go_simp; (try with_reducible rfl))); (try simp only [Act.put, List.setIfInBounds_toArray, List.set_cons_zero, List.set_cons_succ])
        (refine D_take (i := 5) (v := ?_) rfl rfl (by kernel_rfl) (by kernel_rfl) (by kernel_rfl) (by kernel_rfl) (fun _ _ _ h => h) (Or.inl ⟨by rfl, ?_⟩) (by assumption) ?_); rotate_left; (focus (intro w' hSw; (try dsimp only at hSw); go_simp; (try with_reducible rfl))); (try simp only [Act.put, List.setIfInBounds_toArray, List.set_cons_zero, List.set_cons_succ])
        (refine D_take (i := 6) (v := ?_) rfl rfl (by kernel_rfl) (by kernel_rfl) (by kernel_rfl) (by kernel_rfl) (fun _ _ _ h => h) (Or.inl ⟨by rfl, ?_⟩) (by assumption) ?_); rotate_left; (focus (intro w' hSw; (try dsimp only at hSw); go_simp; (try with_reducible rfl))); (try simp only [Act.put, List.setIfInBounds_toArray, List.set_cons_zero, List.set_cons_succ])
        (refine D_step (i := 7) rfl (by kernel_rfl) (fun K hK => ?_)); (rw [if_pos (by rfl)])
        go_simp
        go_at_call 68
        refine (sCopy_any _ _ D.nn D.nl _ hnn6 hnl6 HLE.out.nn HLE.out.nl).mono ?_
        rintro e wa ⟨Bn, dn, Bl, dl, rfl, hoa, hba⟩
        have HSA := Lib.hid (HS6.out.below hba)
        have HWNA := Lib.hid (HWN5.out.kept hba)
        have HTA := Lib.hid (HTD.out.below hba (by simpa using hT5l))
        have hlta := hoa.lt
        have hsa := hba.size
        simp at hsa hlta hlt5
        have HFRA : Hid (∀ k, blksW (.slice Bn D.nn.length dn) (.slice Bl D.nl.length dl) k → w5.heap.size ≤ k ∧ k < wa.heap.size) := Lib.hid (fun k hk => hlta k hk)
        have HLT5 : Hid (∀ k, blksD (.slice A0 D.fn.length c0) (.slice A1 D.fl.length c1) (.slice A2 D.nn.length c2) (.slice A3 D.nl.length c3) (.slice A4 D.ss.length c4) fs k → k < w5.heap.size) := Lib.hid (fun k hk => (hlt5 k hk).2)
        have hbase5 : w.heap.size + 1 + 1 ≤ w5.heap.size := by omega
        have HWB := Lib.hid (hoa.mono (show w.heap.size + 1 + 1 ≤ w5.drew.heap.size by simpa using hbase5))
        clear hlta hlt5 hoa hba HS6 HWN5 HTD hnn6 hnl6
        go_wp2_with fail
        refine hK _ _ (fun _ => ⟨HSA.out.X.cell 2, HSA.out.X.cell 3, HSA.out.Z_.cell 4⟩) (fun hS' => ?_)
        have hS2 := hS' (by decide)
        clear hK K hS hS' x_0 x_1 x_2 x_3 x_4 z_0 z_1 z_2 z_3 z_4 z_f0 z_f1 z_f2 z_f3 z_f4 t_0 t_1 hX5l hZ5 hZ5b hT5
        (try simp only [Act.put, List.setIfInBounds_toArray, List.set_cons_zero, List.set_cons_succ])
        (refine D_take (i := 8) (v := ?_) rfl rfl (by kernel_rfl) (by kernel_rfl) (by kernel_rfl) (by kernel_rfl) (fun _ _ _ h => h) (Or.inl ⟨by rfl, ?_⟩) (by assumption) ?_); rotate_left; (focus (intro w' hSw; (try dsimp only at hSw); go_simp; (try with_reducible rfl))); (try simp only [Act.put, List.setIfInBounds_toArray, List.set_cons_zero, List.set_cons_succ])
        (refine D_step (i := 9) rfl (by kernel_rfl) (fun K hK => ?_)); (rw [if_pos (by rfl)])
        go_simp
        have HROW := Lib.hid (HSA.out.own.alloc (.cells #[.int .i64 kd, .int .i64 a, .int .i64 b, .slice Bn D.nn.length dn, .slice Bl D.nl.length dl] 94))
        have HWN := Lib.hid (HWNA.out.alloc' (.cells #[.int .i64 kd, .int .i64 a, .int .i64 b, .slice Bn D.nn.length dn, .slice Bl D.nl.length dl] 94))
        have HWF := Lib.hid (HWB.out.alloc' (.cells #[.int .i64 kd, .int .i64 a, .int .i64 b, .slice Bn D.nn.length dn, .slice Bl D.nl.length dl] 94))
        have HX6 := Lib.hid (HSA.out.X.alloc (.cells #[.int .i64 kd, .int .i64 a, .int .i64 b, .slice Bn D.nn.length dn, .slice Bl D.nl.length dl] 94))
        have HR6 := Lib.hid (HSA.out.R.alloc (.cells #[.int .i64 kd, .int .i64 a, .int .i64 b, .slice Bn D.nn.length dn, .slice Bl D.nl.length dl] 94))
        have HZ6 := Lib.hid (HSA.out.Z_.alloc (.cells #[.int .i64 kd, .int .i64 a, .int .i64 b, .slice Bn D.nn.length dn, .slice Bl D.nl.length dl] 94))
        have HT6 := Lib.hid (HTA.out.alloc (.cells #[.int .i64 kd, .int .i64 a, .int .i64 b, .slice Bn D.nn.length dn, .slice Bl D.nl.length dl] 94))
        have HBW6 := Lib.hid (HSA.out.blw.alloc HSA.out.blw.size (.cells #[.int .i64 kd, .int .i64 a, .int .i64 b, .slice Bn D.nn.length dn, .slice Bl D.nl.length dl] 94))
        have HLT : Hid (∀ k, (Value.slice A4 D.ss.length c4).ownBlock = some k → w.heap.size + 1 + 1 ≤ k ∧ k ≠ Z ∧ k < T) := Lib.hid (fun k hk => ⟨(HSA.out.own.lt k (.inr (.inr (.inl hk)))).1, fun e => HSA.out.far (e ▸ .inr (.inr (.inl hk))), HLO.out k (.inr (.inr (.inl hk)))⟩)
        have HLIT : Hid (∀ (j : Nat) (u : Value), (sfc ((⟨kd, a, b, D.nn, D.nl⟩, .slice Bn D.nn.length dn, .slice Bl D.nl.length dl) : SF))[j]? = some u → (wa.alloc (.cells #[.int .i64 kd, .int .i64 a, .int .i64 b, .slice Bn D.nn.length dn, .slice Bl D.nl.length dl] 94)).cell? ((⟨wa.heap.size, 0, none⟩ : Addr).add j) = some u) := Lib.hid (lit_step rfl rfl)
        have hb20 : w.heap.size + 1 + 1 ≤ (wa.alloc (.cells #[.int .i64 kd, .int .i64 a, .int .i64 b, .slice Bn D.nn.length dn, .slice Bl D.nl.length dl] 94)).heap.size := by simp; omega
        have HRW : Hid (World.ownsRow (wa.alloc (.cells #[.int .i64 kd, .int .i64 a, .int .i64 b, .slice Bn D.nn.length dn, .slice Bl D.nl.length dl] 94)) (w.heap.size + 1 + 1) 94 5 (.slice A4 D.ss.length c4) fs.length (fs.flatMap sfc)) := Lib.hid HROW.out.ss.row
        refine hK _ _ (fun _ => ⟨HX6.out.cell 2, HX6.out.cell 3, HZ6.out.cell 4⟩) (fun hS' => ?_)
        have hS3 := hS' (by decide)
        clear hK K hS2 hS'
        (try simp only [Act.put, List.setIfInBounds_toArray, List.set_cons_zero, List.set_cons_succ])
        (refine D_step (i := 10) rfl (by kernel_rfl) (fun K hK => ?_))
        refine step_append_step rfl _ _ _ rfl (w.heap.size + 1 + 1) 94 i0 Try.underlying57 hi iz0 iz1 iz2 (.slice A4 D.ss.length c4) fs (⟨kd, a, b, D.nn, D.nl⟩, .slice Bn D.nn.length dn, .slice Bl D.nl.length dl) ⟨wa.heap.size, 0, none⟩ 1 rfl rfl HRW.out HLIT.out (sfc_one _ _ _ _ _ _ _ rfl rfl) hfs20 hb20 ?_
        intro A5 c5 w6 hr6 hg6 ha6
        have hs6 := hg6.size
        simp at hs6
        have hv6 : (Value.slice A5 (fs.length + 1) c5).ownBlock = (Value.slice A4 D.ss.length c4).ownBlock ∨ (Value.slice A5 (fs.length + 1) c5).ownBlock = some (wa.heap.size + 1) := by simpa using ha6
        have hT6t : Turns (fun b => (Value.slice A4 D.ss.length c4).ownBlock = some b) _ w6 := Turns.ofGrown hg6 (fun k hk => hk)
        have hN6 := HWN.out.turned hT6t (fun k hk e1 => HFR.out k hk (.inr (.inr (.inl e1))))
        have hO6 := (HROW.out.snoc (f := (⟨kd, a, b, D.nn, D.nl⟩, .slice Bn D.nn.length dn, .slice Bl D.nl.length dl)) (by rw [List.flatMap_append]; simpa using hr6) hg6 (by simpa using ha6) HWF.out (fun k hk hk' => by have := (HFRA.out k hk).1; have := HLT5.out k hk'; omega)).newNow hN6 (Nat.le_refl _) (fun k hk hk' => by
          have hkT := HL4.out k hk
          rcases blksD_snoc hv6 hk' with h1 | h1 | h1
          · exact HFR.out k hk h1
          · omega
          · have := (HFRA.out k h1).1; omega)
        have hX6 := HX6.out.grownR hg6 (fun k hk e => by have := (HLT.out k hk).1; omega)
        have hR6 := HR6.out.grownR hg6 (fun k hk e => by have := (HLT.out k hk).1; omega)
        have hZ6 := HZ6.out.grownR hg6 (fun k hk e => (HLT.out k hk).2.1 e)
        have hT6 := HT6.out.grownR hg6 (fun k hk e => by have := (HLT.out k hk).2.2; omega)
        have hb6 := HBW6.out.grown hg6 HBW6.out.size (fun k hk => by have := (HLT.out k hk).1; omega)
        have HS5 := HSA
        have hZlt := HSA.out.Z_.lt
        have HFZ : Hid (blksW (.slice Bn D.nn.length dn) (.slice Bl D.nl.length dl) Z → False) := Lib.hid (fun hz => by have := (HFRA.out _ hz).1; omega)
        refine hK _ _ (fun _ => ⟨hX6.cell 2, hX6.cell 3, hZ6.cell 4⟩) (fun hS' => ?_)
        have hS4 := hS' (by decide)
        clear hK K hS3 hS'
        (try simp only [Act.put, List.setIfInBounds_toArray, List.set_cons_zero, List.set_cons_succ])
        (refine D_take (i := 11) (v := ?_) rfl rfl (by kernel_rfl) (by kernel_rfl) (by kernel_rfl) (by kernel_rfl) (fun _ _ _ h => h) (Or.inl ⟨by rfl, ?_⟩) (by assumption) ?_); rotate_left; (focus (intro w' hSw; (try dsimp only at hSw); go_simp; (try with_reducible rfl))); (try simp only [Act.put, List.setIfInBounds_toArray, List.set_cons_zero, List.set_cons_succ])
        have hZfar : ¬ blksD (.slice A0 D.fn.length c0) (.slice A1 D.fl.length c1) (.slice An N.length cn) (.slice Al L.length cl) (.slice A5 (fs.length + 1) c5) (fs ++ [(⟨kd, a, b, D.nn, D.nl⟩, .slice Bn D.nn.length dn, .slice Bl D.nl.length dl)]) Z := by
          rintro (hz | hz | hz)
          · exact HS5.out.far (.inl hz)
          · have := HZN.out hz; exact this
          · rcases blksT_snoc hv6 hz with h1 | h1 | h1
            · exact HS5.out.far (.inr (.inr h1))
            · omega
            · exact HFZ.out h1
        have nX : w.heap.size ≠ Z := by omega
        have nR : w.heap.size + 1 ≠ Z := by omega
        have nB : w.heap.size ≤ Z := by omega
        obtain ⟨w7, hw7⟩ : ∃ w7, w7 = ((w6.setCell ⟨Z, 4, none⟩ (.slice A5 (fs.length + 1) c5)).setCell ⟨Z, 2, none⟩ (.slice An N.length cn)).setCell ⟨Z, 3, none⟩ (.slice Al L.length cl) := ⟨_, rfl⟩
        have HF : Hid (OutSt w v0 v1 v2 v3 (.slice B4 D.ss.length d4) Z (.slice A0 D.fn.length c0) (.slice A1 D.fl.length c1) (.slice An N.length cn) (.slice Al L.length cl) (.slice A5 (fs.length + 1) c5) ⟨D.fn, D.fl, N, L, D.ss ++ [⟨kd, a, b, D.nn, D.nl⟩]⟩ (fs ++ [(⟨kd, a, b, D.nn, D.nl⟩, .slice Bn D.nn.length dn, .slice Bl D.nl.length dl)]) w7) := Lib.hid
          (hw7 ▸ ⟨((hO6.setFar (p := ⟨Z, 4, none⟩) hZfar _).setFar (p := ⟨Z, 2, none⟩) hZfar _).setFar (p := ⟨Z, 3, none⟩) hZfar _, ((hX6.far (p := ⟨Z, 4, none⟩) nX _).far (p := ⟨Z, 2, none⟩) nX _).far (p := ⟨Z, 3, none⟩) nX _,
            ((hR6.far (p := ⟨Z, 4, none⟩) nR _).far (p := ⟨Z, 2, none⟩) nR _).far (p := ⟨Z, 3, none⟩) nR _, ((hZ6.set_ 4 _).set_ 2 _).set_ 3 _, hzl, hZfar, ((hb6.setCell (p := ⟨Z, 4, none⟩) nB _).setCell (p := ⟨Z, 2, none⟩) nB _).setCell (p := ⟨Z, 3, none⟩) nB _⟩)
        (have z_0 := hZ6.cell 0); (have z_1 := hZ6.cell 1); (have z_2 := hZ6.cell 2); (have z_3 := hZ6.cell 3); (have z_4 := hZ6.cell 4); simp only [List.getElem?_toArray, List.getElem?_cons_succ, List.getElem?_cons_zero] at z_0 z_1 z_2 z_3 z_4; (have z_f0 := hZ6.frozen 0); (have z_f1 := hZ6.frozen 1); (have z_f2 := hZ6.frozen 2); (have z_f3 := hZ6.frozen 3); (have z_f4 := hZ6.frozen 4)
        (have t_0 := hT6.cell 0); (have t_1 := hT6.cell 1); simp only [List.getElem?_toArray, List.getElem?_cons_succ, List.getElem?_cons_zero] at t_0 t_1
        have hZ6l := hZ6.lt
        have hT6l := hT6.lt
        have nTZ : ¬ T = Z := HTZ.out
        have nTZ' : ¬ Z = T := fun e => HTZ.out e.symm
        clear hO6 hX6 hR6 hZ6 hT6 hb6 hZfar

        (refine D_step (i := 12) rfl (by kernel_rfl) (fun K hK => ?_)); (rw [if_pos (by rfl)])
        go_simp
        refine hK _ _ (fun h => absurd rfl h) (fun _ => ?_)
        clear hK K
        (try simp only [Act.put, List.setIfInBounds_toArray, List.set_cons_zero, List.set_cons_succ])
        refine D_done (by kernel_rfl) ?_ _
        go_upto_region 9 with (fail)
        rw [← hw7]
        clear hw7 z_0 z_1 z_2 z_3 z_4 z_f0 z_f1 z_f2 z_f3 z_f4 t_0 t_1
        have hlen : (D.ss ++ [(⟨kd, a, b, D.nn, D.nl⟩ : Sp)]).length = fs.length + 1 := by have := HM.out; simp; omega
        have HLEN := Lib.hid hlen
        obtain ⟨_, _, hR, hZ, hZl, _, _⟩ := HF.out
        (have z_0 := hZ.cell 0); (have z_1 := hZ.cell 1); (have z_2 := hZ.cell 2); (have z_3 := hZ.cell 3); (have z_4 := hZ.cell 4); simp only [List.getElem?_toArray, List.getElem?_cons_succ, List.getElem?_cons_zero] at z_0 z_1 z_2 z_3 z_4
        (have r_0 := hR.cell 0); (have r_1 := hR.cell 1); (have r_2 := hR.cell 2); (have r_3 := hR.cell 3); (have r_4 := hR.cell 4); simp only [List.getElem?_toArray, List.getElem?_cons_succ, List.getElem?_cons_zero] at r_0 r_1 r_2 r_3 r_4; (have r_f0 := hR.frozen 0); (have r_f1 := hR.frozen 1); (have r_f2 := hR.frozen 2); (have r_f3 := hR.frozen 3); (have r_f4 := hR.frozen 4)
        have hRlt := hR.lt
        have HFF := Lib.hid (fun u0 u1 u2 u3 u4 => HF.out.fin u0 u1 u2 u3 u4)
        clear hR hZ HF hlen
        go_wp2
        exact bodyPost_ret (v := .tuple #[.agg #[.slice A0 D.fn.length c0, .slice A1 D.fl.length c1, .slice An N.length cn, .slice Al L.length cl, .slice A5 (fs.length + 1) c5], .bool true]) (by simp [results, Try.results44, go_sem, r_0, r_1, r_2, r_3, r_4, hRlt]) rfl
          ⟨A0, c0, A1, c1, An, cn, Al, cl, A5, c5, fs ++ [(⟨kd, a, b, D.nn, D.nl⟩, .slice Bn D.nn.length dn, .slice Bl D.nl.length dl)], by simp only [HLEN.out], by simp only [HLEN.out]; exact (HFF.out _ _ _ _ _).1, (HFF.out _ _ _ _ _).2⟩

end Go.Proofs.Ytnpdincjekelaaa

namespace Go.Proofs.Ytnpdincjekelaaa
open Go.RowKit

noncomputable def undoStepD (D : Dr) : Dr := undoD (okD D) D
noncomputable def undoStepB (D : Dr) : Bool := canUndo (okD D) D

theorem undoStep_no {D : Dr} (h : okD D = false ∨ D.ss.length = 0) : undoStepD D = D ∧ undoStepB D = false := by
  have hn : ¬ (okD D = true ∧ 0 < D.ss.length) := by
    rcases h with h | h
    · rw [h]; simp
    · omega
  refine ⟨undoD_no hn, ?_⟩
  unfold undoStepB canUndo
  rcases h with h | h
  · rw [h]; rfl
  · rw [h]; simp

theorem undoStep_yes {D : Dr} {k : Nat} (h : okD D = true) (hk : D.ss.length = k + 1) (s : Sp) (hs : D.ss[k]? = some s) : undoStepD D = ⟨D.fn, D.fl, s.ns, s.ls, D.ss.take k⟩ ∧ undoStepB D = true := by
  have hp : 0 < D.ss.length := by omega
  obtain ⟨hk2, hs2⟩ := List.getElem?_eq_some_iff.1 hs
  constructor
  · unfold undoStepD
    rw [h, undoD_yes hp]
    have e : D.ss.length - 1 = k := by omega
    simp only [e, hs2]
  · unfold undoStepB canUndo
    rw [h, decide_eq_true hp]; rfl

theorem undoStep_cnt (D : Dr) (h : DrLe D) : cntD (undoStepD D) ≤ 20000000 := by
  by_cases hc : okD D = true ∧ 0 < D.ss.length
  · obtain ⟨h1, h2⟩ := hc
    obtain ⟨k, hk⟩ : ∃ k, D.ss.length = k + 1 := ⟨D.ss.length - 1, by omega⟩
    have hkl : k < D.ss.length := by omega
    rw [(undoStep_yes h1 hk D.ss[k] (List.getElem?_eq_getElem hkl)).1]
    have e : cntD (⟨D.fn, D.fl, D.ss[k].ns, D.ss[k].ls, D.ss.take k⟩ : Dr) = 2 * D.fn.length + 2 * D.fl.length + 2 * D.ss[k].ns.length + 2 * D.ss[k].ls.length + cntS (D.ss.take k) := rfl
    have hsplit : cntS (D.ss.take k) ≤ cntS D.ss := by
      have : ∀ (l : List Sp) (m : Nat), cntS (l.take m) ≤ cntS l := by
        intro l
        induction l with
        | nil => intro m; simp [cntS]
        | cons a r ih =>
          intro m
          cases m with
          | zero => simp [cntS]
          | succ m => have := ih m; simp only [List.take_succ_cons, cntS]; omega
      exact this _ _
    have := cntS_eq D.ss
    have := h.fn
    have := h.fl
    have := h.ss
    have := h.sum
    have := h.ws k hkl
    omega
  · rw [(undoStep_no (by
      cases hb : okD D with
      | false => exact .inl rfl
      | true => exact .inr (by
          have h3 : ¬ 0 < D.ss.length := fun h2 => hc ⟨hb, h2⟩
          omega))).1]
    exact h.cnt

theorem blksD_pop {a b c d : Value} {g n c' k x : Nat} {fs : List SF} (hk : k < fs.length) (h : blksD a b fs[k].2.1 fs[k].2.2 (.slice (some ⟨g, 0, none⟩) k c') (fs.take k) x) : blksD a b c d (.slice (some ⟨g, 0, none⟩) n c') fs x := by
  rcases h with h | h | h
  · exact .inl h
  · exact .inr (.inr (.inr ⟨k, hk, h⟩))
  · exact .inr (.inr (blksT_take h))

set_option maxHeartbeats 8000000 in
set_option maxRecDepth 100000 in
theorem iUndoStep_at (v0 v1 v2 v3 v4 : Value) (D : Dr) (w : World) (h : RD w v0 v1 v2 v3 v4 D) (hle : DrLe D) :
    Calls Try.prog 38 #[.agg #[v0, v1, v2, v3, v4]] w (RetDB (undoStepD D) (undoStepB D) w) := by
  obtain ⟨r, hr⟩ : ∃ r, okD D = r := ⟨_, rfl⟩
  have HR := Lib.hid hr
  have HLE := Lib.hid hle
  obtain ⟨B4, d4, ev4, _⟩ := h.ss
  subst ev4
  obtain ⟨E, hE⟩ : ∃ E, undoStepD D = E := ⟨_, rfl⟩
  obtain ⟨bb, hbb⟩ : ∃ bb, undoStepB D = bb := ⟨_, rfl⟩
  rw [hE, hbb]
  have HE := Lib.hid hE
  have HBB := Lib.hid hbb
  clear hle hE hbb
  go_enter Try.func38, Try.ntmps38
  go_wp2_with fail
  refine (iCopyD_any _ _ _ _ _ D _ (h.below (by (repeat' (first | (with_reducible exact Below.refl _ _) | (with_reducible assumption) | (with_reducible refine Below.drew ?_) | (with_reducible refine below_drewN ?_ _) | (with_reducible refine Below.alloc ?_ ?_ _) | (with_reducible refine Below.setCell ?_ ?_ _) | (with_reducible refine Below.step (by assumption) ?_ ?_))); all_goals (first | omega | (simp; done) | (simp; omega)))) HLE.out).mono ?_
  rintro e w1 ⟨A0, c0, A1, c1, A2, c2, A3, c3, A4, c4, fs, rfl, ho1, hb1⟩
  have hz1 := hb1.size
  simp at hz1
  have hX1 : Blk w1 w.heap.size 59 #[v0, v1, v2, v3, (.slice B4 D.ss.length d4)] := Blk.below ((Blk.newAt rfl).alloc _) hb1 (by first | omega | (simp; done) | (simp; omega))
  have hR1 : Blk w1 (w.heap.size + 1) 59 #[.slice none 0 0, .slice none 0 0, .slice none 0 0, .slice none 0 0, .slice none 0 0] := Blk.below (Blk.newAt (by simp)) hb1 (by first | omega | (simp; done) | (simp; omega))
  have hbw1 : Below w.heap.size w w1 := by (repeat' (first | (with_reducible exact Below.refl _ _) | (with_reducible assumption) | (with_reducible refine Below.drew ?_) | (with_reducible refine below_drewN ?_ _) | (with_reducible refine Below.alloc ?_ ?_ _) | (with_reducible refine Below.setCell ?_ ?_ _) | (with_reducible refine Below.step (by assumption) ?_ ?_))); all_goals (first | omega | (simp; done) | (simp; omega))
  have hO1 : OwnD (w.heap.size + 1 + 1) w1 (.slice A0 D.fn.length c0) (.slice A1 D.fl.length c1) (.slice A2 D.nn.length c2) (.slice A3 D.nl.length c3) (.slice A4 D.ss.length c4) D fs := by simpa using ho1
  have HS2 := Lib.hid (OutSt.start hO1 (Nat.le_refl _) hX1 hR1 hbw1)
  (have x_0 := hX1.cell 0); (have x_1 := hX1.cell 1); (have x_2 := hX1.cell 2); (have x_3 := hX1.cell 3); (have x_4 := hX1.cell 4); simp only [List.getElem?_toArray, List.getElem?_cons_succ, List.getElem?_cons_zero] at x_0 x_1 x_2 x_3 x_4
  have hX1l := hX1.lt
  clear ho1 hb1 hO1
  go_wp2_with fail
  obtain ⟨w2, hw2⟩ : ∃ w2, w2 = w1.alloc (.cells #[.slice A0 D.fn.length c0, .slice A1 D.fl.length c1, .slice A2 D.nn.length c2, .slice A3 D.nl.length c3, .slice A4 D.ss.length c4] 59) := ⟨_, rfl⟩
  rw [← hw2] at HS2 ⊢
  generalize w1.heap.size = Z at *
  clear hw2 hX1 hR1 hbw1 x_0 x_1 x_2 x_3 x_4 hX1l hz1
  refine (iDok_at _ _ _ _ _ D r _ (h.below HS2.out.blw) HR).mono ?_
  rintro e w3 ⟨rfl, hb3⟩
  have HS3 := Lib.hid (HS2.out.below hb3)
  clear hb3 HS2
  have hX3 := HS3.out.X
  have hZ3 := HS3.out.Z_
  have hR3 := HS3.out.R
  (have x_0 := hX3.cell 0); (have x_1 := hX3.cell 1); (have x_2 := hX3.cell 2); (have x_3 := hX3.cell 3); (have x_4 := hX3.cell 4); simp only [List.getElem?_toArray, List.getElem?_cons_succ, List.getElem?_cons_zero] at x_0 x_1 x_2 x_3 x_4
  cases r
  · obtain ⟨u1, u2⟩ := undoStep_no (D := D) (.inl hr)
    have hu : D = E := by rw [← HE.out]; exact u1.symm
    have hv : false = bb := by rw [← HBB.out]; exact u2.symm
    subst hu
    subst hv
    have HF := HS3
    clear HS3 HE HBB hr u1 u2
    obtain ⟨_, _, hR, hZ, hZl, _, _⟩ := HF.out
    (have z_0 := hZ.cell 0); (have z_1 := hZ.cell 1); (have z_2 := hZ.cell 2); (have z_3 := hZ.cell 3); (have z_4 := hZ.cell 4); simp only [List.getElem?_toArray, List.getElem?_cons_succ, List.getElem?_cons_zero] at z_0 z_1 z_2 z_3 z_4
    (have r_0 := hR.cell 0); (have r_1 := hR.cell 1); (have r_2 := hR.cell 2); (have r_3 := hR.cell 3); (have r_4 := hR.cell 4); simp only [List.getElem?_toArray, List.getElem?_cons_succ, List.getElem?_cons_zero] at r_0 r_1 r_2 r_3 r_4; (have r_f0 := hR.frozen 0); (have r_f1 := hR.frozen 1); (have r_f2 := hR.frozen 2); (have r_f3 := hR.frozen 3); (have r_f4 := hR.frozen 4)
    have hRlt := hR.lt
    have HFF := Lib.hid (fun u0 u1 u2 u3 u4 => HF.out.fin u0 u1 u2 u3 u4)
    clear hR hZ HF
    go_wp2
    exact bodyPost_ret (v := .tuple #[.agg #[.slice A0 D.fn.length c0, .slice A1 D.fl.length c1, .slice A2 D.nn.length c2, .slice A3 D.nl.length c3, .slice A4 D.ss.length c4], .bool false]) (by simp [results, Try.results38, go_sem, r_0, r_1, r_2, r_3, r_4, hRlt]) rfl ⟨_, _, _, _, _, _, _, _, _, _, _, rfl, (HFF.out _ _ _ _ _).1, (HFF.out _ _ _ _ _).2⟩
  · by_cases hn0 : D.ss.length = 0
    · obtain ⟨u1, u2⟩ := undoStep_no (D := D) (.inr hn0)
      have hu : D = E := by rw [← HE.out]; exact u1.symm
      have hv : false = bb := by rw [← HBB.out]; exact u2.symm
      subst hu
      subst hv
      have hn1 : ((D.ss.length : Int) == 0) = true := by simp [hn0]
      have HF := HS3
      clear HS3 HE HBB hr u1 u2
      obtain ⟨_, _, hR, hZ, hZl, _, _⟩ := HF.out
      (have z_0 := hZ.cell 0); (have z_1 := hZ.cell 1); (have z_2 := hZ.cell 2); (have z_3 := hZ.cell 3); (have z_4 := hZ.cell 4); simp only [List.getElem?_toArray, List.getElem?_cons_succ, List.getElem?_cons_zero] at z_0 z_1 z_2 z_3 z_4
      (have r_0 := hR.cell 0); (have r_1 := hR.cell 1); (have r_2 := hR.cell 2); (have r_3 := hR.cell 3); (have r_4 := hR.cell 4); simp only [List.getElem?_toArray, List.getElem?_cons_succ, List.getElem?_cons_zero] at r_0 r_1 r_2 r_3 r_4; (have r_f0 := hR.frozen 0); (have r_f1 := hR.frozen 1); (have r_f2 := hR.frozen 2); (have r_f3 := hR.frozen 3); (have r_f4 := hR.frozen 4)
      have hRlt := hR.lt
      have HFF := Lib.hid (fun u0 u1 u2 u3 u4 => HF.out.fin u0 u1 u2 u3 u4)
      clear hR hZ HF
      go_wp2
      exact bodyPost_ret (v := .tuple #[.agg #[.slice A0 D.fn.length c0, .slice A1 D.fl.length c1, .slice A2 D.nn.length c2, .slice A3 D.nl.length c3, .slice A4 D.ss.length c4], .bool false]) (by simp [results, Try.results38, go_sem, r_0, r_1, r_2, r_3, r_4, hRlt, hn0]) rfl ⟨_, _, _, _, _, _, _, _, _, _, _, rfl, (HFF.out _ _ _ _ _).1, (HFF.out _ _ _ _ _).2⟩
    · obtain ⟨k, hk⟩ : ∃ k, D.ss.length = k + 1 := ⟨D.ss.length - 1, by omega⟩
      have hkl : k < D.ss.length := by omega
      have hm := congrArg List.length HS3.out.own.map
      simp at hm
      have hkf : k < fs.length := by omega
      obtain ⟨g, hg, hgl, hcap⟩ := HS3.out.own.ss.addr (by omega)
      subst hg
      have hfk : fs[k].1 = D.ss[k] := by
        have h1 := HS3.out.own.map
        have h2 : (fs.map Prod.fst)[k]'(by simpa using hkf) = D.ss[k] := by simp only [h1]
        simpa using h2
      obtain ⟨u1, u2⟩ := undoStep_yes hr hk D.ss[k] (List.getElem?_eq_getElem hkl)
      have hu : E = ⟨D.fn, D.fl, D.ss[k].ns, D.ss[k].ls, D.ss.take k⟩ := by rw [← HE.out]; exact u1
      have hv : true = bb := by rw [← HBB.out]; exact u2.symm
      subst hu
      subst hv
      clear HE HBB u1 u2 hr
      have e1 : (D.ss.length : Int) - 1 = (k : Int) := by omega
      have k0 : (0 : Int) ≤ (k : Int) := by omega
      have k1 : (k : Int) < (D.ss.length : Int) := by omega
      have k2 : (k : Int) ≤ (c4 : Int) := by omega
      have hn1 : ((D.ss.length : Int) == 0) = false := beq_eq_false_iff_ne.2 (by omega)
      have hkm : k < 1048576 := by have := HLE.out.ss; omega
      have hwk : IntKind.i64.wrap (k : Int) = (k : Int) := IntWalk.i64_in _ (by omega)
      have hzl := HS3.out.lt
      have nX : w.heap.size ≠ Z := by omega
      have nR : w.heap.size + 1 ≠ Z := by omega
      have nB : w.heap.size ≤ Z := by omega
      have hsl : (D.ss.take k).length = k := by simp; omega
      have hwin := HS3.out.own.ss.win k hkf
      obtain ⟨An, cn, en⟩ := hwin.1.form
      obtain ⟨Al, cl, el⟩ := hwin.2.1.form
      have hrow := HS3.out.own.ss.row
      have hg5 : k * 5 + 3 < D.ss.length * 5 := by omega
      have hg6 : k * 5 + 4 < D.ss.length * 5 := by omega
      rw [← hgl] at hrow
      have q3 := hrow.cellAt (k * 5 + 3) hg5
      have q4 := hrow.cellAt (k * 5 + 4) hg6
      rw [flat_get sfc 5 (fun _ => rfl) _ k _ hkf (by omega)] at q3 q4
      simp only [sfc, List.getElem?_cons_zero, List.getElem?_cons_succ] at q3 q4
      have hN := HS3.out.own.popNow hkf
      have hZfar : ¬ blksD (.slice A0 D.fn.length c0) (.slice A1 D.fl.length c1) fs[k].2.1 fs[k].2.2 (.slice (some ⟨g, 0, none⟩) k c4) (fs.take k) Z := fun hz => HS3.out.far (blksD_pop hkf hz)
      rw [hfk] at hN
      rw [hfk] at en
      rw [hfk] at el
      rw [en, el] at hN hZfar
      rw [en] at q3
      rw [el] at q4
      obtain ⟨w5, hw5⟩ : ∃ w5, w5 = ((w3.setCell ⟨Z, 2, none⟩ (.slice An D.ss[k].ns.length cn)).setCell ⟨Z, 3, none⟩ (.slice Al D.ss[k].ls.length cl)).setCell ⟨Z, 4, none⟩ (.slice (some ⟨g, 0, none⟩) k c4) := ⟨_, rfl⟩
      have HF : Hid (OutSt w v0 v1 v2 v3 (.slice B4 D.ss.length d4) Z (.slice A0 D.fn.length c0) (.slice A1 D.fl.length c1) (.slice An D.ss[k].ns.length cn) (.slice Al D.ss[k].ls.length cl) (.slice (some ⟨g, 0, none⟩) k c4) ⟨D.fn, D.fl, D.ss[k].ns, D.ss[k].ls, D.ss.take k⟩ (fs.take k) w5) := Lib.hid
        (hw5 ▸ ⟨((hN.setFar (p := ⟨Z, 2, none⟩) hZfar _).setFar (p := ⟨Z, 3, none⟩) hZfar _).setFar (p := ⟨Z, 4, none⟩) hZfar _, ((HS3.out.X.far (p := ⟨Z, 2, none⟩) nX _).far (p := ⟨Z, 3, none⟩) nX _).far (p := ⟨Z, 4, none⟩) nX _,
          ((HS3.out.R.far (p := ⟨Z, 2, none⟩) nR _).far (p := ⟨Z, 3, none⟩) nR _).far (p := ⟨Z, 4, none⟩) nR _, ((hZ3.set_ 2 _).set_ 3 _).set_ 4 _, hzl, hZfar, ((HS3.out.blw.setCell (p := ⟨Z, 2, none⟩) nB _).setCell (p := ⟨Z, 3, none⟩) nB _).setCell (p := ⟨Z, 4, none⟩) nB _⟩)
      (have z_0 := hZ3.cell 0); (have z_1 := hZ3.cell 1); (have z_2 := hZ3.cell 2); (have z_3 := hZ3.cell 3); (have z_4 := hZ3.cell 4); simp only [List.getElem?_toArray, List.getElem?_cons_succ, List.getElem?_cons_zero] at z_0 z_1 z_2 z_3 z_4; (have z_f0 := hZ3.frozen 0); (have z_f1 := hZ3.frozen 1); (have z_f2 := hZ3.frozen 2); (have z_f3 := hZ3.frozen 3); (have z_f4 := hZ3.frozen 4)
      have hZ4l := hZ3.lt
      have hgZ : ¬ g = Z := fun e => HS3.out.far (.inr (.inr (.inl (by rw [e]; rfl))))
      have HSL := Lib.hid hsl
      generalize D.ss[k] = s at *
      clear hN HS3 hwin hrow hg5 hg6 en el hfk hX3 hZ3 hR3 hm hk hgl hcap hsl hZfar hkl
      go_upto_region 7 with (fail)
      rw [← hw5]
      clear hw5 z_0 z_1 z_2 z_3 z_4 z_f0 z_f1 z_f2 z_f3 z_f4 hZ4l q3 q4 x_0 x_1 x_2 x_3 x_4
      obtain ⟨_, _, hR, hZ, hZl, _, _⟩ := HF.out
      (have z_0 := hZ.cell 0); (have z_1 := hZ.cell 1); (have z_2 := hZ.cell 2); (have z_3 := hZ.cell 3); (have z_4 := hZ.cell 4); simp only [List.getElem?_toArray, List.getElem?_cons_succ, List.getElem?_cons_zero] at z_0 z_1 z_2 z_3 z_4
      (have r_0 := hR.cell 0); (have r_1 := hR.cell 1); (have r_2 := hR.cell 2); (have r_3 := hR.cell 3); (have r_4 := hR.cell 4); simp only [List.getElem?_toArray, List.getElem?_cons_succ, List.getElem?_cons_zero] at r_0 r_1 r_2 r_3 r_4; (have r_f0 := hR.frozen 0); (have r_f1 := hR.frozen 1); (have r_f2 := hR.frozen 2); (have r_f3 := hR.frozen 3); (have r_f4 := hR.frozen 4)
      have hRlt := hR.lt
      have HFF := Lib.hid (fun u0 u1 u2 u3 u4 => HF.out.fin u0 u1 u2 u3 u4)
      clear hR hZ HF
      go_wp2
      exact bodyPost_ret (v := .tuple #[.agg #[.slice A0 D.fn.length c0, .slice A1 D.fl.length c1, .slice An s.ns.length cn, .slice Al s.ls.length cl, .slice (some ⟨g, 0, none⟩) k c4], .bool true]) (by simp [results, Try.results38, go_sem, r_0, r_1, r_2, r_3, r_4, hRlt]) rfl
        ⟨A0, c0, A1, c1, An, cn, Al, cl, some ⟨g, 0, none⟩, c4, fs.take k, by simp only [HSL.out], by simp only [HSL.out]; exact (HFF.out _ _ _ _ _).1, (HFF.out _ _ _ _ _).2⟩

set_option maxHeartbeats 8000000 in
set_option maxRecDepth 100000 in
theorem sUndoStep_at (v0 v1 v2 v3 v4 : Value) (D : Dr) (w : World) (h : RD w v0 v1 v2 v3 v4 D) (hle : DrLe D) :
    Calls Try.prog 43 #[.agg #[v0, v1, v2, v3, v4]] w (RetDB (undoStepD D) (undoStepB D) w) := by
  obtain ⟨r, hr⟩ : ∃ r, okD D = r := ⟨_, rfl⟩
  have HR := Lib.hid hr
  have HLE := Lib.hid hle
  obtain ⟨B4, d4, ev4, _⟩ := h.ss
  subst ev4
  obtain ⟨E, hE⟩ : ∃ E, undoStepD D = E := ⟨_, rfl⟩
  obtain ⟨bb, hbb⟩ : ∃ bb, undoStepB D = bb := ⟨_, rfl⟩
  rw [hE, hbb]
  have HE := Lib.hid hE
  have HBB := Lib.hid hbb
  clear hle hE hbb
  go_enter Try.func43, Try.ntmps43
  go_wp2_with fail
  refine (sCopyD_any _ _ _ _ _ D _ (h.below (by (repeat' (first | (with_reducible exact Below.refl _ _) | (with_reducible assumption) | (with_reducible refine Below.drew ?_) | (with_reducible refine below_drewN ?_ _) | (with_reducible refine Below.alloc ?_ ?_ _) | (with_reducible refine Below.setCell ?_ ?_ _) | (with_reducible refine Below.step (by assumption) ?_ ?_))); all_goals (first | omega | (simp; done) | (simp; omega)))) HLE.out).mono ?_
  rintro e w1 ⟨A0, c0, A1, c1, A2, c2, A3, c3, A4, c4, fs, rfl, ho1, hb1⟩
  have hz1 := hb1.size
  simp at hz1
  have hX1 : Blk w1 w.heap.size 59 #[v0, v1, v2, v3, (.slice B4 D.ss.length d4)] := Blk.below ((Blk.newAt rfl).alloc _) hb1 (by first | omega | (simp; done) | (simp; omega))
  have hR1 : Blk w1 (w.heap.size + 1) 59 #[.slice none 0 0, .slice none 0 0, .slice none 0 0, .slice none 0 0, .slice none 0 0] := Blk.below (Blk.newAt (by simp)) hb1 (by first | omega | (simp; done) | (simp; omega))
  have hbw1 : Below w.heap.size w w1 := by (repeat' (first | (with_reducible exact Below.refl _ _) | (with_reducible assumption) | (with_reducible refine Below.drew ?_) | (with_reducible refine below_drewN ?_ _) | (with_reducible refine Below.alloc ?_ ?_ _) | (with_reducible refine Below.setCell ?_ ?_ _) | (with_reducible refine Below.step (by assumption) ?_ ?_))); all_goals (first | omega | (simp; done) | (simp; omega))
  have hO1 : OwnD (w.heap.size + 1 + 1) w1 (.slice A0 D.fn.length c0) (.slice A1 D.fl.length c1) (.slice A2 D.nn.length c2) (.slice A3 D.nl.length c3) (.slice A4 D.ss.length c4) D fs := by simpa using ho1
  have HS2 := Lib.hid (OutSt.start hO1 (Nat.le_refl _) hX1 hR1 hbw1)
  (have x_0 := hX1.cell 0); (have x_1 := hX1.cell 1); (have x_2 := hX1.cell 2); (have x_3 := hX1.cell 3); (have x_4 := hX1.cell 4); simp only [List.getElem?_toArray, List.getElem?_cons_succ, List.getElem?_cons_zero] at x_0 x_1 x_2 x_3 x_4
  have hX1l := hX1.lt
  clear ho1 hb1 hO1
  go_wp2_with fail
  obtain ⟨w2, hw2⟩ : ∃ w2, w2 = w1.alloc (.cells #[.slice A0 D.fn.length c0, .slice A1 D.fl.length c1, .slice A2 D.nn.length c2, .slice A3 D.nl.length c3, .slice A4 D.ss.length c4] 59) := ⟨_, rfl⟩
  rw [← hw2] at HS2 ⊢
  generalize w1.heap.size = Z at *
  clear hw2 hX1 hR1 hbw1 x_0 x_1 x_2 x_3 x_4 hX1l hz1
  refine (sDok_at _ _ _ _ _ D r _ (h.below HS2.out.blw) HR).mono ?_
  rintro e w3 ⟨rfl, hb3⟩
  have HS3 := Lib.hid (HS2.out.below hb3)
  clear hb3 HS2
  have hX3 := HS3.out.X
  have hZ3 := HS3.out.Z_
  have hR3 := HS3.out.R
  (have x_0 := hX3.cell 0); (have x_1 := hX3.cell 1); (have x_2 := hX3.cell 2); (have x_3 := hX3.cell 3); (have x_4 := hX3.cell 4); simp only [List.getElem?_toArray, List.getElem?_cons_succ, List.getElem?_cons_zero] at x_0 x_1 x_2 x_3 x_4
  cases r
  · obtain ⟨u1, u2⟩ := undoStep_no (D := D) (.inl hr)
    have hu : D = E := by rw [← HE.out]; exact u1.symm
    have hv : false = bb := by rw [← HBB.out]; exact u2.symm
    subst hu
    subst hv
    have HF := HS3
    clear HS3 HE HBB hr u1 u2
    obtain ⟨_, _, hR, hZ, hZl, _, _⟩ := HF.out
    (have z_0 := hZ.cell 0); (have z_1 := hZ.cell 1); (have z_2 := hZ.cell 2); (have z_3 := hZ.cell 3); (have z_4 := hZ.cell 4); simp only [List.getElem?_toArray, List.getElem?_cons_succ, List.getElem?_cons_zero] at z_0 z_1 z_2 z_3 z_4
    (have r_0 := hR.cell 0); (have r_1 := hR.cell 1); (have r_2 := hR.cell 2); (have r_3 := hR.cell 3); (have r_4 := hR.cell 4); simp only [List.getElem?_toArray, List.getElem?_cons_succ, List.getElem?_cons_zero] at r_0 r_1 r_2 r_3 r_4; (have r_f0 := hR.frozen 0); (have r_f1 := hR.frozen 1); (have r_f2 := hR.frozen 2); (have r_f3 := hR.frozen 3); (have r_f4 := hR.frozen 4)
    have hRlt := hR.lt
    have HFF := Lib.hid (fun u0 u1 u2 u3 u4 => HF.out.fin u0 u1 u2 u3 u4)
    clear hR hZ HF
    go_wp2
    exact bodyPost_ret (v := .tuple #[.agg #[.slice A0 D.fn.length c0, .slice A1 D.fl.length c1, .slice A2 D.nn.length c2, .slice A3 D.nl.length c3, .slice A4 D.ss.length c4], .bool false]) (by simp [results, Try.results43, go_sem, r_0, r_1, r_2, r_3, r_4, hRlt]) rfl ⟨_, _, _, _, _, _, _, _, _, _, _, rfl, (HFF.out _ _ _ _ _).1, (HFF.out _ _ _ _ _).2⟩
  · by_cases hn0 : D.ss.length = 0
    · obtain ⟨u1, u2⟩ := undoStep_no (D := D) (.inr hn0)
      have hu : D = E := by rw [← HE.out]; exact u1.symm
      have hv : false = bb := by rw [← HBB.out]; exact u2.symm
      subst hu
      subst hv
      have hn1 : ((D.ss.length : Int) == 0) = true := by simp [hn0]
      have HF := HS3
      clear HS3 HE HBB hr u1 u2
      obtain ⟨_, _, hR, hZ, hZl, _, _⟩ := HF.out
      (have z_0 := hZ.cell 0); (have z_1 := hZ.cell 1); (have z_2 := hZ.cell 2); (have z_3 := hZ.cell 3); (have z_4 := hZ.cell 4); simp only [List.getElem?_toArray, List.getElem?_cons_succ, List.getElem?_cons_zero] at z_0 z_1 z_2 z_3 z_4
      (have r_0 := hR.cell 0); (have r_1 := hR.cell 1); (have r_2 := hR.cell 2); (have r_3 := hR.cell 3); (have r_4 := hR.cell 4); simp only [List.getElem?_toArray, List.getElem?_cons_succ, List.getElem?_cons_zero] at r_0 r_1 r_2 r_3 r_4; (have r_f0 := hR.frozen 0); (have r_f1 := hR.frozen 1); (have r_f2 := hR.frozen 2); (have r_f3 := hR.frozen 3); (have r_f4 := hR.frozen 4)
      have hRlt := hR.lt
      have HFF := Lib.hid (fun u0 u1 u2 u3 u4 => HF.out.fin u0 u1 u2 u3 u4)
      clear hR hZ HF
      go_wp2
      exact bodyPost_ret (v := .tuple #[.agg #[.slice A0 D.fn.length c0, .slice A1 D.fl.length c1, .slice A2 D.nn.length c2, .slice A3 D.nl.length c3, .slice A4 D.ss.length c4], .bool false]) (by simp [results, Try.results43, go_sem, r_0, r_1, r_2, r_3, r_4, hRlt, hn0]) rfl ⟨_, _, _, _, _, _, _, _, _, _, _, rfl, (HFF.out _ _ _ _ _).1, (HFF.out _ _ _ _ _).2⟩
    · obtain ⟨k, hk⟩ : ∃ k, D.ss.length = k + 1 := ⟨D.ss.length - 1, by omega⟩
      have hkl : k < D.ss.length := by omega
      have hm := congrArg List.length HS3.out.own.map
      simp at hm
      have hkf : k < fs.length := by omega
      obtain ⟨g, hg, hgl, hcap⟩ := HS3.out.own.ss.addr (by omega)
      subst hg
      have hfk : fs[k].1 = D.ss[k] := by
        have h1 := HS3.out.own.map
        have h2 : (fs.map Prod.fst)[k]'(by simpa using hkf) = D.ss[k] := by simp only [h1]
        simpa using h2
      obtain ⟨u1, u2⟩ := undoStep_yes hr hk D.ss[k] (List.getElem?_eq_getElem hkl)
      have hu : E = ⟨D.fn, D.fl, D.ss[k].ns, D.ss[k].ls, D.ss.take k⟩ := by rw [← HE.out]; exact u1
      have hv : true = bb := by rw [← HBB.out]; exact u2.symm
      subst hu
      subst hv
      clear HE HBB u1 u2 hr
      have e1 : (D.ss.length : Int) - 1 = (k : Int) := by omega
      have k0 : (0 : Int) ≤ (k : Int) := by omega
      have k1 : (k : Int) < (D.ss.length : Int) := by omega
      have k2 : (k : Int) ≤ (c4 : Int) := by omega
      have hn1 : ((D.ss.length : Int) == 0) = false := beq_eq_false_iff_ne.2 (by omega)
      have hkm : k < 1048576 := by have := HLE.out.ss; omega
      have hwk : IntKind.i64.wrap (k : Int) = (k : Int) := IntWalk.i64_in _ (by omega)
      have hzl := HS3.out.lt
      have nX : w.heap.size ≠ Z := by omega
      have nR : w.heap.size + 1 ≠ Z := by omega
      have nB : w.heap.size ≤ Z := by omega
      have hsl : (D.ss.take k).length = k := by simp; omega
      obtain ⟨B5, d5, ev5, _, _, hcell⟩ := h.ss
      cases ev5
      have hB := hcell (by omega)
      obtain ⟨b, off, rfl, hb, hcl⟩ := hB
      obtain ⟨_, _, _, vn, vl, k3, k4, hn, hl⟩ := hcl k hkl
      obtain ⟨hw1, hw2⟩ := HLE.out.ws k hkl
      obtain ⟨Av, cv, ev, _⟩ := hn.form
      obtain ⟨Au, cu, eu, _⟩ := hl.form
      subst ev eu
      have hbl := HS3.out.blw
      have q3 := (hbl.cell (p := ⟨b, off + k * 5 + 3, none⟩) hb).trans k3
      have q4 := (hbl.cell (p := ⟨b, off + k * 5 + 4, none⟩) hb).trans k4
      have hn' := hn.below hbl
      have hl' := hl.below hbl
      have HSL := Lib.hid hsl
      have HMP := HS3
      have hkf' := hkf
      clear hsl hfk
      generalize D.ss[k] = s at *
      clear k3 k4 hcl hcell hn hl hbl
      have hX3l := hX3.lt
      have hZ3l := hZ3.lt
      go_wp2_with fail
      refine (sCopy_any _ _ s.ns s.ls _ hn' hl' hw1 hw2).mono ?_
      rintro e w4 ⟨An, cn, Al, cl, rfl, ho4, hb4⟩
      have hlt3 := HS3.out.own.lt
      have HS4 := HS3.out.below hb4
      have hZ4 := HS4.Z_
      have hlt4 := ho4.lt
      have hR4l := HS4.R.lt
      have hbase : w.heap.size + 1 + 1 ≤ w3.heap.size := by have := hR3.lt; omega
      have hnow := HS4.own.newNow ho4 hbase (fun k hk hk' => by have := (hlt4 k hk).1; have := (hlt3 k hk').2; omega)
      have hN := hnow.takeN (k := k) (by omega)
      have hZfar : ¬ blksD (.slice A0 D.fn.length c0) (.slice A1 D.fl.length c1) (.slice An s.ns.length cn) (.slice Al s.ls.length cl) (.slice (some ⟨g, 0, none⟩) k c4) (fs.take k) Z := by
        rintro (hz | hz | hz)
        · exact HS4.far (.inl hz)
        · have := (hlt4 _ hz).1; omega
        · exact HS4.far (.inr (.inr (blksT_take hz)))
      obtain ⟨w5, hw5⟩ : ∃ w5, w5 = ((w4.setCell ⟨Z, 2, none⟩ (.slice An s.ns.length cn)).setCell ⟨Z, 3, none⟩ (.slice Al s.ls.length cl)).setCell ⟨Z, 4, none⟩ (.slice (some ⟨g, 0, none⟩) k c4) := ⟨_, rfl⟩
      have HF : Hid (OutSt w v0 v1 v2 v3 (.slice (some ⟨b, off, none⟩) D.ss.length d4) Z (.slice A0 D.fn.length c0) (.slice A1 D.fl.length c1) (.slice An s.ns.length cn) (.slice Al s.ls.length cl) (.slice (some ⟨g, 0, none⟩) k c4) ⟨D.fn, D.fl, s.ns, s.ls, D.ss.take k⟩ (fs.take k) w5) := Lib.hid
        (hw5 ▸ ⟨((hN.setFar (p := ⟨Z, 2, none⟩) hZfar _).setFar (p := ⟨Z, 3, none⟩) hZfar _).setFar (p := ⟨Z, 4, none⟩) hZfar _, ((HS4.X.far (p := ⟨Z, 2, none⟩) nX _).far (p := ⟨Z, 3, none⟩) nX _).far (p := ⟨Z, 4, none⟩) nX _,
          ((HS4.R.far (p := ⟨Z, 2, none⟩) nR _).far (p := ⟨Z, 3, none⟩) nR _).far (p := ⟨Z, 4, none⟩) nR _, ((hZ4.set_ 2 _).set_ 3 _).set_ 4 _, hzl, hZfar, ((HS4.blw.setCell (p := ⟨Z, 2, none⟩) nB _).setCell (p := ⟨Z, 3, none⟩) nB _).setCell (p := ⟨Z, 4, none⟩) nB _⟩)
      (have z_0 := hZ4.cell 0); (have z_1 := hZ4.cell 1); (have z_2 := hZ4.cell 2); (have z_3 := hZ4.cell 3); (have z_4 := hZ4.cell 4); simp only [List.getElem?_toArray, List.getElem?_cons_succ, List.getElem?_cons_zero] at z_0 z_1 z_2 z_3 z_4; (have z_f0 := hZ4.frozen 0); (have z_f1 := hZ4.frozen 1); (have z_f2 := hZ4.frozen 2); (have z_f3 := hZ4.frozen 3); (have z_f4 := hZ4.frozen 4)
      have hZ4l := hZ4.lt
      clear hN hnow HS4 HS3 HMP hlt3 hlt4 hZfar ho4 hb4 hX3 hZ3 hR3 x_0 x_1 x_2 x_3 x_4 hn' hl' hX3l hZ3l hZ4 q3 q4 hm hk hgl hcap hkl
      go_upto_region 7 with (fail)
      rw [← hw5]
      clear hw5 z_0 z_1 z_2 z_3 z_4 z_f0 z_f1 z_f2 z_f3 z_f4 hZ4l
      obtain ⟨_, _, hR, hZ, hZl, _, _⟩ := HF.out
      (have z_0 := hZ.cell 0); (have z_1 := hZ.cell 1); (have z_2 := hZ.cell 2); (have z_3 := hZ.cell 3); (have z_4 := hZ.cell 4); simp only [List.getElem?_toArray, List.getElem?_cons_succ, List.getElem?_cons_zero] at z_0 z_1 z_2 z_3 z_4
      (have r_0 := hR.cell 0); (have r_1 := hR.cell 1); (have r_2 := hR.cell 2); (have r_3 := hR.cell 3); (have r_4 := hR.cell 4); simp only [List.getElem?_toArray, List.getElem?_cons_succ, List.getElem?_cons_zero] at r_0 r_1 r_2 r_3 r_4; (have r_f0 := hR.frozen 0); (have r_f1 := hR.frozen 1); (have r_f2 := hR.frozen 2); (have r_f3 := hR.frozen 3); (have r_f4 := hR.frozen 4)
      have hRlt := hR.lt
      have HFF := Lib.hid (fun u0 u1 u2 u3 u4 => HF.out.fin u0 u1 u2 u3 u4)
      clear hR hZ HF
      go_wp2
      exact bodyPost_ret (v := .tuple #[.agg #[.slice A0 D.fn.length c0, .slice A1 D.fl.length c1, .slice An s.ns.length cn, .slice Al s.ls.length cl, .slice (some ⟨g, 0, none⟩) k c4], .bool true]) (by simp [results, Try.results43, go_sem, r_0, r_1, r_2, r_3, r_4, hRlt]) rfl
        ⟨A0, c0, A1, c1, An, cn, Al, cl, some ⟨g, 0, none⟩, c4, fs.take k, by simp only [HSL.out], by simp only [HSL.out]; exact (HFF.out _ _ _ _ _).1, (HFF.out _ _ _ _ _).2⟩

end Go.Proofs.Ytnpdincjekelaaa

namespace Go.Proofs.Ytnpdincjekelaaa
open Go.RowKit

/-- A list of bytes in memory. -/
def RB (w : World) (v : Value) (zs : List Int) : Prop := RS w 1 v zs.length (zs.map (Value.int .u8)) ∧ ∀ z ∈ zs, 0 ≤ z ∧ z ≤ 255

theorem RB.below {w w' : World} {v : Value} {zs : List Int} (h : RB w v zs) (hb : Below w.heap.size w w') : RB w' v zs := ⟨RS.below h.1 hb, h.2⟩

theorem RB.form {w : World} {v : Value} {zs : List Int} (h : RB w v zs) : ∃ A c, v = .slice A zs.length c ∧ zs.length ≤ c ∧ zs.length ≤ maxLen ∧
    (0 < zs.length → ∃ b off, A = some ⟨b, off, none⟩ ∧ b < w.heap.size ∧ ∀ k, k < zs.length → ∃ z : Int, w.cell? ⟨b, off + k, none⟩ = some (.int .u8 z) ∧ 0 ≤ z ∧ z ≤ 255) := by
  obtain ⟨⟨_, A, c, hv, h1, h2, h3⟩, hz⟩ := h
  refine ⟨A, c, hv, h1, h2, fun hn => ?_⟩
  obtain ⟨b, off, hA, hlt, hc⟩ := h3 hn
  refine ⟨b, off, hA, hlt, fun k hk => ⟨zs[k], hc k _ ?_, hz _ (List.getElem_mem hk)⟩⟩
  rw [List.getElem?_map, List.getElem?_eq_getElem hk]
  rfl

/-- The cursor lies in block g over the bytes v; what was there at W0 is as it was. -/
def CurOk (W0 : World) (v : Value) (g : Nat) (w : World) : Prop :=
  W0.heap.size ≤ g ∧ Below W0.heap.size W0 w ∧ ∃ i h : Int, 0 ≤ i ∧ Blk w g 104 #[v, .int .i64 i, .int .i64 h]

/-- A draw: a number below n, and only the cursor has turned. -/
def Drawn (W0 : World) (v : Value) (g : Nat) (w : World) (n : Int) (e : Ending) (w' : World) : Prop :=
  ∃ x : Int, e = .returned (.int .i64 x) ∧ 0 ≤ x ∧ x < n ∧ CurOk W0 v g w' ∧ w.grownBy w' (some g)

theorem and_255 (a : Int) : 0 ≤ bits .and .i64 a 255 ∧ bits .and .i64 a 255 < 256 := by
  have e : bits .and .i64 a 255 = IntKind.i64.wrap ((BitVec.ofInt 64 a &&& BitVec.ofInt 64 255).toNat : Int) := rfl
  have h : (BitVec.ofInt 64 a &&& BitVec.ofInt 64 255).toNat ≤ 255 := by
    rw [BitVec.toNat_and]
    exact Nat.and_le_right
  rw [e, IntKind.wrap_i64]
  omega

set_option maxRecDepth 100000 in
theorem new_any (v : Value) (zs : List Int) (w : World) (h : RB w v zs) (hle : zs.length ≤ 1048576) :
    Calls Try.prog 46 #[v] w fun e w' => e = .returned (.pointer (some ⟨w.heap.size, 0, none⟩)) ∧ CurOk w v w.heap.size w' := by
  obtain ⟨A, c, rfl, hc, hm, hcell⟩ := h.form
  clear h hm
  go_enter Try.func46, Try.ntmps46
  go_wp2
  go_loop [3, 4] (fun x i => ∃ k : Nat, ∃ h : Int, k ≤ zs.length ∧ i = .int .i64 k ∧ x = .int .i64 h) (fun _ i => zs.length - (intOf i).toNat)
  case atStart => exact ⟨0, _, Nat.zero_le _, rfl, rfl⟩
  case round =>
    obtain ⟨k, h, hk, rfl, rfl⟩ := hrel
    by_cases hlt : k < zs.length
    · by_cases h4 : k < 4000
      · obtain ⟨b, off, rfl, hb, hcl⟩ := hcell (by omega)
        obtain ⟨z, hz, hz0, hz1⟩ := hcl k hlt
        clear hcl hcell
        go_wp2
        go_round
        case rel => exact ⟨k + 1, _, by omega, by go_num, rfl⟩
        case measure => simp [intOf]; omega
      · clear hcell
        go_wp2
        go_ret
        exact ⟨rfl, Nat.le_refl _, (Below.refl _ _).alloc (Nat.le_refl _) _, 0, h, by omega, Blk.new _ _ _⟩
    · have hkk : k = zs.length := by omega
      subst hkk
      clear hcell
      go_wp2
      go_ret
      exact ⟨rfl, Nat.le_refl _, (Below.refl _ _).alloc (Nat.le_refl _) _, 0, h, by omega, Blk.new _ _ _⟩

theorem drawn_of {W0 w w1 : World} {v : Value} {g : Nat} {n x : Int} (h0 : 0 ≤ x) (h1 : x < n) (hc : CurOk W0 v g w1) (hg : w.grownBy w1 (some g)) : Drawn W0 v g w n (.returned (.int .i64 x)) w1 := ⟨x, rfl, h0, h1, hc, hg⟩

theorem CurOk.set1 {W0 w : World} {v : Value} {g : Nat} (h : CurOk W0 v g w) {x : Int} (hx : 0 ≤ x) : CurOk W0 v g (w.setCell ⟨g, 1, none⟩ (.int .i64 x)) := by
  obtain ⟨hg, hbl, i, s, hi, hB⟩ := h
  exact ⟨hg, hbl.setCell (p := ⟨g, 1, none⟩) hg _, x, s, hx, hB.set_ 1 _⟩

theorem CurOk.set2 {W0 w : World} {v : Value} {g : Nat} (h : CurOk W0 v g w) (x : Int) : CurOk W0 v g (w.setCell ⟨g, 2, none⟩ (.int .i64 x)) := by
  obtain ⟨hg, hbl, i, s, hi, hB⟩ := h
  exact ⟨hg, hbl.setCell (p := ⟨g, 2, none⟩) hg _, i, x, hi, hB.set_ 2 _⟩

theorem CurOk.drewN {W0 w : World} {v : Value} {g : Nat} (h : CurOk W0 v g w) (n : Nat) : CurOk W0 v g (w.drewN n) := by
  obtain ⟨hg, hbl, i, s, hi, hB⟩ := h
  exact ⟨hg, below_drewN hbl n, i, s, hi, hB.drewN n⟩

set_option maxHeartbeats 1000000 in
set_option maxRecDepth 100000 in
theorem byte_any (W0 : World) (v : Value) (zs : List Int) (g : Nat) (w : World) (h : RB W0 v zs) (hle : zs.length ≤ 1048576) (hc : CurOk W0 v g w) :
    Calls Try.prog 115 #[.pointer (some ⟨g, 0, none⟩)] w (Drawn W0 v g w 256) := by
  have HC := Lib.hid hc
  obtain ⟨hg, hbl, i, s, hi, hB⟩ := hc
  obtain ⟨A, c, rfl, hcc, hm, hcell⟩ := h.form
  clear h hm
  have c0 := hB.cell 0
  have c1 := hB.cell 1
  have c2 := hB.cell 2
  have f0 := hB.frozen 0
  have f1 := hB.frozen 1
  have f2 := hB.frozen 2
  simp only [List.getElem?_toArray, List.getElem?_cons_succ, List.getElem?_cons_zero] at c0 c1 c2
  clear hB
  by_cases hlt : i < zs.length
  · obtain ⟨k, rfl⟩ := Int.eq_ofNat_of_zero_le hi
    obtain ⟨b, off, rfl, hb, hcl⟩ := hcell (by omega)
    obtain ⟨z, hz, hz0, hz1⟩ := hcl k (by omega)
    have hzw := (hbl.cell (p := ⟨b, off + k, none⟩) hb).trans hz
    have hne : ¬ b = g := by omega
    have hne2 : ¬ g = b := by omega
    clear hcl hcell hz hbl
    go_enter Try.func115, Try.ntmps115
    go_wp2
    go_quiet (fail)
    go_wp2
    go_quiet (fail)
    go_wp2
    go_quiet (fail)
    go_wp2
    go_ret
    exact drawn_of (and_255 _).1 (and_255 _).2 (((HC.out.set2 _).drewN _).set1 (by omega)) (grownBy_set (only_drewN (grownBy_set (World.grownBy.refl _ _) _ _) _) _ _)
  · clear hcell hbl
    go_enter Try.func115, Try.ntmps115
    go_wp2
    go_quiet (fail)
    go_wp2
    go_quiet (fail)
    go_wp2
    go_ret
    exact drawn_of (and_255 _).1 (and_255 _).2 (((HC.out.set2 _).drewN _).drewN _) (only_drewN (only_drewN (grownBy_set (World.grownBy.refl _ _) _ _) _) _)

theorem CurOk.size {W0 w : World} {v : Value} {g : Nat} (h : CurOk W0 v g w) : W0.heap.size ≤ w.heap.size := h.2.1.size

set_option maxHeartbeats 1000000 in
set_option maxRecDepth 100000 in
theorem below_any (W0 : World) (v : Value) (zs : List Int) (g : Nat) (n : Int) (w : World) (h : RB W0 v zs) (hle : zs.length ≤ 1048576) (hn : 0 < n) (hc : CurOk W0 v g w) :
    Calls Try.prog 84 #[.pointer (some ⟨g, 0, none⟩), .int .i64 n] w (Drawn W0 v g w n) := by
  by_cases h2 : n ≤ 256
  · go_enter Try.func84, Try.ntmps84
    go_wp2_with fail
    refine (byte_any W0 v zs g _ h hle hc).mono ?_
    rintro e w1 ⟨x, rfl, x0, x1, hc1, hg1⟩
    have hne : ¬ n = 0 := by omega
    go_wp2
    go_ret
    exact drawn_of (Int.emod_nonneg _ (by omega)) (Int.emod_lt_of_pos _ hn) hc1 hg1
  · go_enter Try.func84, Try.ntmps84
    go_wp2_with fail
    refine (byte_any W0 v zs g _ h hle hc).mono ?_
    rintro e w1 ⟨x, rfl, x0, x1, hc1, hg1⟩
    go_wp2_with fail
    refine (byte_any W0 v zs g _ h hle hc1).mono ?_
    rintro e w2 ⟨y, rfl, y0, y1, hc2, hg2⟩
    go_wp2_with fail
    refine (byte_any W0 v zs g _ h hle hc2).mono ?_
    rintro e w3 ⟨z, rfl, z0, z1, hc3, hg3⟩
    go_wp2_with fail
    refine (byte_any W0 v zs g _ h hle hc3).mono ?_
    rintro e w4 ⟨u, rfl, u0, u1, hc4, hg4⟩
    have hne : ¬ n = 0 := by omega
    go_wp2
    go_ret
    exact drawn_of (Int.emod_nonneg _ (by omega)) (Int.emod_lt_of_pos _ hn) hc4 (grownBy_trans (grownBy_trans (grownBy_trans hg1 hg2) hg3) hg4)

end Go.Proofs.Ytnpdincjekelaaa

namespace Go.Proofs.Ytnpdincjekelaaa
open Go.RowKit

def recipeB (a b c d : Int) : Bool := inB a 0 1000 && inB b 0 1000 && inB c 0 1000 && inB d 0 1000 && (a + b + c + d == 1000)

theorem recipeB_bd {a b c d : Int} (h : recipeB a b c d = true) : (0 ≤ a ∧ a ≤ 1000) ∧ (0 ≤ b ∧ b ≤ 1000) ∧ (0 ≤ c ∧ c ≤ 1000) ∧ (0 ≤ d ∧ d ≤ 1000) ∧ a + b + c + d = 1000 := by
  simp [recipeB, inB] at h; omega

def distB (a b c d a' b' c' d' : Int) : Int :=
  if recipeB a b c d && recipeB a' b' c' d' then ((a - a').natAbs : Int) + ((b - b').natAbs : Int) + ((c - c').natAbs : Int) + ((d - d').natAbs : Int) else -1









end Go.Proofs.Ytnpdincjekelaaa

namespace Go.Proofs.Ytnpdincjekelaaa
open Go.RowKit





theorem dist_no1 {a b c d a' b' c' d' : Int} (h : recipeB a b c d = false) : distB a b c d a' b' c' d' = -1 := by simp [distB, h]

theorem dist_no2 {a b c d a' b' c' d' : Int} (h : recipeB a' b' c' d' = false) : distB a b c d a' b' c' d' = -1 := by simp [distB, h]

theorem dist_yes {a b c d a' b' c' d' : Int} (h : recipeB a b c d = true) (h' : recipeB a' b' c' d' = true) :
    distB a b c d a' b' c' d' = ((a - a').natAbs : Int) + ((b - b').natAbs : Int) + ((c - c').natAbs : Int) + ((d - d').natAbs : Int) := by simp [distB, h, h']






theorem keepCell {w' w1 : World} (hb : Below w'.heap.size w' w1) {g o : Nat} {v : Value} (hg : g < w'.heap.size) (h : w'.cell? ⟨g, o, none⟩ = some v) : w1.cell? ⟨g, o, none⟩ = some v :=
  (hb.cell (p := ⟨g, o, none⟩) hg).trans h



end Go.Proofs.Ytnpdincjekelaaa

namespace Go.Proofs.Ytnpdincjekelaaa
open Go.RowKit

/-- A recipe. -/
structure Rc where
  s : Int
  a : Int
  l : Int
  m : Int

def Rc.v (r : Rc) : Value := .agg #[.int .i64 r.s, .int .i64 r.a, .int .i64 r.l, .int .i64 r.m]

def Rc.cs (r : Rc) : List Value := [.int .i64 r.s, .int .i64 r.a, .int .i64 r.l, .int .i64 r.m]

def Rc.ok (r : Rc) : Bool := recipeB r.s r.a r.l r.m

def Rc.dist (r t : Rc) : Int := distB r.s r.a r.l r.m t.s t.a t.l t.m

/-- v reads as the list of recipes. -/
def RR (w : World) (v : Value) (l : List Rc) : Prop := RS w 4 v l.length (l.flatMap Rc.cs)

theorem RR.below {w w' : World} {v : Value} {l : List Rc} (h : RR w v l) (hb : Below w.heap.size w w') : RR w' v l := RS.below h hb

theorem RR.form {w : World} {v : Value} {l : List Rc} (h : RR w v l) : ∃ A c, v = .slice A l.length c ∧ l.length ≤ c ∧ l.length ≤ maxLen ∧
    (0 < l.length → ∃ b off, A = some ⟨b, off, none⟩ ∧ b < w.heap.size ∧ ∀ k (hk : k < l.length), w.cell? ⟨b, off + k * 4, none⟩ = some (.int .i64 l[k].s) ∧ w.cell? ⟨b, off + k * 4 + 1, none⟩ = some (.int .i64 l[k].a) ∧
      w.cell? ⟨b, off + k * 4 + 2, none⟩ = some (.int .i64 l[k].l) ∧ w.cell? ⟨b, off + k * 4 + 3, none⟩ = some (.int .i64 l[k].m)) := by
  obtain ⟨_, A, c, hv, h1, h2, h3⟩ := h
  refine ⟨A, c, hv, h1, h2, fun hn => ?_⟩
  obtain ⟨b, off, hA, hlt, hc⟩ := h3 hn
  refine ⟨b, off, hA, hlt, fun k hk => ?_⟩
  have g := fun j hj => flat_get Rc.cs 4 (fun _ => rfl) l k j hk hj
  refine ⟨?_, ?_, ?_, ?_⟩
  · exact hc (k * 4 + 0) _ (by rw [g 0 (by omega)]; rfl)
  · have := hc (k * 4 + 1) _ (by rw [g 1 (by omega)]; rfl); rwa [← Nat.add_assoc] at this
  · have := hc (k * 4 + 2) _ (by rw [g 2 (by omega)]; rfl); rwa [← Nat.add_assoc] at this
  · have := hc (k * 4 + 3) _ (by rw [g 3 (by omega)]; rfl); rwa [← Nat.add_assoc] at this

def recipesB (l : List Rc) : Bool := l.all Rc.ok && decide (l.length ≤ 20)





end Go.Proofs.Ytnpdincjekelaaa

namespace Go.Proofs.Ytnpdincjekelaaa
open Go.RowKit







/-- The first k recipes are there, the rest is zero. -/
def fillR (l : List Rc) (k : Nat) : List Value := (l.take k).flatMap Rc.cs ++ List.replicate ((l.length - k) * 4) (.int .i64 0)

theorem fillR_length (l : List Rc) (k : Nat) (h : k ≤ l.length) : (fillR l k).length = l.length * 4 := by
  unfold fillR
  rw [List.length_append, flat_len Rc.cs 4 (fun _ => rfl), List.length_replicate, List.length_take, Nat.min_eq_left h, ← Nat.add_mul]
  congr 1; omega

theorem fillR_all (l : List Rc) : fillR l l.length = l.flatMap Rc.cs := by simp [fillR]

theorem fillR_get (l : List Rc) (k j : Nat) (h : k < l.length) (hj : j < 4) : (fillR l k)[k * 4 + j]? = some (.int .i64 0) := by
  unfold fillR
  have hl : ((l.take k).flatMap Rc.cs).length = k * 4 := by rw [flat_len Rc.cs 4 (fun _ => rfl), List.length_take, Nat.min_eq_left (by omega)]
  rw [List.getElem?_append_right (by omega), hl, Nat.add_sub_cancel_left, List.getElem?_replicate, if_pos]
  have : 1 * 4 ≤ (l.length - k) * 4 := Nat.mul_le_mul_right _ (by omega)
  omega

theorem fillR_succ (l : List Rc) (k : Nat) (h : k < l.length) :
    fillR l (k + 1) = (((((fillR l k).set (k * 4) (.int .i64 l[k].s)).set (k * 4 + 1) (.int .i64 l[k].a)).set (k * 4 + 2) (.int .i64 l[k].l)).set (k * 4 + 3) (.int .i64 l[k].m)) := by
  unfold fillR
  have hl : ((l.take k).flatMap Rc.cs).length = k * 4 := by rw [flat_len Rc.cs 4 (fun _ => rfl), List.length_take, Nat.min_eq_left (by omega)]
  have hr : (l.length - k) * 4 = (l.length - (k + 1)) * 4 + 1 + 1 + 1 + 1 := by
    have : l.length - k = (l.length - (k + 1)) + 1 := by omega
    rw [this, Nat.add_mul]
  rw [List.take_succ_eq_append_getElem h, List.flatMap_append, hr]
  have e0 : ∀ (x : List Value) (y : List Value) (n j : Nat) (u : Value), x.length = n → (x ++ y).set (n + j) u = x ++ y.set j u := by
    intro x y n j u hx
    rw [List.set_append, if_neg (by omega), hx, Nat.add_sub_cancel_left]
  rw [show k * 4 = k * 4 + 0 from rfl, e0 _ _ _ 0 _ hl, Nat.add_zero, e0 _ _ _ 1 _ hl, e0 _ _ _ 2 _ hl, e0 _ _ _ 3 _ hl]
  simp [List.replicate_succ, Rc.cs]

end Go.Proofs.Ytnpdincjekelaaa

namespace Go.Proofs.Ytnpdincjekelaaa
open Go.RowKit

/-- A drawn recipe. -/
def DrR (r : Rc) : Prop := 100 ≤ r.a ∧ r.a ≤ 210 ∧ 150 ≤ r.l ∧ r.l ≤ 220 ∧ 0 ≤ r.m ∧ r.m ≤ 19 ∧ r.s = 1000 - r.a - r.l - r.m

theorem CurOk.alloc {W0 w : World} {v : Value} {g : Nat} (h : CurOk W0 v g w) (o : Obj) : CurOk W0 v g (w.alloc o) := by
  obtain ⟨hg, hbl, i, s, hi, hB⟩ := h
  exact ⟨hg, hbl.alloc hbl.size o, i, s, hi, hB.alloc o⟩

theorem CurOk.lt {W0 w : World} {v : Value} {g : Nat} (h : CurOk W0 v g w) : g < w.heap.size := by
  obtain ⟨hg, hbl, i, s, hi, hB⟩ := h
  exact hB.lt

theorem CurOk.far {W0 w : World} {v : Value} {g : Nat} (h : CurOk W0 v g w) {p : Addr} (hp : g < p.block) (x : Value) : CurOk W0 v g (w.setCell p x) := by
  obtain ⟨hg, hbl, i, s, hi, hB⟩ := h
  exact ⟨hg, hbl.setCell (by omega) _, i, s, hi, hB.far (by omega) x⟩

def DrawnR (W0 : World) (v : Value) (g : Nat) (w : World) (e : Ending) (w' : World) : Prop :=
  ∃ s a l m : Int, e = .returned (.agg #[.int .i64 s, .int .i64 a, .int .i64 l, .int .i64 m]) ∧ DrR ⟨s, a, l, m⟩ ∧ CurOk W0 v g w' ∧ w.grownBy w' (some g)



end Go.Proofs.Ytnpdincjekelaaa

namespace Go.Proofs.Ytnpdincjekelaaa
open Go.RowKit

theorem CurOk.drew {W0 w : World} {v : Value} {g : Nat} (h : CurOk W0 v g w) : CurOk W0 v g w.drew := by
  obtain ⟨hg, hbl, i, s, hi, hB⟩ := h
  exact ⟨hg, hbl.drew, i, s, hi, hB.drew⟩

def DrawnRs (W0 : World) (e : Ending) (w' : World) : Prop :=
  ∃ r0 r1 r2 r3 s0 s1 s2 s3 t0 t1 t2 t3 : Int, e = .returned (.tuple #[.agg #[.int .i64 r0, .int .i64 r1, .int .i64 r2, .int .i64 r3], .agg #[.int .i64 s0, .int .i64 s1, .int .i64 s2, .int .i64 s3], .agg #[.int .i64 t0, .int .i64 t1, .int .i64 t2, .int .i64 t3]]) ∧
    DrR ⟨r0, r1, r2, r3⟩ ∧ DrR ⟨s0, s1, s2, s3⟩ ∧ DrR ⟨t0, t1, t2, t3⟩ ∧ Below W0.heap.size W0 w'

/-- A new cursor, its block a letter. -/
def NewCur (v : Value) (w : World) (e : Ending) (w' : World) : Prop := ∃ g : Nat, e = .returned (.pointer (some ⟨g, 0, none⟩)) ∧ CurOk w v g w'

theorem new_at (v : Value) (zs : List Int) (w : World) (h : RB w v zs) (hle : zs.length ≤ 1048576) :
    Calls Try.prog 46 #[v] w (NewCur v w) :=
  (new_any v zs w h hle).mono fun e w' ⟨he, hc⟩ => ⟨_, he, hc⟩

theorem Below.cur {W0 w : World} {v : Value} {g : Nat} (h : CurOk W0 v g w) : Below W0.heap.size W0 w := h.2.1



end Go.Proofs.Ytnpdincjekelaaa

namespace Go.Proofs.Ytnpdincjekelaaa
open Go.RowKit

attribute [local go_sem ↓] run_eqNode run_neNode run_mn2 run_mx2

set_option maxHeartbeats 1000000 in
theorem once_any (W0 : World) (v : Value) (zs : List Int) (g : Nat) (n : Int) (w : World) (h : RB W0 v zs) (hle : zs.length ≤ 1048576) (hn : 0 < n) (hc : CurOk W0 v g w) :
    Calls Try.prog 85 #[.pointer (some ⟨g, 0, none⟩), .int .i64 n] w fun e w' => ∃ b : Bool, e = .returned (.bool b) ∧ CurOk W0 v g w' ∧ w.grownBy w' (some g) := by
  go_enter Try.func85, Try.ntmps85
  go_wp2_with fail
  refine (below_any W0 v zs g n _ h hle hn hc).mono ?_
  rintro e w1 ⟨x, rfl, x0, x1, hc1, hg1⟩
  go_wp2
  go_ret
  exact ⟨_, rfl, hc1, hg1⟩

theorem only_far {a w : World} {row : Option Nat} (h : a.grownBy w row) {p : Addr} (hp : a.heap.size ≤ p.block) (u : Value) : a.grownBy (w.setCell p u) row :=
  ⟨h.os, h.tape, h.output, by simpa [World.setCell] using h.size, fun i hi hne => (Below.heap_setCell w p u i (fun e => by omega)).trans (h.block i hi hne)⟩

set_option maxHeartbeats 1000000 in
theorem node_any (W0 : World) (v : Value) (zs : List Int) (g : Nat) (w : World) (h : RB W0 v zs) (hle : zs.length ≤ 1048576) (hc : CurOk W0 v g w) :
    Calls Try.prog 86 #[.pointer (some ⟨g, 0, none⟩)] w fun e w' => ∃ x y : Int, e = .returned (.agg #[.int .i64 x, .int .i64 y]) ∧ CurOk W0 v g w' ∧ w.grownBy w' (some g) := by
  have hlt := hc.lt
  go_enter Try.func86, Try.ntmps86
  go_wp2_with fail
  refine (below_any W0 v zs g 13 _ h hle (by omega) (hc.alloc _)).mono ?_
  rintro e w1 ⟨x, rfl, x0, x1, hc1, hg1⟩
  go_wp2_with fail
  refine (below_any W0 v zs g 13 _ h hle (by omega) hc1).mono ?_
  rintro e w2 ⟨y, rfl, y0, y1, hc2, hg2⟩
  have hR : Blk w2 w.heap.size 76 #[.int .i64 0, .int .i64 0] := (((Blk.new w _ _).grown hg1 (by omega)).grown hg2 (by omega))
  (have r_0 := hR.cell 0); (have r_1 := hR.cell 1); simp only [List.getElem?_toArray, List.getElem?_cons_succ, List.getElem?_cons_zero] at r_0 r_1; (have r_f0 := hR.frozen 0); (have r_f1 := hR.frozen 1)
  have hl2 := hR.lt
  have HC := Lib.hid (((hc2.far (p := ⟨w.heap.size, 0, none⟩) hlt (.int .i64 x))).far (p := ⟨w.heap.size, 1, none⟩) hlt (.int .i64 y))
  have HG := Lib.hid (grownBy_trans (grownBy_trans (only_alloc (World.grownBy.refl w (some g)) (.cells #[.int .i64 0, .int .i64 0] 76)) hg1) hg2)
  clear hg1 hg2 hR
  go_wp2
  refine bodyPost_ret (v := .agg #[.int .i64 x, .int .i64 y]) (by simp [results, Try.results86, go_sem, r_0, r_1, hl2]) rfl ⟨_, _, rfl, HC.out, only_far (p := ⟨w.heap.size, 1, none⟩) (only_far (p := ⟨w.heap.size, 0, none⟩) HG.out (Nat.le_refl _) (.int .i64 x)) (Nat.le_refl _) (.int .i64 y)⟩

theorem win_dropL {ns ls : List Pr} (h : WinOk ns ls) (k : Int) : WinOk ns (dropL ns ls k) := by
  unfold dropL
  split
  · rename_i hk
    obtain ⟨_, m, rfl, hm⟩ := hasL_win hk
    have := win_drop h hm
    simpa using this
  · exact h

theorem win_addL {ns ls : List Pr} (h : WinOk ns ls) (a b : Int) : WinOk ns (addL ns ls a b) := by
  unfold addL
  split
  · rename_i hk
    unfold addB at hk
    rw [Bool.and_eq_true] at hk
    exact winB_true.1 hk.2
  · exact h

set_option maxHeartbeats 1000000 in
set_option maxRecDepth 100000 in
/-- A byte of the code. -/
theorem at_any (v : Value) (zs : List Int) (i : Int) (w : World) (h : RB w v zs) (hle : zs.length ≤ 1048576) (h0 : 0 ≤ i) (h1 : i ≤ 100) :
    Calls Try.prog 15 #[v, .int .i64 i] w fun e w' => ∃ x : Int, e = .returned (.int .i64 x) ∧ 0 ≤ x ∧ x ≤ 255 ∧ w = w' := by
  obtain ⟨A, c, rfl, hc, hm, hcell⟩ := h.form
  unfold maxLen at hm
  by_cases hz : zs.length = 0
  · have e1 : ((zs.length : Int) == 0) = true := by simp [hz]
    have e2 : (zs.length == 0) = true := by simp [hz]
    go_enter Try.func15, Try.ntmps15
    go_wp2
    go_ret
    exact ⟨0, rfl, by omega, by omega, rfl⟩
  · obtain ⟨b, off, rfl, hb, hcl⟩ := hcell (by omega)
    have e1 : ((zs.length : Int) == 0) = false := beq_eq_false_iff_ne.2 (by omega)
    have e2 : (zs.length == 0) = false := by simp [hz]
    have k0 : 0 ≤ (i * 5 + 1) % (zs.length : Int) := Int.emod_nonneg _ (by omega)
    have k1 : (i * 5 + 1) % (zs.length : Int) < (zs.length : Int) := Int.emod_lt_of_pos _ (by omega)
    obtain ⟨k, hk⟩ : ∃ k : Nat, (i * 5 + 1) % (zs.length : Int) = (k : Int) := ⟨((i * 5 + 1) % (zs.length : Int)).toNat, (Int.toNat_of_nonneg k0).symm⟩
    rw [hk] at k1
    have hkl : k < zs.length := by omega
    clear k0
    obtain ⟨z, q0, z0, z1⟩ := hcl k hkl
    have i0 : (0 : Int) ≤ (k : Int) := by omega
    have i1 : (k : Int) < (zs.length : Int) := by omega
    clear hcl hcell
    go_enter Try.func15, Try.ntmps15
    go_wp2
    go_ret
    exact ⟨z, rfl, z0, z1, rfl⟩

end Go.Proofs.Ytnpdincjekelaaa
