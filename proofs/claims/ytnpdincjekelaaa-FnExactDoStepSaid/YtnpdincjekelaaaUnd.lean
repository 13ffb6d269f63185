/-
  UndoAll and UndoStep: walked, both sides.
-/
import Derived.Test.YtnpdincjekelaaaDmk
set_option linter.unusedSimpArgs false
set_option linter.unusedVariables false
namespace Go.Proofs.Ytnpdincjekelaaa
open Go.RowKit

/-- The copy in its variable. -/
structure OutSt (w : World) (v0 v1 v2 v3 v4 : Value) (Z : Nat) (a b c d e : Value) (D : Dr) (fs : List SF) (wr : World) : Prop where
  own : OwnD (w.heap.size + 1 + 1) wr a b c d e D fs
  X : Blk wr w.heap.size 59 #[v0, v1, v2, v3, v4]
  R : Blk wr (w.heap.size + 1) 59 #[.slice none 0 0, .slice none 0 0, .slice none 0 0, .slice none 0 0, .slice none 0 0]
  Z_ : Blk wr Z 59 #[a, b, c, d, e]
  lt : w.heap.size + 1 < Z
  far : ¬ blksD a b c d e fs Z
  blw : Below w.heap.size w wr

section
variable {w wr wr' : World} {v0 v1 v2 v3 v4 a b c d e : Value} {Z : Nat} {D : Dr} {fs : List SF}
theorem OutSt.below (h : OutSt w v0 v1 v2 v3 v4 Z a b c d e D fs wr) (hb : Below wr.heap.size wr wr') : OutSt w v0 v1 v2 v3 v4 Z a b c d e D fs wr' :=
  ⟨h.own.kept hb, h.X.below hb h.X.lt, h.R.below hb h.R.lt, h.Z_.below hb h.Z_.lt, h.lt, h.far, h.blw.trans (hb.mono h.blw.size)⟩

theorem OutSt.start {base : Nat} (ho : OwnD base wr a b c d e D fs) (hbase : w.heap.size + 1 + 1 ≤ base) (hX : Blk wr w.heap.size 59 #[v0, v1, v2, v3, v4]) (hR : Blk wr (w.heap.size + 1) 59 #[.slice none 0 0, .slice none 0 0, .slice none 0 0, .slice none 0 0, .slice none 0 0]) (hb : Below w.heap.size w wr) :
    OutSt w v0 v1 v2 v3 v4 wr.heap.size a b c d e D fs (wr.alloc (.cells #[a, b, c, d, e] 59)) :=
  ⟨(ho.mono hbase).alloc _, hX.alloc _, hR.alloc _, Blk.newAt rfl, hR.lt, fun hk => by have := (ho.lt _ hk).2; omega, hb.alloc hb.size _⟩

/-- The copy is returned. -/
theorem OutSt.fin (h : OutSt w v0 v1 v2 v3 v4 Z a b c d e D fs wr) (u0 u1 u2 u3 u4 : Value) :
    OwnD w.heap.size (((((wr.setCell ⟨w.heap.size + 1, 0, none⟩ u0).setCell ⟨w.heap.size + 1, 1, none⟩ u1).setCell ⟨w.heap.size + 1, 2, none⟩ u2).setCell ⟨w.heap.size + 1, 3, none⟩ u3).setCell ⟨w.heap.size + 1, 4, none⟩ u4) a b c d e D fs ∧
    Below w.heap.size w (((((wr.setCell ⟨w.heap.size + 1, 0, none⟩ u0).setCell ⟨w.heap.size + 1, 1, none⟩ u1).setCell ⟨w.heap.size + 1, 2, none⟩ u2).setCell ⟨w.heap.size + 1, 3, none⟩ u3).setCell ⟨w.heap.size + 1, 4, none⟩ u4) := by
  have hR : ¬ blksD a b c d e fs (w.heap.size + 1) := fun hk => by have := (h.own.lt _ hk).1; omega
  have step : ∀ (W : World) (j : Nat) (u : Value), OwnD w.heap.size W a b c d e D fs → OwnD w.heap.size (W.setCell ⟨w.heap.size + 1, j, none⟩ u) a b c d e D fs := fun W j u hW => hW.setFar (p := ⟨w.heap.size + 1, j, none⟩) hR u
  have hs : w.heap.size ≤ w.heap.size + 1 := Nat.le_succ _
  exact ⟨step _ _ _ (step _ _ _ (step _ _ _ (step _ _ _ (step _ _ _ (h.own.mono (by omega)))))),
    ((((h.blw.setCell (p := ⟨w.heap.size + 1, 0, none⟩) hs u0).setCell (p := ⟨w.heap.size + 1, 1, none⟩) hs u1).setCell (p := ⟨w.heap.size + 1, 2, none⟩) hs u2).setCell (p := ⟨w.heap.size + 1, 3, none⟩) hs u3).setCell (p := ⟨w.heap.size + 1, 4, none⟩) hs u4⟩

theorem OwnD.newNow {base base' : Nat} {c' d' : Value} {N L : List Pr} (h : OwnD base w a b c d e D fs) (hw : OwnW base' w c' d' N L) (hb : base ≤ base') (hf : ∀ k, blksW c' d' k → ¬ blksD a b c d e fs k) : OwnD base w a b c' d' e ⟨D.fn, D.fl, N, L, D.ss⟩ fs :=
  ⟨h.first, hw.mono hb, h.ss, h.map, fun k hk hk' => hf k hk' (.inl hk), h.f_s, fun k hk hk' => hf k hk (.inr (.inr hk'))⟩

theorem OwnD.noSteps {base : Nat} (h : OwnD base w a b c d e D fs) : OwnD base w a b c d (.slice none 0 0) ⟨D.fn, D.fl, D.nn, D.nl, []⟩ [] := by
  have hn : ∀ k, ¬ blksT (.slice none 0 0) [] k := by
    rintro k (h | ⟨i, hi, _⟩)
    · simp [Value.ownBlock] at h
    · simp at hi
  exact ⟨h.first, h.now, OwnT.nil _ _, rfl, h.f_n, fun k _ hk => hn k hk, fun k _ hk => hn k hk⟩

theorem blksT_take {A : Option Addr} {n c k b : Nat} (h : blksT (.slice A k c) (fs.take k) b) : blksT (.slice A n c) fs b := by
  rcases h with h | ⟨i, hi, h⟩
  · exact .inl (by cases A with | none => cases h | some a => exact h)
  · have hi' : i < fs.length := by simp at hi; omega
    refine .inr ⟨i, hi', ?_⟩
    rw [List.getElem_take] at h
    exact h

theorem OwnT.takeN {base : Nat} {g n c k : Nat} (h : OwnT base w (.slice (some ⟨g, 0, none⟩) n c) fs) (hk : k ≤ fs.length) : OwnT base w (.slice (some ⟨g, 0, none⟩) k c) (fs.take k) := by
  have hl : (fs.take k).length = k := by simp; omega
  refine ⟨?_, fun i hi => ?_, fun i hi b hb => ?_, fun i j hi hj hne b => ?_⟩
  · rw [hl]
    obtain ⟨h1, h2⟩ := h.row
    refine ⟨by rw [flat_len sfc 5 (fun _ => rfl), hl], ?_⟩
    rcases h2 with ⟨e, _⟩ | ⟨g', cap, cur, e, e1, e2, e3, e4, e5, e6⟩
    · cases e
    · injection e with e7 e8 e9
      injection e7 with e7
      injection e7 with e7
      subst e7 e9
      refine .inr ⟨g, c, cur, rfl, e1, e2, by omega, e4, e5, ?_⟩
      have hx : fs.flatMap sfc = (fs.take k).flatMap sfc ++ (fs.drop k).flatMap sfc := by rw [← List.flatMap_append, List.take_append_drop]
      have hm : min (k * 5) (fs.length * 5) = k * 5 := by omega
      rw [← hm, ← List.take_take, e6, hx, List.take_left' (by rw [flat_len sfc 5 (fun _ => rfl), hl])]
  · rw [List.getElem_take]; exact h.win i (by omega)
  · rw [List.getElem_take]; exact h.rw_ i (by omega) b hb
  · rw [List.getElem_take, List.getElem_take]; exact h.ww i j (by omega) (by omega) hne b

theorem OwnD.takeN {base : Nat} {g n cap k : Nat} (h : OwnD base w a b c d (.slice (some ⟨g, 0, none⟩) n cap) D fs) (hk : k ≤ fs.length) : OwnD base w a b c d (.slice (some ⟨g, 0, none⟩) k cap) ⟨D.fn, D.fl, D.nn, D.nl, D.ss.take k⟩ (fs.take k) :=
  ⟨h.first, h.now, h.ss.takeN hk, by rw [List.map_take, h.map], h.f_n, fun x hx hx' => h.f_s x hx (blksT_take hx'), fun x hx hx' => h.n_s x hx (blksT_take hx')⟩

/-- The last step's window is the window now; the step is gone. -/
theorem OwnD.popNow {base : Nat} {g n cap k : Nat} (h : OwnD base w a b c d (.slice (some ⟨g, 0, none⟩) n cap) D fs) (hk : k < fs.length) : OwnD base w a b fs[k].2.1 fs[k].2.2 (.slice (some ⟨g, 0, none⟩) k cap) ⟨D.fn, D.fl, fs[k].1.ns, fs[k].1.ls, D.ss.take k⟩ (fs.take k) := by
  refine ⟨h.first, h.ss.win k hk, h.ss.takeN (by omega), by rw [List.map_take, h.map], fun x hx hx' => h.f_s x hx (.inr ⟨k, hk, hx'⟩), fun x hx hx' => h.f_s x hx (blksT_take hx'), fun x hx hx' => ?_⟩
  rcases hx' with hx' | ⟨i, hi, hx'⟩
  · exact h.ss.rw_ k hk x hx' hx
  · rw [List.getElem_take] at hx'
    have hi' : i < k := by simp at hi; omega
    exact h.ss.ww i k (by omega) hk (by omega) x hx' hx
end

theorem OwnT.addr {base : Nat} {w : World} {A : Option Addr} {n c : Nat} {fs : List SF} (h : OwnT base w (.slice A n c) fs) (hn : 0 < fs.length) : ∃ g, A = some ⟨g, 0, none⟩ ∧ n = fs.length ∧ n ≤ c := by
  rcases h.row.2 with ⟨_, h0⟩ | ⟨g, cap, cur, e, _, _, h3, _⟩
  · omega
  · injection e with e1 e2 e3
    exact ⟨g, e1, e2, by omega⟩

/-- A call returns a draft in new memory and whether it is another one. -/
def RetDB (D : Dr) (b : Bool) (w : World) (e : Ending) (w' : World) : Prop := ∃ A0 c0 A1 c1 A2 c2 A3 c3 A4 c4 fs,
  e = .returned (.tuple #[.agg #[.slice A0 D.fn.length c0, .slice A1 D.fl.length c1, .slice A2 D.nn.length c2, .slice A3 D.nl.length c3, .slice A4 D.ss.length c4], .bool b]) ∧
  OwnD w.heap.size w' (.slice A0 D.fn.length c0) (.slice A1 D.fl.length c1) (.slice A2 D.nn.length c2) (.slice A3 D.nl.length c3) (.slice A4 D.ss.length c4) D fs ∧ Below w.heap.size w w'

noncomputable def undoAllD (D : Dr) : Dr := if okD D = true then ⟨D.fn, D.fl, D.fn, D.fl, []⟩ else D

theorem undoAll_nil {D : Dr} (h : okD D = true) (hn : D.ss.length = 0) : (⟨D.fn, D.fl, D.fn, D.fl, []⟩ : Dr) = D := by
  obtain ⟨fn, fl, nn, nl, ss⟩ := D
  have hs : ss = [] := List.eq_nil_of_length_eq_zero hn
  subst hs
  unfold okD okFrom at h
  simp only [Bool.and_eq_true, sameWB, decide_eq_true_eq] at h
  obtain ⟨_, _, h1, h2⟩ := h
  rw [h1, h2]

theorem DrLe.cnt {D : Dr} (h : DrLe D) : cntD D ≤ 20000000 := by
  have e : cntD D = 2 * D.fn.length + 2 * D.fl.length + 2 * D.nn.length + 2 * D.nl.length + cntS D.ss := rfl
  have := cntS_eq D.ss
  have := h.fn
  have := h.fl
  have := h.nn
  have := h.nl
  have := h.ss
  have := h.sum
  omega

theorem undoAll_cnt (D : Dr) (h : DrLe D) : cntD (undoAllD D) ≤ 20000000 := by
  unfold undoAllD
  split
  · have e : cntD (⟨D.fn, D.fl, D.fn, D.fl, []⟩ : Dr) = 2 * D.fn.length + 2 * D.fl.length + 2 * D.fn.length + 2 * D.fl.length + 0 := rfl
    have := h.fn
    have := h.fl
    omega
  · exact h.cnt

/-- The last step undone. -/
def canUndo (b : Bool) (D : Dr) : Bool := b && decide (0 < D.ss.length)
def undoD (b : Bool) (D : Dr) : Dr := if h : b = true ∧ 0 < D.ss.length then ⟨D.fn, D.fl, (D.ss[D.ss.length - 1]'(by omega)).ns, (D.ss[D.ss.length - 1]'(by omega)).ls, D.ss.take (D.ss.length - 1)⟩ else D

theorem undoD_no {b : Bool} {D : Dr} (h : ¬ (b = true ∧ 0 < D.ss.length)) : undoD b D = D := by unfold undoD; rw [dif_neg h]
theorem undoD_yes {D : Dr} (h : 0 < D.ss.length) : undoD true D = ⟨D.fn, D.fl, (D.ss[D.ss.length - 1]'(by omega)).ns, (D.ss[D.ss.length - 1]'(by omega)).ls, D.ss.take (D.ss.length - 1)⟩ := by unfold undoD; rw [dif_pos ⟨rfl, h⟩]

set_option maxHeartbeats 8000000 in
set_option maxRecDepth 100000 in
theorem iUndoAll_at (v0 v1 v2 v3 v4 : Value) (D : Dr) (w : World) (h : RD w v0 v1 v2 v3 v4 D) (hle : DrLe D) :
    Calls Try.prog 39 #[.agg #[v0, v1, v2, v3, v4]] w (RetD (undoAllD D) w) := by
  obtain ⟨r, hr⟩ : ∃ r, okD D = r := ⟨_, rfl⟩
  have HR := Lib.hid hr
  have HLE := Lib.hid hle
  obtain ⟨B4, d4, ev4, _⟩ := h.ss
  subst ev4
  obtain ⟨E, hE⟩ : ∃ E, undoAllD D = E := ⟨_, rfl⟩
  rw [hE]
  have HE := Lib.hid hE
  clear hle hE
  go_enter Try.func39, Try.ntmps39
  go_wp2_with fail
  refine (iCopyD_any _ _ _ _ _ D _ (h.below (by (repeat' (first | (with_reducible exact Below.refl _ _) | (with_reducible assumption) | (with_reducible refine Below.drew ?_) | (with_reducible refine below_drewN ?_ _) | (with_reducible refine Below.alloc ?_ ?_ _) | (with_reducible refine Below.setCell ?_ ?_ _) | (with_reducible refine Below.step (by assumption) ?_ ?_))); all_goals (first | omega | (simp; done) | (simp; omega)))) HLE.out).mono ?_
  rintro e w1 ⟨A0, c0, A1, c1, A2, c2, A3, c3, A4, c4, fs, rfl, ho1, hb1⟩
  have hz1 := hb1.size
  simp at hz1
  have hX1 : Blk w1 w.heap.size 59 #[v0, v1, v2, v3, (.slice B4 D.ss.length d4)] := Blk.below ((Blk.newAt rfl).alloc _) hb1 (by first | omega | (simp; done) | (simp; omega))
  have hR1 : Blk w1 (w.heap.size + 1) 59 #[.slice none 0 0, .slice none 0 0, .slice none 0 0, .slice none 0 0, .slice none 0 0] := Blk.below (Blk.newAt (by simp)) hb1 (by first | omega | (simp; done) | (simp; omega))
  have hbw1 : Below w.heap.size w w1 := by (repeat' (first | (with_reducible exact Below.refl _ _) | (with_reducible assumption) | (with_reducible refine Below.drew ?_) | (with_reducible refine below_drewN ?_ _) | (with_reducible refine Below.alloc ?_ ?_ _) | (with_reducible refine Below.setCell ?_ ?_ _) | (with_reducible refine Below.step (by assumption) ?_ ?_))); all_goals (first | omega | (simp; done) | (simp; omega))
  have hO1 : OwnD (w.heap.size + 1 + 1) w1 (.slice A0 D.fn.length c0) (.slice A1 D.fl.length c1) (.slice A2 D.nn.length c2) (.slice A3 D.nl.length c3) (.slice A4 D.ss.length c4) D fs := by simpa using ho1
  have HS2 := Lib.hid (OutSt.start hO1 (Nat.le_refl _) hX1 hR1 hbw1)
  (have x_0 := hX1.cell 0); (have x_1 := hX1.cell 1); (have x_2 := hX1.cell 2); (have x_3 := hX1.cell 3); (have x_4 := hX1.cell 4); simp only [List.getElem?_toArray, List.getElem?_cons_succ, List.getElem?_cons_zero] at x_0 x_1 x_2 x_3 x_4
  have hX1l := hX1.lt
  clear ho1 hb1 hO1
  go_wp2_with fail
  obtain ⟨w2, hw2⟩ : ∃ w2, w2 = w1.alloc (.cells #[.slice A0 D.fn.length c0, .slice A1 D.fl.length c1, .slice A2 D.nn.length c2, .slice A3 D.nl.length c3, .slice A4 D.ss.length c4] 59) := ⟨_, rfl⟩
  rw [← hw2] at HS2 ⊢
  generalize w1.heap.size = Z at *
  clear hw2 hX1 hR1 hbw1 x_0 x_1 x_2 x_3 x_4 hX1l hz1
  refine (iDok_at _ _ _ _ _ D r _ (h.below HS2.out.blw) HR).mono ?_
  rintro e w3 ⟨rfl, hb3⟩
  have HS3 := Lib.hid (HS2.out.below hb3)
  clear hb3 HS2
  have hX3 := HS3.out.X
  have hZ3 := HS3.out.Z_
  have hR3 := HS3.out.R
  (have x_0 := hX3.cell 0); (have x_1 := hX3.cell 1); (have x_2 := hX3.cell 2); (have x_3 := hX3.cell 3); (have x_4 := hX3.cell 4); simp only [List.getElem?_toArray, List.getElem?_cons_succ, List.getElem?_cons_zero] at x_0 x_1 x_2 x_3 x_4
  cases r
  · have hu : D = E := by rw [← HE.out]; unfold undoAllD; rw [hr]; rfl
    subst hu
    have HF := HS3
    clear HS3 HE hr
    obtain ⟨_, _, hR, hZ, hZl, _, _⟩ := HF.out
    (have z_0 := hZ.cell 0); (have z_1 := hZ.cell 1); (have z_2 := hZ.cell 2); (have z_3 := hZ.cell 3); (have z_4 := hZ.cell 4); simp only [List.getElem?_toArray, List.getElem?_cons_succ, List.getElem?_cons_zero] at z_0 z_1 z_2 z_3 z_4
    (have r_0 := hR.cell 0); (have r_1 := hR.cell 1); (have r_2 := hR.cell 2); (have r_3 := hR.cell 3); (have r_4 := hR.cell 4); simp only [List.getElem?_toArray, List.getElem?_cons_succ, List.getElem?_cons_zero] at r_0 r_1 r_2 r_3 r_4; (have r_f0 := hR.frozen 0); (have r_f1 := hR.frozen 1); (have r_f2 := hR.frozen 2); (have r_f3 := hR.frozen 3); (have r_f4 := hR.frozen 4)
    have hRlt := hR.lt
    have HFF := Lib.hid (fun u0 u1 u2 u3 u4 => HF.out.fin u0 u1 u2 u3 u4)
    clear hR hZ HF
    go_wp2
    exact bodyPost_ret (v := .agg #[.slice A0 D.fn.length c0, .slice A1 D.fl.length c1, .slice A2 D.nn.length c2, .slice A3 D.nl.length c3, .slice A4 D.ss.length c4]) (by simp [results, Try.results39, go_sem, r_0, r_1, r_2, r_3, r_4, hRlt]) rfl ⟨_, _, _, _, _, _, _, _, _, _, _, rfl, (HFF.out _ _ _ _ _).1, (HFF.out _ _ _ _ _).2⟩
  · have hu : E = ⟨D.fn, D.fl, D.fn, D.fl, []⟩ := by rw [← HE.out]; unfold undoAllD; rw [hr]; rfl
    subst hu
    clear HE
    have hX3l := hX3.lt
    have hZ3l := hZ3.lt
    have hf3 := (h.below HS3.out.blw).fn
    have hf4 := (h.below HS3.out.blw).fl
    go_wp2_with fail
    refine (iCopy_any _ _ D.fn D.fl _ hf3 hf4 HLE.out.fn HLE.out.fl).mono ?_
    rintro e w4 ⟨An, cn, Al, cl, rfl, ho4, hb4⟩
    have hlt3 := HS3.out.own.lt
    have HS4 := HS3.out.below hb4
    have hZ4 := HS4.Z_
    have hlt4 := ho4.lt
    have hR4l := HS4.R.lt
    have hbase : w.heap.size + 1 + 1 ≤ w3.heap.size := by have := hR3.lt; omega
    have hnow := HS4.own.newNow ho4 hbase (fun k hk hk' => by have := (hlt4 k hk).1; have := (hlt3 k hk').2; omega)
    have hN := (hnow).noSteps
    have hZfar : ¬ blksD (.slice A0 D.fn.length c0) (.slice A1 D.fl.length c1) (.slice An D.fn.length cn) (.slice Al D.fl.length cl) (.slice none 0 0) [] Z := by
      rintro (hk | hk | hk)
      · exact HS4.far (.inl hk)
      · have := (hlt4 _ hk).1; omega
      · rcases hk with hk | ⟨i, hi, _⟩
        · simp [Value.ownBlock] at hk
        · simp at hi
    obtain ⟨w5, hw5⟩ : ∃ w5, w5 = ((w4.setCell ⟨Z, 2, none⟩ (.slice An D.fn.length cn)).setCell ⟨Z, 3, none⟩ (.slice Al D.fl.length cl)).setCell ⟨Z, 4, none⟩ (.slice none 0 0) := ⟨_, rfl⟩
    have hzl := HS4.lt
    have nX : w.heap.size ≠ Z := by omega
    have nR : w.heap.size + 1 ≠ Z := by omega
    have nB : w.heap.size ≤ Z := by omega
    have HF : Hid (OutSt w v0 v1 v2 v3 (.slice B4 D.ss.length d4) Z (.slice A0 D.fn.length c0) (.slice A1 D.fl.length c1) (.slice An D.fn.length cn) (.slice Al D.fl.length cl) (.slice none 0 0) ⟨D.fn, D.fl, D.fn, D.fl, []⟩ [] w5) := Lib.hid
      (hw5 ▸ ⟨((hN.setFar (p := ⟨Z, 2, none⟩) hZfar _).setFar (p := ⟨Z, 3, none⟩) hZfar _).setFar (p := ⟨Z, 4, none⟩) hZfar _, ((HS4.X.far (p := ⟨Z, 2, none⟩) nX _).far (p := ⟨Z, 3, none⟩) nX _).far (p := ⟨Z, 4, none⟩) nX _,
        ((HS4.R.far (p := ⟨Z, 2, none⟩) nR _).far (p := ⟨Z, 3, none⟩) nR _).far (p := ⟨Z, 4, none⟩) nR _, ((hZ4.set_ 2 _).set_ 3 _).set_ 4 _, hzl, hZfar, ((HS4.blw.setCell (p := ⟨Z, 2, none⟩) nB _).setCell (p := ⟨Z, 3, none⟩) nB _).setCell (p := ⟨Z, 4, none⟩) nB _⟩)
    (have z_0 := hZ4.cell 0); (have z_1 := hZ4.cell 1); (have z_2 := hZ4.cell 2); (have z_3 := hZ4.cell 3); (have z_4 := hZ4.cell 4); simp only [List.getElem?_toArray, List.getElem?_cons_succ, List.getElem?_cons_zero] at z_0 z_1 z_2 z_3 z_4; (have z_f0 := hZ4.frozen 0); (have z_f1 := hZ4.frozen 1); (have z_f2 := hZ4.frozen 2); (have z_f3 := hZ4.frozen 3); (have z_f4 := hZ4.frozen 4)
    have hZ4l := hZ4.lt
    clear hN hnow HS4 HS3 hlt3 hlt4 hZfar ho4 hb4 hX3 hZ3 hR3 x_0 x_1 x_2 x_3 x_4 hf3 hf4 hX3l hZ3l hZ4
    go_upto_region 5 with (fail)
    rw [← hw5]
    clear hw5 z_0 z_1 z_2 z_3 z_4 z_f0 z_f1 z_f2 z_f3 z_f4 hZ4l
    obtain ⟨_, _, hR, hZ, hZl, _, _⟩ := HF.out
    (have z_0 := hZ.cell 0); (have z_1 := hZ.cell 1); (have z_2 := hZ.cell 2); (have z_3 := hZ.cell 3); (have z_4 := hZ.cell 4); simp only [List.getElem?_toArray, List.getElem?_cons_succ, List.getElem?_cons_zero] at z_0 z_1 z_2 z_3 z_4
    (have r_0 := hR.cell 0); (have r_1 := hR.cell 1); (have r_2 := hR.cell 2); (have r_3 := hR.cell 3); (have r_4 := hR.cell 4); simp only [List.getElem?_toArray, List.getElem?_cons_succ, List.getElem?_cons_zero] at r_0 r_1 r_2 r_3 r_4; (have r_f0 := hR.frozen 0); (have r_f1 := hR.frozen 1); (have r_f2 := hR.frozen 2); (have r_f3 := hR.frozen 3); (have r_f4 := hR.frozen 4)
    have hRlt := hR.lt
    have HFF := Lib.hid (fun u0 u1 u2 u3 u4 => HF.out.fin u0 u1 u2 u3 u4)
    clear hR hZ HF
    go_wp2
    exact bodyPost_ret (v := .agg #[.slice A0 D.fn.length c0, .slice A1 D.fl.length c1, .slice An D.fn.length cn, .slice Al D.fl.length cl, .slice none 0 0]) (by simp [results, Try.results39, go_sem, r_0, r_1, r_2, r_3, r_4, hRlt]) rfl ⟨_, _, _, _, _, _, _, _, _, _, _, rfl, (HFF.out _ _ _ _ _).1, (HFF.out _ _ _ _ _).2⟩

set_option maxHeartbeats 8000000 in
set_option maxRecDepth 100000 in
theorem sUndoAll_at (v0 v1 v2 v3 v4 : Value) (D : Dr) (w : World) (h : RD w v0 v1 v2 v3 v4 D) (hle : DrLe D) :
    Calls Try.prog 40 #[.agg #[v0, v1, v2, v3, v4]] w (RetD (undoAllD D) w) := by
  obtain ⟨r, hr⟩ : ∃ r, okD D = r := ⟨_, rfl⟩
  have HR := Lib.hid hr
  have HLE := Lib.hid hle
  obtain ⟨B4, d4, ev4, _⟩ := h.ss
  subst ev4
  obtain ⟨E, hE⟩ : ∃ E, undoAllD D = E := ⟨_, rfl⟩
  rw [hE]
  have HE := Lib.hid hE
  clear hle hE
  go_enter Try.func40, Try.ntmps40
  go_wp2_with fail
  refine (sCopyD_any _ _ _ _ _ D _ (h.below (by (repeat' (first | (with_reducible exact Below.refl _ _) | (with_reducible assumption) | (with_reducible refine Below.drew ?_) | (with_reducible refine below_drewN ?_ _) | (with_reducible refine Below.alloc ?_ ?_ _) | (with_reducible refine Below.setCell ?_ ?_ _) | (with_reducible refine Below.step (by assumption) ?_ ?_))); all_goals (first | omega | (simp; done) | (simp; omega)))) HLE.out).mono ?_
  rintro e w1 ⟨A0, c0, A1, c1, A2, c2, A3, c3, A4, c4, fs, rfl, ho1, hb1⟩
  have hz1 := hb1.size
  simp at hz1
  have hX1 : Blk w1 w.heap.size 59 #[v0, v1, v2, v3, (.slice B4 D.ss.length d4)] := Blk.below ((Blk.newAt rfl).alloc _) hb1 (by first | omega | (simp; done) | (simp; omega))
  have hR1 : Blk w1 (w.heap.size + 1) 59 #[.slice none 0 0, .slice none 0 0, .slice none 0 0, .slice none 0 0, .slice none 0 0] := Blk.below (Blk.newAt (by simp)) hb1 (by first | omega | (simp; done) | (simp; omega))
  have hbw1 : Below w.heap.size w w1 := by (repeat' (first | (with_reducible exact Below.refl _ _) | (with_reducible assumption) | (with_reducible refine Below.drew ?_) | (with_reducible refine below_drewN ?_ _) | (with_reducible refine Below.alloc ?_ ?_ _) | (with_reducible refine Below.setCell ?_ ?_ _) | (with_reducible refine Below.step (by assumption) ?_ ?_))); all_goals (first | omega | (simp; done) | (simp; omega))
  have hO1 : OwnD (w.heap.size + 1 + 1) w1 (.slice A0 D.fn.length c0) (.slice A1 D.fl.length c1) (.slice A2 D.nn.length c2) (.slice A3 D.nl.length c3) (.slice A4 D.ss.length c4) D fs := by simpa using ho1
  have HS2 := Lib.hid (OutSt.start hO1 (Nat.le_refl _) hX1 hR1 hbw1)
  (have x_0 := hX1.cell 0); (have x_1 := hX1.cell 1); (have x_2 := hX1.cell 2); (have x_3 := hX1.cell 3); (have x_4 := hX1.cell 4); simp only [List.getElem?_toArray, List.getElem?_cons_succ, List.getElem?_cons_zero] at x_0 x_1 x_2 x_3 x_4
  have hX1l := hX1.lt
  clear ho1 hb1 hO1
  go_wp2_with fail
  obtain ⟨w2, hw2⟩ : ∃ w2, w2 = w1.alloc (.cells #[.slice A0 D.fn.length c0, .slice A1 D.fl.length c1, .slice A2 D.nn.length c2, .slice A3 D.nl.length c3, .slice A4 D.ss.length c4] 59) := ⟨_, rfl⟩
  rw [← hw2] at HS2 ⊢
  generalize w1.heap.size = Z at *
  clear hw2 hX1 hR1 hbw1 x_0 x_1 x_2 x_3 x_4 hX1l hz1
  refine (sDok_at _ _ _ _ _ D r _ (h.below HS2.out.blw) HR).mono ?_
  rintro e w3 ⟨rfl, hb3⟩
  have HS3 := Lib.hid (HS2.out.below hb3)
  clear hb3 HS2
  have hX3 := HS3.out.X
  have hZ3 := HS3.out.Z_
  have hR3 := HS3.out.R
  (have x_0 := hX3.cell 0); (have x_1 := hX3.cell 1); (have x_2 := hX3.cell 2); (have x_3 := hX3.cell 3); (have x_4 := hX3.cell 4); simp only [List.getElem?_toArray, List.getElem?_cons_succ, List.getElem?_cons_zero] at x_0 x_1 x_2 x_3 x_4
  cases r
  · have hu : D = E := by rw [← HE.out]; unfold undoAllD; rw [hr]; rfl
    subst hu
    have HF := HS3
    clear HS3 HE hr
    obtain ⟨_, _, hR, hZ, hZl, _, _⟩ := HF.out
    (have z_0 := hZ.cell 0); (have z_1 := hZ.cell 1); (have z_2 := hZ.cell 2); (have z_3 := hZ.cell 3); (have z_4 := hZ.cell 4); simp only [List.getElem?_toArray, List.getElem?_cons_succ, List.getElem?_cons_zero] at z_0 z_1 z_2 z_3 z_4
    (have r_0 := hR.cell 0); (have r_1 := hR.cell 1); (have r_2 := hR.cell 2); (have r_3 := hR.cell 3); (have r_4 := hR.cell 4); simp only [List.getElem?_toArray, List.getElem?_cons_succ, List.getElem?_cons_zero] at r_0 r_1 r_2 r_3 r_4; (have r_f0 := hR.frozen 0); (have r_f1 := hR.frozen 1); (have r_f2 := hR.frozen 2); (have r_f3 := hR.frozen 3); (have r_f4 := hR.frozen 4)
    have hRlt := hR.lt
    have HFF := Lib.hid (fun u0 u1 u2 u3 u4 => HF.out.fin u0 u1 u2 u3 u4)
    clear hR hZ HF
    go_wp2
    exact bodyPost_ret (v := .agg #[.slice A0 D.fn.length c0, .slice A1 D.fl.length c1, .slice A2 D.nn.length c2, .slice A3 D.nl.length c3, .slice A4 D.ss.length c4]) (by simp [results, Try.results40, go_sem, r_0, r_1, r_2, r_3, r_4, hRlt]) rfl ⟨_, _, _, _, _, _, _, _, _, _, _, rfl, (HFF.out _ _ _ _ _).1, (HFF.out _ _ _ _ _).2⟩
  · have hu : E = ⟨D.fn, D.fl, D.fn, D.fl, []⟩ := by rw [← HE.out]; unfold undoAllD; rw [hr]; rfl
    clear HE
    by_cases hn0 : D.ss.length = 0
    · have hu2 : D = E := by rw [hu]; exact (undoAll_nil hr hn0).symm
      subst hu2
      have hn1 : ((D.ss.length : Int) == 0) = true := by simp [hn0]
      have HF := HS3
      clear HS3 hu hr
      obtain ⟨_, _, hR, hZ, hZl, _, _⟩ := HF.out
      (have z_0 := hZ.cell 0); (have z_1 := hZ.cell 1); (have z_2 := hZ.cell 2); (have z_3 := hZ.cell 3); (have z_4 := hZ.cell 4); simp only [List.getElem?_toArray, List.getElem?_cons_succ, List.getElem?_cons_zero] at z_0 z_1 z_2 z_3 z_4
      (have r_0 := hR.cell 0); (have r_1 := hR.cell 1); (have r_2 := hR.cell 2); (have r_3 := hR.cell 3); (have r_4 := hR.cell 4); simp only [List.getElem?_toArray, List.getElem?_cons_succ, List.getElem?_cons_zero] at r_0 r_1 r_2 r_3 r_4; (have r_f0 := hR.frozen 0); (have r_f1 := hR.frozen 1); (have r_f2 := hR.frozen 2); (have r_f3 := hR.frozen 3); (have r_f4 := hR.frozen 4)
      have hRlt := hR.lt
      have HFF := Lib.hid (fun u0 u1 u2 u3 u4 => HF.out.fin u0 u1 u2 u3 u4)
      clear hR hZ HF
      go_wp2
      exact bodyPost_ret (v := .agg #[.slice A0 D.fn.length c0, .slice A1 D.fl.length c1, .slice A2 D.nn.length c2, .slice A3 D.nl.length c3, .slice A4 D.ss.length c4]) (by simp [results, Try.results40, go_sem, r_0, r_1, r_2, r_3, r_4, hRlt, hn0]) rfl ⟨_, _, _, _, _, _, _, _, _, _, _, rfl, (HFF.out _ _ _ _ _).1, (HFF.out _ _ _ _ _).2⟩
    · subst hu
      have hm := congrArg List.length HS3.out.own.map
      simp at hm
      obtain ⟨g, hg, _, hcap⟩ := HS3.out.own.ss.addr (by omega)
      subst hg
      have hX3l := hX3.lt
      have hZ3l := hZ3.lt
      have hf3 := (h.below HS3.out.blw).fn
      have hf4 := (h.below HS3.out.blw).fl
      clear hm
      go_wp2_with fail
      refine (sCopy_any _ _ D.fn D.fl _ hf3 hf4 HLE.out.fn HLE.out.fl).mono ?_
      rintro e w4 ⟨An, cn, Al, cl, rfl, ho4, hb4⟩
      have hlt3 := HS3.out.own.lt
      have HS4 := HS3.out.below hb4
      have hZ4 := HS4.Z_
      have hlt4 := ho4.lt
      have hR4l := HS4.R.lt
      have hbase : w.heap.size + 1 + 1 ≤ w3.heap.size := by have := hR3.lt; omega
      have hnow := HS4.own.newNow ho4 hbase (fun k hk hk' => by have := (hlt4 k hk).1; have := (hlt3 k hk').2; omega)
      have hN : OwnD (w.heap.size + 1 + 1) w4 (.slice A0 D.fn.length c0) (.slice A1 D.fl.length c1) (.slice An D.fn.length cn) (.slice Al D.fl.length cl) (.slice (some ⟨g, 0, none⟩) 0 c4) ⟨D.fn, D.fl, D.fn, D.fl, []⟩ [] := by
        have := hnow.takeN (k := 0) (Nat.zero_le _)
        simpa using this
      have hZfar : ¬ blksD (.slice A0 D.fn.length c0) (.slice A1 D.fl.length c1) (.slice An D.fn.length cn) (.slice Al D.fl.length cl) (.slice (some ⟨g, 0, none⟩) 0 c4) [] Z := by
        rintro (hk | hk | hk)
        · exact HS4.far (.inl hk)
        · have := (hlt4 _ hk).1; omega
        · rcases hk with hk | ⟨i, hi, _⟩
          · exact HS4.far (.inr (.inr (.inl hk)))
          · simp at hi
      obtain ⟨w5, hw5⟩ : ∃ w5, w5 = ((w4.setCell ⟨Z, 2, none⟩ (.slice An D.fn.length cn)).setCell ⟨Z, 3, none⟩ (.slice Al D.fl.length cl)).setCell ⟨Z, 4, none⟩ (.slice (some ⟨g, 0, none⟩) 0 c4) := ⟨_, rfl⟩
      have hzl := HS4.lt
      have nX : w.heap.size ≠ Z := by omega
      have nR : w.heap.size + 1 ≠ Z := by omega
      have nB : w.heap.size ≤ Z := by omega
      have HF : Hid (OutSt w v0 v1 v2 v3 (.slice B4 D.ss.length d4) Z (.slice A0 D.fn.length c0) (.slice A1 D.fl.length c1) (.slice An D.fn.length cn) (.slice Al D.fl.length cl) (.slice (some ⟨g, 0, none⟩) 0 c4) ⟨D.fn, D.fl, D.fn, D.fl, []⟩ [] w5) := Lib.hid
        (hw5 ▸ ⟨((hN.setFar (p := ⟨Z, 2, none⟩) hZfar _).setFar (p := ⟨Z, 3, none⟩) hZfar _).setFar (p := ⟨Z, 4, none⟩) hZfar _, ((HS4.X.far (p := ⟨Z, 2, none⟩) nX _).far (p := ⟨Z, 3, none⟩) nX _).far (p := ⟨Z, 4, none⟩) nX _,
          ((HS4.R.far (p := ⟨Z, 2, none⟩) nR _).far (p := ⟨Z, 3, none⟩) nR _).far (p := ⟨Z, 4, none⟩) nR _, ((hZ4.set_ 2 _).set_ 3 _).set_ 4 _, hzl, hZfar, ((HS4.blw.setCell (p := ⟨Z, 2, none⟩) nB _).setCell (p := ⟨Z, 3, none⟩) nB _).setCell (p := ⟨Z, 4, none⟩) nB _⟩)
      (have z_0 := hZ4.cell 0); (have z_1 := hZ4.cell 1); (have z_2 := hZ4.cell 2); (have z_3 := hZ4.cell 3); (have z_4 := hZ4.cell 4); simp only [List.getElem?_toArray, List.getElem?_cons_succ, List.getElem?_cons_zero] at z_0 z_1 z_2 z_3 z_4; (have z_f0 := hZ4.frozen 0); (have z_f1 := hZ4.frozen 1); (have z_f2 := hZ4.frozen 2); (have z_f3 := hZ4.frozen 3); (have z_f4 := hZ4.frozen 4)
      have hZ4l := hZ4.lt
      have hc0 : (0 : Int) ≤ (c4 : Int) := by omega
      clear hN hnow HS4 HS3 hlt3 hlt4 hZfar ho4 hb4 hX3 hZ3 hR3 x_0 x_1 x_2 x_3 x_4 hf3 hf4 hX3l hZ3l hZ4
      go_upto_region 6 with (fail)
      rw [← hw5]
      clear hw5 z_0 z_1 z_2 z_3 z_4 z_f0 z_f1 z_f2 z_f3 z_f4 hZ4l
      obtain ⟨_, _, hR, hZ, hZl, _, _⟩ := HF.out
      (have z_0 := hZ.cell 0); (have z_1 := hZ.cell 1); (have z_2 := hZ.cell 2); (have z_3 := hZ.cell 3); (have z_4 := hZ.cell 4); simp only [List.getElem?_toArray, List.getElem?_cons_succ, List.getElem?_cons_zero] at z_0 z_1 z_2 z_3 z_4
      (have r_0 := hR.cell 0); (have r_1 := hR.cell 1); (have r_2 := hR.cell 2); (have r_3 := hR.cell 3); (have r_4 := hR.cell 4); simp only [List.getElem?_toArray, List.getElem?_cons_succ, List.getElem?_cons_zero] at r_0 r_1 r_2 r_3 r_4; (have r_f0 := hR.frozen 0); (have r_f1 := hR.frozen 1); (have r_f2 := hR.frozen 2); (have r_f3 := hR.frozen 3); (have r_f4 := hR.frozen 4)
      have hRlt := hR.lt
      have HFF := Lib.hid (fun u0 u1 u2 u3 u4 => HF.out.fin u0 u1 u2 u3 u4)
      clear hR hZ HF
      go_wp2
      exact bodyPost_ret (v := .agg #[.slice A0 D.fn.length c0, .slice A1 D.fl.length c1, .slice An D.fn.length cn, .slice Al D.fl.length cl, .slice (some ⟨g, 0, none⟩) 0 c4]) (by simp [results, Try.results40, go_sem, r_0, r_1, r_2, r_3, r_4, hRlt]) rfl ⟨_, _, _, _, _, _, _, _, _, _, _, rfl, (HFF.out _ _ _ _ _).1, (HFF.out _ _ _ _ _).2⟩

end Go.Proofs.Ytnpdincjekelaaa
