/- part 46 -/
import Derived.Test.YtnjcpljhmhdhkaaGreatSPk41
import Derived.Test.YtnjcpljhmhdhkaaGreatSPk43
import Derived.Test.YtnjcpljhmhdhkaaGreatSPk45
set_option linter.unusedSimpArgs false
set_option linter.unusedVariables false
namespace Go.Proofs.YtnjcpljhmhdhkaaGreat
open Go.RowKit
section
variable {w wr wr' : World} {v0 v1 v2 v3 v4 v5 v6 a b c d e f g : Value} {m : Int} {Z : Nat} {S : St} {fs : List SF}
theorem OutSS.newCs (h : OutSS w v0 v1 v2 v3 v4 v5 v6 m Z a b c d e f g S fs wr) (hb : Below wr.heap.size wr wr') {v : Value} {l : List Int} (ho : OwnI wr.heap.size wr' v l) :
    OutSS w v0 v1 v2 v3 v4 v5 v6 m Z a b c d e v g ⟨S.D, l, S.ds, S.fund⟩ fs (wr'.setCell ⟨Z, 5, none⟩ v) := by
  have h1 := h.below hb
  have hlo : ∀ k, v.ownBlock = some k → wr.heap.size ≤ k := fun k hk => (OwnI.lt ho k hk).1
  have hup : ∀ k, blksSt a b c d e f g fs k → k < wr.heap.size := fun k hk => (h.own.lt k hk).2
  have hZl := h.Z_.lt
  have hfar : ¬ blksSt a b c d e v g fs Z := by
    rintro (hk | hk | hk)
    · exact h.far (.inl hk)
    · have := hlo _ hk; omega
    · exact h.far (.inr (.inr hk))
  have hO : OwnSt (w.heap.size + 1 + 1) wr' a b c d e v g ⟨S.D, l, S.ds, S.fund⟩ fs :=
    ⟨h1.own.dr, OwnI.mono ho (by have := h.lt; omega), h1.own.ds, fun k hk hk2 => by have := hlo k hk2; have := hup k (.inl hk); omega, h1.own.d_d, fun k hk hk2 => by have := hlo k hk; have := hup k (.inr (.inr hk2)); omega⟩
  have hlt := h.lt
  exact ⟨hO.setFar (p := ⟨Z, 5, none⟩) hfar v, h1.X.far (p := ⟨Z, 5, none⟩) (show w.heap.size ≠ Z by omega) v, h1.R.far (p := ⟨Z, 5, none⟩) (show w.heap.size + 1 ≠ Z by omega) v, h1.Z_.set_ 5 v, h1.lt, hfar, h1.blw.setCell (p := ⟨Z, 5, none⟩) (show w.heap.size ≤ Z by omega) v⟩
end
end Go.Proofs.YtnjcpljhmhdhkaaGreat

namespace Go.Proofs.YtnjcpljhmhdhkaaGreat
noncomputable def swpB (S : St) (f x : Int) : Bool := okStB S && swapB S.D.nn S.D.nl S.cs f x
noncomputable def swpS (S : St) (f x : Int) : St := if swpB S f x = true then ⟨S.D, swapL S.D.nn S.D.nl S.cs f x, S.ds, S.fund⟩ else S
theorem swapColors_cnt (S : St) (f x : Int) (h : StLe S) : cntSt (swpS S f x) ≤ 30000000 := by
  have hc := h.cnt
  unfold swpS
  split
  · unfold cntSt at hc ⊢
    show cntD S.D + (swapL S.D.nn S.D.nl S.cs f x).length + 3 * S.ds.length ≤ _
    rw [swapL_len]; exact hc
  · exact hc
theorem swp_no {S : St} {x y : Int} (h : okStB S = false ∨ swapB S.D.nn S.D.nl S.cs x y = false) : swpS S x y = S ∧ swpB S x y = false := by
  have hb : swpB S x y = false := by
    unfold swpB
    rcases h with h | h <;> simp [h]
  exact ⟨by unfold swpS; rw [hb]; rfl, hb⟩
theorem swp_yes {S : St} {x y : Int} (h1 : okStB S = true) (h2 : swapB S.D.nn S.D.nl S.cs x y = true) : swpS S x y = ⟨S.D, swapL S.D.nn S.D.nl S.cs x y, S.ds, S.fund⟩ ∧ swpB S x y = true := by
  have hb : swpB S x y = true := by unfold swpB; rw [h1, h2]; rfl
  exact ⟨by unfold swpS; rw [hb]; rfl, hb⟩
end Go.Proofs.YtnjcpljhmhdhkaaGreat

namespace Go.Proofs.YtnjcpljhmhdhkaaGreat
open Go.RowKit
set_option maxHeartbeats 16000000 in
set_option maxRecDepth 100000 in
theorem iSwapColors_at (v0 v1 v2 v3 v4 v5 v6 : Value) (S : St) (x : Int) (y : Int) (w : World) (h : RSt w v0 v1 v2 v3 v4 v5 v6 S) (hle : StLe S) :
    Calls Tryz.prog 29 #[.agg #[v0, v1, v2, v3, v4, v5, v6, .int .i64 S.fund], .int .i64 x, .int .i64 y] w (RetStuB (swpS S x y) (swpB S x y) w) := by
  obtain ⟨r, hr⟩ : ∃ r, okStB S = r := ⟨_, rfl⟩
  have HR := Lib.hid hr
  have HLE := Lib.hid hle
  obtain ⟨B6, d6, ev6, hc6, hm6, hat⟩ := h.ds.at_
  subst ev6
  unfold maxLen at hm6
  have HAT := Lib.hid hat
  clear hat
  obtain ⟨E, hE⟩ : ∃ E, swpS S x y = E := ⟨_, rfl⟩
  obtain ⟨bb, hbb⟩ : ∃ bb, swpB S x y = bb := ⟨_, rfl⟩
  rw [hE, hbb]
  have HE := Lib.hid hE
  have HBB := Lib.hid hbb
  have HH := Lib.hid h
  clear hle hE hbb h
  go_enter Tryz.func29, Tryz.ntmps29
  go_wp2_with fail
  refine (iCopySt_any _ _ _ _ _ _ _ S _ (HH.out.below (by exact bel_)) HLE.out).mono ?_
  rintro e w1 ⟨A0, a0, A1, a1, A2, a2, A3, a3, A4, a4, A5, a5, A6, a6, fs, rfl, ho1, hb1⟩
  have hz1 := hb1.size
  simp at hz1
  have hX1 : Blk w1 w.heap.size 34 #[v0, v1, v2, v3, v4, v5, .slice B6 S.ds.length d6, .int .i64 S.fund] := Blk.below ((Blk.newAt rfl).alloc _) hb1 sz_
  have hR1 : Blk w1 (w.heap.size + 1) 34 #[.slice none 0 0, .slice none 0 0, .slice none 0 0, .slice none 0 0, .slice none 0 0, .slice none 0 0, .slice none 0 0, .int .i64 0] := Blk.below (Blk.newAt (by simp)) hb1 sz_
  have hbw1 : Below w.heap.size w w1 := by exact bel_
  have hO1 : OwnSt (w.heap.size + 1 + 1) w1 (.slice A0 S.D.fn.length a0) (.slice A1 S.D.fl.length a1) (.slice A2 S.D.nn.length a2) (.slice A3 S.D.nl.length a3) (.slice A4 S.D.ss.length a4) (.slice A5 S.cs.length a5) (.slice A6 S.ds.length a6) S fs := by simpa using ho1
  have HS2 := Lib.hid (OutSS.start hO1 (Nat.le_refl _) hX1 hR1 hbw1)
  obtain ⟨x_0, x_1, x_2, x_3, x_4, x_5, x_6, x_7⟩ := hX1.c8
  have hX1l := hX1.lt
  clear ho1 hb1 hO1
  go_wp2_with fail
  obtain ⟨w2, hw2⟩ : ∃ w2, w2 = w1.alloc (.cells #[.slice A0 S.D.fn.length a0, .slice A1 S.D.fl.length a1, .slice A2 S.D.nn.length a2, .slice A3 S.D.nl.length a3, .slice A4 S.D.ss.length a4, .slice A5 S.cs.length a5, .slice A6 S.ds.length a6, .int .i64 S.fund] 34) := ⟨_, rfl⟩
  rw [← hw2] at HS2 ⊢
  generalize w1.heap.size = Z at *
  clear hw2 hX1 hR1 hbw1 x_0 x_1 x_2 x_3 x_4 x_5 x_6 x_7 hX1l hz1
  obtain ⟨l', hl'⟩ : ∃ l, swapL S.D.nn S.D.nl S.cs x y = l := ⟨_, rfl⟩
  obtain ⟨b', hb'⟩ : ∃ b, swapB S.D.nn S.D.nl S.cs x y = b := ⟨_, rfl⟩
  have HL' := Lib.hid hl'
  have HB' := Lib.hid hb'
  have HN := Lib.hid (HH.out.dr.nn.below HS2.out.blw)
  have HL := Lib.hid (HH.out.dr.nl.below HS2.out.blw)
  have HC := Lib.hid (HH.out.cs.below HS2.out.blw)
  refine (iSwap_any _ _ _ S.D.nn S.D.nl S.cs x y _ HN.out HL.out HC.out HLE.out.cs).mono ?_
  rw [hl', hb']
  clear hl' hb'
  rintro e w4 ⟨vt, rfl, ho4, hb4⟩
  obtain ⟨T5, t5, rfl⟩ := OwnE.form (t := 3) (enc := vI) ho4
  clear HN HL HC
  have HS3 := Lib.hid (HS2.out.below hb4)
  have HO := Lib.hid ho4
  have HB4 := Lib.hid hb4
  have hX := HS3.out.X
  obtain ⟨x_0, x_1, x_2, x_3, x_4, x_5, x_6, x_7⟩ := hX.c8
  have hXl := hX.lt
  clear ho4 hb4
  go_wp2_with fail
  refine (iStudioOk_at _ _ _ _ _ _ _ S r _ (HH.out.below HS3.out.blw) HR).mono ?_
  rintro e w5 ⟨rfl, hb5⟩
  have HS4 := Lib.hid (HS3.out.below hb5)
  have HF := Lib.hid (OutSS.newCs HS2.out (HB4.out.trans (hb5.mono HB4.out.size)) (OwnI.kept HO.out hb5))
  clear HS2 HS3 HO HB4 hb5 hX hXl x_0 x_1 x_2 x_3 x_4 x_5 x_6 x_7
  cases r
  · clear HF
    obtain ⟨u1, u2⟩ := swp_no (S := S) (x := x) (y := y) (.inl hr)
    have hu : S = E := by rw [← HE.out]; exact u1.symm
    have hv : false = bb := by rw [← HBB.out]; exact u2.symm
    subst hu
    subst hv
    have HF := HS4
    clear HS4 HE HBB u1 u2 hr HL' HB'
    obtain ⟨_, _, hR, hZ, hZl, _, _⟩ := HF.out
    obtain ⟨z_0, z_1, z_2, z_3, z_4, z_5, z_6, z_7⟩ := hZ.c8
    obtain ⟨r_0, r_1, r_2, r_3, r_4, r_5, r_6, r_7, r_f0, r_f1, r_f2, r_f3, r_f4, r_f5, r_f6, r_f7⟩ := hR.b8
    have hRlt := hR.lt
    have hZlt := hZ.lt
    have HFF := Lib.hid (fun u0 u1 u2 u3 u4 u5 u6 u7 => HF.out.fin u0 u1 u2 u3 u4 u5 u6 u7)
    clear hR hZ HF
    go_wp2
    exact bodyPost_ret (v := .tuple #[.agg #[.slice A0 S.D.fn.length a0, .slice A1 S.D.fl.length a1, .slice A2 S.D.nn.length a2, .slice A3 S.D.nl.length a3, .slice A4 S.D.ss.length a4, .slice A5 S.cs.length a5, .slice A6 S.ds.length a6, .int .i64 S.fund], .bool false]) (by simp [results, Tryz.results29, go_sem, r_0, r_1, r_2, r_3, r_4, r_5, r_6, r_7, hRlt]) rfl ⟨_, _, _, _, _, _, _, _, _, _, _, _, _, _, fs, rfl, (HFF.out _ _ _ _ _ _ _ _).1, (HFF.out _ _ _ _ _ _ _ _).2⟩
  · cases b'
    · clear HF
      obtain ⟨u1, u2⟩ := swp_no (S := S) (x := x) (y := y) (.inr HB'.out)
      have hu : S = E := by rw [← HE.out]; exact u1.symm
      have hv : false = bb := by rw [← HBB.out]; exact u2.symm
      subst hu
      subst hv
      have HF := HS4
      clear HS4 HE HBB u1 u2 hr HL' HB'
      obtain ⟨_, _, hR, hZ, hZl, _, _⟩ := HF.out
      obtain ⟨z_0, z_1, z_2, z_3, z_4, z_5, z_6, z_7⟩ := hZ.c8
      obtain ⟨r_0, r_1, r_2, r_3, r_4, r_5, r_6, r_7, r_f0, r_f1, r_f2, r_f3, r_f4, r_f5, r_f6, r_f7⟩ := hR.b8
      have hRlt := hR.lt
      have hZlt := hZ.lt
      have HFF := Lib.hid (fun u0 u1 u2 u3 u4 u5 u6 u7 => HF.out.fin u0 u1 u2 u3 u4 u5 u6 u7)
      clear hR hZ HF
      go_wp2
      exact bodyPost_ret (v := .tuple #[.agg #[.slice A0 S.D.fn.length a0, .slice A1 S.D.fl.length a1, .slice A2 S.D.nn.length a2, .slice A3 S.D.nl.length a3, .slice A4 S.D.ss.length a4, .slice A5 S.cs.length a5, .slice A6 S.ds.length a6, .int .i64 S.fund], .bool false]) (by simp [results, Tryz.results29, go_sem, r_0, r_1, r_2, r_3, r_4, r_5, r_6, r_7, hRlt]) rfl ⟨_, _, _, _, _, _, _, _, _, _, _, _, _, _, fs, rfl, (HFF.out _ _ _ _ _ _ _ _).1, (HFF.out _ _ _ _ _ _ _ _).2⟩
    · obtain ⟨u1, u2⟩ := swp_yes (S := S) (x := x) (y := y) hr HB'.out
      rw [HL'.out] at u1
      have hu : (⟨S.D, l', S.ds, S.fund⟩ : St) = E := by rw [← HE.out]; exact u1.symm
      have hv : true = bb := by rw [← HBB.out]; exact u2.symm
      subst hu
      subst hv
      obtain ⟨_, _, hR, hZ, hZl, _, _⟩ := HS4.out
      obtain ⟨z_0, z_1, z_2, z_3, z_4, z_5, z_6, z_7, z_f0, z_f1, z_f2, z_f3, z_f4, z_f5, z_f6, z_f7⟩ := hZ.b8
      obtain ⟨r_0, r_1, r_2, r_3, r_4, r_5, r_6, r_7, r_f0, r_f1, r_f2, r_f3, r_f4, r_f5, r_f6, r_f7⟩ := hR.b8
      have hRlt := hR.lt
      have hZlt := hZ.lt
      have HFF := Lib.hid (fun u0 u1 u2 u3 u4 u5 u6 u7 => HF.out.fin u0 u1 u2 u3 u4 u5 u6 u7)
      clear hR hZ HF HS4 HE HBB u1 u2 hr HL' HB'
      have hne1 : ¬ Z = w.heap.size + 1 := by omega
      have hne2 : ¬ w.heap.size + 1 = Z := by omega
      go_wp2
      exact bodyPost_ret (v := .tuple #[.agg #[.slice A0 S.D.fn.length a0, .slice A1 S.D.fl.length a1, .slice A2 S.D.nn.length a2, .slice A3 S.D.nl.length a3, .slice A4 S.D.ss.length a4, .slice T5 l'.length t5, .slice A6 S.ds.length a6, .int .i64 S.fund], .bool true]) (by simp [results, Tryz.results29, go_sem, r_0, r_1, r_2, r_3, r_4, r_5, r_6, r_7, z_0, z_1, z_2, z_3, z_4, z_5, z_6, z_7, hRlt, hZlt, hne1, hne2]) rfl ⟨_, _, _, _, _, _, _, _, _, _, _, _, _, _, fs, rfl, (HFF.out _ _ _ _ _ _ _ _).1, (HFF.out _ _ _ _ _ _ _ _).2⟩
set_option maxHeartbeats 16000000 in
set_option maxRecDepth 100000 in
theorem sSwapColors_at (v0 v1 v2 v3 v4 v5 v6 : Value) (S : St) (x : Int) (y : Int) (w : World) (h : RSt w v0 v1 v2 v3 v4 v5 v6 S) (hle : StLe S) :
    Calls Tryz.prog 27 #[.agg #[v0, v1, v2, v3, v4, v5, v6, .int .i64 S.fund], .int .i64 x, .int .i64 y] w (RetStuB (swpS S x y) (swpB S x y) w) := by
  obtain ⟨r, hr⟩ : ∃ r, okStB S = r := ⟨_, rfl⟩
  have HR := Lib.hid hr
  have HLE := Lib.hid hle
  obtain ⟨B6, d6, ev6, hc6, hm6, hat⟩ := h.ds.at_
  subst ev6
  unfold maxLen at hm6
  have HAT := Lib.hid hat
  clear hat
  obtain ⟨E, hE⟩ : ∃ E, swpS S x y = E := ⟨_, rfl⟩
  obtain ⟨bb, hbb⟩ : ∃ bb, swpB S x y = bb := ⟨_, rfl⟩
  rw [hE, hbb]
  have HE := Lib.hid hE
  have HBB := Lib.hid hbb
  have HH := Lib.hid h
  clear hle hE hbb h
  go_enter Tryz.func27, Tryz.ntmps27
  go_wp2_with fail
  refine (sCopySt_any _ _ _ _ _ _ _ S _ (HH.out.below (by exact bel_)) HLE.out).mono ?_
  rintro e w1 ⟨A0, a0, A1, a1, A2, a2, A3, a3, A4, a4, A5, a5, A6, a6, fs, rfl, ho1, hb1⟩
  have hz1 := hb1.size
  simp at hz1
  have hX1 : Blk w1 w.heap.size 34 #[v0, v1, v2, v3, v4, v5, .slice B6 S.ds.length d6, .int .i64 S.fund] := Blk.below ((Blk.newAt rfl).alloc _) hb1 sz_
  have hR1 : Blk w1 (w.heap.size + 1) 34 #[.slice none 0 0, .slice none 0 0, .slice none 0 0, .slice none 0 0, .slice none 0 0, .slice none 0 0, .slice none 0 0, .int .i64 0] := Blk.below (Blk.newAt (by simp)) hb1 sz_
  have hbw1 : Below w.heap.size w w1 := by exact bel_
  have hO1 : OwnSt (w.heap.size + 1 + 1) w1 (.slice A0 S.D.fn.length a0) (.slice A1 S.D.fl.length a1) (.slice A2 S.D.nn.length a2) (.slice A3 S.D.nl.length a3) (.slice A4 S.D.ss.length a4) (.slice A5 S.cs.length a5) (.slice A6 S.ds.length a6) S fs := by simpa using ho1
  have HS2 := Lib.hid (OutSS.start hO1 (Nat.le_refl _) hX1 hR1 hbw1)
  obtain ⟨x_0, x_1, x_2, x_3, x_4, x_5, x_6, x_7⟩ := hX1.c8
  have hX1l := hX1.lt
  clear ho1 hb1 hO1
  go_wp2_with fail
  obtain ⟨w2, hw2⟩ : ∃ w2, w2 = w1.alloc (.cells #[.slice A0 S.D.fn.length a0, .slice A1 S.D.fl.length a1, .slice A2 S.D.nn.length a2, .slice A3 S.D.nl.length a3, .slice A4 S.D.ss.length a4, .slice A5 S.cs.length a5, .slice A6 S.ds.length a6, .int .i64 S.fund] 34) := ⟨_, rfl⟩
  rw [← hw2] at HS2 ⊢
  generalize w1.heap.size = Z at *
  clear hw2 hX1 hR1 hbw1 x_0 x_1 x_2 x_3 x_4 x_5 x_6 x_7 hX1l hz1
  refine (sStudioOk_at _ _ _ _ _ _ _ S r _ (HH.out.below HS2.out.blw) HR).mono ?_
  rintro e w3 ⟨rfl, hb3⟩
  have HS3 := Lib.hid (HS2.out.below hb3)
  clear hb3 HS2
  have hX3 := HS3.out.X
  obtain ⟨x_0, x_1, x_2, x_3, x_4, x_5, x_6, x_7⟩ := hX3.c8
  have hX3l := hX3.lt
  have hZ3l := HS3.out.Z_.lt
  cases r
  · obtain ⟨u1, u2⟩ := swp_no (S := S) (x := x) (y := y) (.inl hr)
    have hu : S = E := by rw [← HE.out]; exact u1.symm
    have hv : false = bb := by rw [← HBB.out]; exact u2.symm
    subst hu
    subst hv
    have HF := HS3
    clear HS3 HE HBB u1 u2 hr hX3 hX3l hZ3l
    obtain ⟨_, _, hR, hZ, hZl, _, _⟩ := HF.out
    obtain ⟨z_0, z_1, z_2, z_3, z_4, z_5, z_6, z_7⟩ := hZ.c8
    obtain ⟨r_0, r_1, r_2, r_3, r_4, r_5, r_6, r_7, r_f0, r_f1, r_f2, r_f3, r_f4, r_f5, r_f6, r_f7⟩ := hR.b8
    have hRlt := hR.lt
    have hZlt := hZ.lt
    have HFF := Lib.hid (fun u0 u1 u2 u3 u4 u5 u6 u7 => HF.out.fin u0 u1 u2 u3 u4 u5 u6 u7)
    clear hR hZ HF
    go_wp2
    exact bodyPost_ret (v := .tuple #[.agg #[.slice A0 S.D.fn.length a0, .slice A1 S.D.fl.length a1, .slice A2 S.D.nn.length a2, .slice A3 S.D.nl.length a3, .slice A4 S.D.ss.length a4, .slice A5 S.cs.length a5, .slice A6 S.ds.length a6, .int .i64 S.fund], .bool false]) (by simp [results, Tryz.results27, go_sem, r_0, r_1, r_2, r_3, r_4, r_5, r_6, r_7, hRlt]) rfl ⟨_, _, _, _, _, _, _, _, _, _, _, _, _, _, fs, rfl, (HFF.out _ _ _ _ _ _ _ _).1, (HFF.out _ _ _ _ _ _ _ _).2⟩
  · clear hX3 hX3l hZ3l x_0 x_1 x_2 x_3 x_4 x_5 x_6 x_7
    obtain ⟨l', hl'⟩ : ∃ l, swapL S.D.nn S.D.nl S.cs x y = l := ⟨_, rfl⟩
    obtain ⟨b', hb'⟩ : ∃ b, swapB S.D.nn S.D.nl S.cs x y = b := ⟨_, rfl⟩
    have HL' := Lib.hid hl'
    have HB' := Lib.hid hb'
    have HN := Lib.hid (HH.out.dr.nn.below HS3.out.blw)
    have HL := Lib.hid (HH.out.dr.nl.below HS3.out.blw)
    have HC := Lib.hid (HH.out.cs.below HS3.out.blw)
    have hX := HS3.out.X
    obtain ⟨x_0, x_1, x_2, x_3, x_4, x_5, x_6, x_7⟩ := hX.c8
    have hXl := hX.lt
    go_wp2_with fail
    refine (sSwap_any _ _ _ S.D.nn S.D.nl S.cs x y _ HN.out HL.out HC.out HLE.out.cs).mono ?_
    rw [hl', hb']
    clear hl' hb'
    rintro e w4 ⟨vt, rfl, ho4, hb4⟩
    obtain ⟨T5, t5, rfl⟩ := OwnE.form (t := 3) (enc := vI) ho4
    clear hX hXl x_0 x_1 x_2 x_3 x_4 x_5 x_6 x_7 HN HL HC
    have HF := Lib.hid (OutSS.newCs HS3.out hb4 ho4)
    have HS4 := Lib.hid (HS3.out.below hb4)
    clear HS3 ho4 hb4
    cases b'
    · clear HF
      obtain ⟨u1, u2⟩ := swp_no (S := S) (x := x) (y := y) (.inr HB'.out)
      have hu : S = E := by rw [← HE.out]; exact u1.symm
      have hv : false = bb := by rw [← HBB.out]; exact u2.symm
      subst hu
      subst hv
      have HF := HS4
      clear HS4 HE HBB u1 u2 hr HL' HB'
      obtain ⟨_, _, hR, hZ, hZl, _, _⟩ := HF.out
      obtain ⟨z_0, z_1, z_2, z_3, z_4, z_5, z_6, z_7⟩ := hZ.c8
      obtain ⟨r_0, r_1, r_2, r_3, r_4, r_5, r_6, r_7, r_f0, r_f1, r_f2, r_f3, r_f4, r_f5, r_f6, r_f7⟩ := hR.b8
      have hRlt := hR.lt
      have hZlt := hZ.lt
      have HFF := Lib.hid (fun u0 u1 u2 u3 u4 u5 u6 u7 => HF.out.fin u0 u1 u2 u3 u4 u5 u6 u7)
      clear hR hZ HF
      go_wp2
      exact bodyPost_ret (v := .tuple #[.agg #[.slice A0 S.D.fn.length a0, .slice A1 S.D.fl.length a1, .slice A2 S.D.nn.length a2, .slice A3 S.D.nl.length a3, .slice A4 S.D.ss.length a4, .slice A5 S.cs.length a5, .slice A6 S.ds.length a6, .int .i64 S.fund], .bool false]) (by simp [results, Tryz.results27, go_sem, r_0, r_1, r_2, r_3, r_4, r_5, r_6, r_7, hRlt]) rfl ⟨_, _, _, _, _, _, _, _, _, _, _, _, _, _, fs, rfl, (HFF.out _ _ _ _ _ _ _ _).1, (HFF.out _ _ _ _ _ _ _ _).2⟩
    · obtain ⟨u1, u2⟩ := swp_yes (S := S) (x := x) (y := y) hr HB'.out
      rw [HL'.out] at u1
      have hu : (⟨S.D, l', S.ds, S.fund⟩ : St) = E := by rw [← HE.out]; exact u1.symm
      have hv : true = bb := by rw [← HBB.out]; exact u2.symm
      subst hu
      subst hv
      obtain ⟨_, _, hR, hZ, hZl, _, _⟩ := HS4.out
      obtain ⟨z_0, z_1, z_2, z_3, z_4, z_5, z_6, z_7, z_f0, z_f1, z_f2, z_f3, z_f4, z_f5, z_f6, z_f7⟩ := hZ.b8
      obtain ⟨r_0, r_1, r_2, r_3, r_4, r_5, r_6, r_7, r_f0, r_f1, r_f2, r_f3, r_f4, r_f5, r_f6, r_f7⟩ := hR.b8
      have hRlt := hR.lt
      have hZlt := hZ.lt
      have HFF := Lib.hid (fun u0 u1 u2 u3 u4 u5 u6 u7 => HF.out.fin u0 u1 u2 u3 u4 u5 u6 u7)
      clear hR hZ HF HS4 HE HBB u1 u2 hr HL' HB'
      have hne1 : ¬ Z = w.heap.size + 1 := by omega
      have hne2 : ¬ w.heap.size + 1 = Z := by omega
      go_wp2
      exact bodyPost_ret (v := .tuple #[.agg #[.slice A0 S.D.fn.length a0, .slice A1 S.D.fl.length a1, .slice A2 S.D.nn.length a2, .slice A3 S.D.nl.length a3, .slice A4 S.D.ss.length a4, .slice T5 l'.length t5, .slice A6 S.ds.length a6, .int .i64 S.fund], .bool true]) (by simp [results, Tryz.results27, go_sem, r_0, r_1, r_2, r_3, r_4, r_5, r_6, r_7, z_0, z_1, z_2, z_3, z_4, z_5, z_6, z_7, hRlt, hZlt, hne1, hne2]) rfl ⟨_, _, _, _, _, _, _, _, _, _, _, _, _, _, fs, rfl, (HFF.out _ _ _ _ _ _ _ _).1, (HFF.out _ _ _ _ _ _ _ _).2⟩
end Go.Proofs.YtnjcpljhmhdhkaaGreat
