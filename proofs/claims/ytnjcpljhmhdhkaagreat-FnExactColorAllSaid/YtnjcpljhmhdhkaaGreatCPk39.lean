/- part 39 -/
import Derived.Test.YtnjcpljhmhdhkaaGreatCPk36
import Derived.Test.YtnjcpljhmhdhkaaGreatCPk38
import Derived.Laws.EntriesVeiled
set_option linter.unusedSimpArgs false
set_option linter.unusedVariables false
namespace Go.Proofs.YtnjcpljhmhdhkaaGreat
open Go.RowKit
noncomputable def colW (ns ls : List Pr) (n : Int) : List Int := (colorO ns ls n).getD []
noncomputable def colWB (ns ls : List Pr) (n : Int) : Bool := (colorO ns ls n).isSome
theorem col_none {ns ls : List Pr} {n : Int} (h : wholeB ns ls = false ∨ inB n 1 6 = false) : colorO ns ls n = none := by
  unfold colorO
  rcases h with h | h
  · rw [h]; rfl
  · rw [h, Bool.and_false]; rfl
theorem col_srch {ns ls : List Pr} {n : Nat} (h1 : wholeB ns ls = true) (h2 : inB n 1 6 = true) : colorO ns ls n = srch (adB ns ls) (noW (facesW ns ls).length) n (facesW ns ls).length [] := by
  unfold colorO
  rw [h1, h2, facesW_whole h1]
  rfl
theorem noW_in (F : Nat) : inAll (noW F) (-1) 5 = true := by
  rw [inAll_true]
  intro j hj
  rw [noW_len] at hj
  rw [noW_get hj]; decide
def noK (F k : Nat) : List Int := List.replicate k (-1) ++ List.replicate (F - k) 0
theorem noK_zero (F : Nat) : noK F 0 = List.replicate F 0 := by simp [noK]
theorem noK_all (F : Nat) : noK F F = noW F := by simp [noK, noW]
theorem noK_succ {F k : Nat} (h : k < F) : (noK F k).set k (-1) = noK F (k + 1) := by
  unfold noK
  rw [List.set_append, if_neg (by simp), List.length_replicate, Nat.sub_self, show F - k = (F - (k + 1)) + 1 by omega, List.replicate_succ, List.set_cons_zero, List.replicate_succ' (n := k), List.append_assoc]
  rfl
theorem noK_len {F k : Nat} (h : k ≤ F) : (noK F k).length = F := by simp [noK]; omega
set_option maxHeartbeats 4000000 in
set_option maxRecDepth 100000 in
theorem iFreely_any (vn vl : Value) (ns ls : List Pr) (w : World) (hn : RP w vn ns) (hl : RP w vl ls) :
    Calls Tryz.prog 183 #[.agg #[vn, vl]] w (RetI (noW (facesW ns ls).length) w) := by
  have hb0 : Below w.heap.size w (w.alloc (.cells #[vn, vl] 27)) := by exact bel_
  obtain ⟨i0, hi, iz0, iz1, iz2⟩ := info_parts infoInt
  have hfl := facesW_len ns ls
  go_enter Tryz.func183, Tryz.ntmps183
  go_wp2_with fail
  refine (iFaces_any _ _ ns ls _ (hn.below hb0) (hl.below hb0)).mono ?_
  rintro e w1 ⟨v1, rfl, ho1, hb1⟩
  have hbw1 := hb0.trans (hb1.mono hb0.size)
  obtain ⟨A1, c1, rfl⟩ := ho1.form
  clear hb1 ho1 hb0 hn hl
  generalize (facesW ns ls).length = F at *
  go_wp2_with (at_make; refine wpList_make_full _ rfl _ _ 31 rfl w.heap.size 3 i0 (.int .i64 0) 1 Tryz.underlying31 hi iz0 iz1 .i64 .i64 _ _ F rfl rfl rfl rfl (by rw [iz2]; omega) (by unfold maxLen; omega) (by have := hbw1.size; omega) ?_)
  intro w3 hown1 hgr1
  have hB3 : Below w1.heap.size w1 w3 := (Below.refl _ _).grown hgr1 (Nat.le_refl _) (by intro k hk; cases hk)
  have hbw3 := hbw1.trans (hB3.mono hbw1.size)
  have hsn : OwnI w.heap.size w3 (.slice (some ⟨w1.heap.size, 0, none⟩) F F) (noK F 0) := by
    rw [noK_zero]
    unfold OwnI
    rw [List.length_replicate, ← madeI]; exact hown1
  have hz1 := hbw1.size
  generalize w1.heap.size = gs at *
  clear hown1 hgr1 hB3 hbw1
  go_wp2
  go_loopw [11] (fun x wr => ∃ k : Nat, k ≤ F ∧ x = .int .i64 k ∧ OwnI w.heap.size wr (.slice (some ⟨gs, 0, none⟩) F F) (noK F k) ∧ Below w.heap.size w wr) (fun x _ => F - (intOf x).toNat)
  case atStart => exact ⟨0, Nat.zero_le _, rfl, hsn, hbw3⟩
  case round =>
    clear hsn hbw3
    obtain ⟨k, hk, rfl, ho, hB⟩ := hrel
    have hgl := (OwnI.lt ho gs rfl).2
    by_cases hlt : k < F
    · have hlt1 : (k : Int) < (F : Int) := by omega
      have ik1 : (0 : Int) ≤ (k : Int) := by omega
      have hx := OwnE.cell (t := 3) (enc := vI) ho 0 (q := k) (by rw [noK_len hk]; exact hlt)
      obtain ⟨z, hz⟩ : ∃ z, wr.cell? ⟨gs, k, none⟩ = some z := ⟨_, hx⟩
      have fz := OwnE.frz (t := 3) (enc := vI) ho k
      have HO := Lib.hid (show OwnI w.heap.size (wr.setCell ⟨gs, k, none⟩ (.int .i64 (-1))) (.slice (some ⟨gs, 0, none⟩) F F) (noK F (k + 1)) by rw [← noK_succ hlt]; exact own_set ho k (-1))
      have HB := Lib.hid (hB.setCell (p := ⟨gs, k, none⟩) hz1 (.int .i64 (-1)))
      clear ho hB hx
      go_wp2
      go_roundw
      case rel => exact ⟨k + 1, by omega, by go_num, HO.out, HB.out⟩
      case measure => simp [intOf]; omega
    · have hkk : k = F := by omega
      subst hkk
      rw [noK_all] at ho
      go_wp2
      go_ret
      exact ⟨_, rfl, ho, hB⟩
set_option maxHeartbeats 4000000 in
set_option maxRecDepth 100000 in
theorem iWishes_any (vn vl vw : Value) (ns ls : List Pr) (w : World) (hn : RP w vn ns) (hl : RP w vl ls) (hw : RI w vw (noW (facesW ns ls).length)) :
    Calls Tryz.prog 235 #[.agg #[vn, vl], vw] w fun e w' => e = .returned (.bool (wholeB ns ls)) ∧ Below w.heap.size w w' := by
  have hb0 : Below w.heap.size w (w.alloc (.cells #[vn, vl] 27)) := by exact bel_
  have hW0 : Blk (w.alloc (.cells #[vn, vl] 27)) w.heap.size 27 #[vn, vl] := Blk.newAt rfl
  obtain ⟨Aw, cw, rfl, hcw, hmw, _⟩ := hw.form
  rw [noW_len] at *
  have HIN := Lib.hid (noW_in (facesW ns ls).length)
  have HW := Lib.hid hw
  cases hq : wholeB ns ls
  · go_enter Tryz.func235, Tryz.ntmps235
    go_wp2_with fail
    refine (iWhole_at _ _ ns ls _ _ (hn.below hb0) (hl.below hb0) hq).mono ?_
    rintro e w1 ⟨rfl, hb1⟩
    have hbw1 := hb0.trans (hb1.mono hb0.size)
    go_wp2
    go_ret
    exact ⟨rfl, hbw1⟩
  · go_enter Tryz.func235, Tryz.ntmps235
    go_wp2_with fail
    refine (iWhole_at _ _ ns ls _ _ (hn.below hb0) (hl.below hb0) hq).mono ?_
    rintro e w1 ⟨rfl, hb1⟩
    have hbw1 := hb0.trans (hb1.mono hb0.size)
    have hW1 := hW0.below hb1 hW0.lt
    obtain ⟨a_0, a_1⟩ := hW1.c2
    have hz1 := hW1.lt
    clear hb1
    go_wp2_with fail
    refine (iFaces_any _ _ ns ls _ (hn.below hbw1) (hl.below hbw1)).mono ?_
    rintro e w2 ⟨v2, rfl, ho2, hb2⟩
    obtain ⟨A2, c2, rfl⟩ := ho2.form
    have hbw2 := hbw1.trans (hb2.mono hbw1.size)
    clear hb2 ho2 a_0 a_1 hbw1
    have e1 : (((facesW ns ls).length : Int) == ((facesW ns ls).length : Int)) = true := beq_self_eq_true _
    go_wp2_with fail
    refine (iAllW_any _ _ (-1) 5 _ (HW.out.below hbw2)).mono ?_
    rintro e w' ⟨rfl, rfl⟩
    rw [HIN.out]
    go_wp2
    go_ret
    exact ⟨rfl, hbw2⟩
theorem noW_cells {w : World} {b o F c : Nat} (h : RI w (.slice (some ⟨b, o, none⟩) F c) (noW F)) (hF : 0 < F) : b < w.heap.size ∧ ∀ k, k < F → w.cell? ⟨b, o + k, none⟩ = some (.int .i64 (-1)) := by
  obtain ⟨Aw, cw, he, _, _, hcw⟩ := h.form
  rw [noW_len] at hcw
  obtain ⟨bw', ow', hA, hbW, hcw2⟩ := hcw hF
  injection he with he1 _ _
  rw [← he1] at hA
  injection hA with hA
  injection hA with hA1 hA2 _
  subst hA1
  subst hA2
  exact ⟨hbW, fun k hk => by rw [hcw2 k hk, noW_get hk]⟩
set_option maxHeartbeats 8000000 in
set_option maxRecDepth 100000 in
theorem iPaint_at (vn vl : Value) (ns ls : List Pr) (bW oW cW n gO : Nat) (w : World) (hn : RP w vn ns) (hl : RP w vl ls) (hw : wholeB ns ls = true) (hn6 : n ≤ 6)
    (hcW : (facesW ns ls).length ≤ cW) (hW : RI w (.slice (some ⟨bW, oW, none⟩) (facesW ns ls).length cW) (noW (facesW ns ls).length)) (hO : Blk w gO 31 #[.slice none 0 0]) :
    Calls Tryz.prog 236 #[.agg #[vn, vl], .slice (some ⟨bW, oW, none⟩) (facesW ns ls).length cW, .int .i64 n, .func (.func 237) #[] #[.pointer (some ⟨gO, 0, none⟩)]] w fun e w' =>
      e = .returned (.tuple #[]) ∧ ∃ u, Blk w' gO 31 #[u] ∧ OwnI w.heap.size w' u ((srch (adB ns ls) (noW (facesW ns ls).length) n (facesW ns ls).length []).getD []) ∧ (srch (adB ns ls) (noW (facesW ns ls).length) n (facesW ns ls).length [] = none → u = .slice none 0 0) ∧ w.grownBy w' (some gO) := by
  obtain ⟨i0, hi, iz0, iz1, iz2⟩ := info_parts infoInt
  have hfl := facesW_len ns ls
  have hfp := face_pos hw
  have hwf := facesW_whole hw
  have hOl := hO.lt
  obtain ⟨w0, hw0⟩ : ∃ u, u = (((w.alloc (.cells #[vn, vl] 27)).alloc (.cells #[.slice (some ⟨bW, oW, none⟩) (facesW ns ls).length cW] 31)).alloc (.cells #[.int .i64 n] 3)).alloc (.cells #[.func (.func 237) #[] #[.pointer (some ⟨gO, 0, none⟩)]] 205) := ⟨_, rfl⟩
  have hb0 : Below w.heap.size w w0 := by rw [hw0]; exact bel_
  have hX0 : Blk w0 w.heap.size 27 #[vn, vl] := by rw [hw0]; exact (((Blk.newAt rfl).alloc _).alloc _).alloc _
  have hG0 : Blk w0 (w.heap.size + 1) 31 #[.slice (some ⟨bW, oW, none⟩) (facesW ns ls).length cW] := by rw [hw0]; exact ((Blk.newAt (by simp)).alloc _).alloc _
  have hN0 : Blk w0 (w.heap.size + 1 + 1) 3 #[.int .i64 n] := by rw [hw0]; exact (Blk.newAt (by simp)).alloc _
  have hT0 : Blk w0 (w.heap.size + 1 + 1 + 1) 205 #[.func (.func 237) #[] #[.pointer (some ⟨gO, 0, none⟩)]] := by rw [hw0]; exact Blk.newAt (by simp)
  have HNE := Lib.hid (iNear_any vn vl ns ls w0 (hn.below hb0) (hl.below hb0) hw)
  have HW0 := Lib.hid hw0
  obtain ⟨hbW, hcw⟩ := noW_cells hW hfp
  have HCW := Lib.hid hcw
  have hWO : bW ≠ gO := by
    intro e
    have h1 := HCW.out 0 hfp
    rw [e, hO.cell] at h1
    rcases oW with _ | o
    · cases h1
    · simp at h1
  have HBIT : Hid (∀ g f, g < (facesW ns ls).length → f < (facesW ns ls).length → ((nearW ns ls).getD f 0).testBit g = adB ns ls g f) := Lib.hid (fun g f hg hf => by rw [near_bit hw (by rw [← hwf]; exact hf), adB_symm])
  have HNL : Hid (∀ f, f < (facesW ns ls).length → (nearW ns ls).getD f 0 < 2 ^ 40) := Lib.hid (fun f hf => Nat.lt_of_lt_of_le (near_lt hw (by rw [← hwf]; exact hf)) (Nat.pow_le_pow_right (by omega) (by rw [← hwf]; exact hfl)))
  have hnl : (nearW ns ls).length = (facesW ns ls).length := by unfold nearW; rw [nearK_len, hwf]
  generalize hRR : srch (adB ns ls) (noW (facesW ns ls).length) n (facesW ns ls).length [] = RR at *
  have HRR := Lib.hid hRR
  have HNN := Lib.hid hnl
  clear hRR hnl hw0 hcw hW hwf hw hn hl
  generalize (facesW ns ls).length = F at *
  generalize nearW ns ls = NN at *
  go_enter Tryz.func236, Tryz.ntmps236
  go_wp2_with fail
  rw [← HW0.out]
  clear HW0
  refine HNE.out.mono ?_
  rintro e w1 ⟨v1, rfl, ho1, hb1⟩
  have hbw1 := hb0.trans (hb1.mono hb0.size)
  obtain ⟨bA, cA, rfl, hcA, hbA0, hbA, hclA⟩ := OwnI.blk ho1 (by rw [natI_length, HNN.out]; exact hfp)
  rw [natI_length, HNN.out] at hcA hclA ⊢
  have hX1 := hX0.below hb1 hX0.lt
  have hG1 := hG0.below hb1 hG0.lt
  have hN1 := hN0.below hb1 hN0.lt
  have hT1 := hT0.below hb1 hT0.lt
  have hz1 := hT1.lt
  have HCA : Hid (∀ k, k < F → w1.cell? ⟨bA, k, none⟩ = some (.int .i64 (NN.getD k 0 : Nat))) := Lib.hid (fun k hk => by rw [hclA k hk, natI_get])
  clear hb1 ho1 hclA hX0 hG0 hN0 hT0 HNE
  have g0 : w1.cell? ⟨w.heap.size + 1, 0, none⟩ = some (.slice (some ⟨bW, oW, none⟩) F cW) := hG1.cell 0
  have hF40 : F ≤ 40 := hfl
  obtain ⟨w2, hw2⟩ : ∃ u, u = w1.alloc (.cells #[.slice (some ⟨bA, 0, none⟩) F cA] 31) := ⟨_, rfl⟩
  have hb2 : Below w1.heap.size w1 w2 := by rw [hw2]; exact bel_
  have hA2 : Blk w2 w1.heap.size 31 #[.slice (some ⟨bA, 0, none⟩) F cA] := by rw [hw2]; exact Blk.newAt rfl
  have HW2 := Lib.hid hw2
  have hbw2 := hbw1.trans (hb2.mono hbw1.size)
  clear hw2
  have l1 : w.heap.size + 1 < w1.heap.size := by omega
  go_wp2_with (at_make; refine wpList_make_full _ rfl _ _ 31 rfl w.heap.size 3 i0 (.int .i64 0) 1 Tryz.underlying31 hi iz0 iz1 .i64 .i64 _ _ F rfl rfl rfl rfl (by rw [iz2]; omega) (by unfold maxLen; omega) (by simp; omega) ?_)
  rw [← HW2.out]
  intro w3 hown1 hgr1
  have hs2 : w2.heap.size = w1.heap.size + 1 := by rw [HW2.out]; simp
  have hB3 : Below w2.heap.size w2 w3 := (Below.refl _ _).grown hgr1 (Nat.le_refl _) (by intro k hk; cases hk)
  have hbw3 := hbw2.trans (hB3.mono hbw2.size)
  have hC3 : OwnI w.heap.size w3 (.slice (some ⟨w1.heap.size + 1, 0, none⟩) F F) (List.replicate F 0) := by
    unfold OwnI
    rw [List.length_replicate, ← madeI]; exact hown1
  have hC3l : w1.heap.size + 1 < w3.heap.size := (OwnI.lt hC3 (w1.heap.size + 1) rfl).2
  have HB0S := Lib.hid hb0.size
  have b12 := hb2.trans (hB3.mono hb2.size)
  have hG3 := hG1.below b12 hG1.lt
  have hN3 := hN1.below b12 hN1.lt
  have hT3 := hT1.below b12 hT1.lt
  have hA3 := hA2.below hB3 hA2.lt
  have HCA3 : Hid (∀ k, k < F → w3.cell? ⟨bA, 0 + k, none⟩ = some (.int .i64 (NN.getD k 0 : Nat))) := Lib.hid (fun k hk => by rw [Nat.zero_add]; exact (b12.cell (p := ⟨bA, k, none⟩) hbA).trans (HCA.out k hk))
  have HCW3 : Hid (∀ k, k < F → w3.cell? ⟨bW, oW + k, none⟩ = some (.int .i64 (-1))) := Lib.hid (fun k hk => (hbw3.cell (p := ⟨bW, oW + k, none⟩) hbW).trans (HCW.out k hk))
  have hO3 := hO.below hbw3 hOl
  have hz3 := hB3.size
  have hG1l := hG1.lt
  have hN1l := hN1.lt
  have hT1l := hT1.lt
  have hbw1s := hbw1.size
  clear hown1 hgr1 HCA HCW hB3 hbw1 hbw2 hb2 b12 HW2 hA2 hG1 hN1 hT1 hX1 g0 hO i0 hi iz0 iz1 iz2 hb0
  have nA : ¬ w1.heap.size = w1.heap.size + 1 := by omega
  have hbb0 : w.heap.size ≤ bA := by have := HB0S.out; omega
  obtain ⟨w5, hw5⟩ : ∃ u, u = (w3.alloc (.cells #[.slice (some ⟨w1.heap.size + 1, 0, none⟩) F F] 31)).alloc (.cells #[.func (.func 257) #[] #[.pointer (some ⟨w3.heap.size, 0, none⟩), .pointer (some ⟨w.heap.size + 1 + 1 + 1, 0, none⟩), .pointer (some ⟨w.heap.size + 1 + 1, 0, none⟩), .pointer (some ⟨w.heap.size + 1, 0, none⟩), .pointer (some ⟨w1.heap.size, 0, none⟩), .pointer (some ⟨w3.heap.size + 1, 0, none⟩)]] 218) := ⟨_, rfl⟩
  have b35 : Below w3.heap.size w3 w5 := by rw [hw5]; exact bel_
  have hbw5 := hbw3.trans (b35.mono hbw3.size)
  have hgC5 : Blk w5 w3.heap.size 31 #[.slice (some ⟨w1.heap.size + 1, 0, none⟩) F F] := by rw [hw5]; exact (Blk.newAt rfl).alloc _
  have hgP5 : Blk w5 (w3.heap.size + 1) 218 #[.func (.func 257) #[] #[.pointer (some ⟨w3.heap.size, 0, none⟩), .pointer (some ⟨w.heap.size + 1 + 1 + 1, 0, none⟩), .pointer (some ⟨w.heap.size + 1 + 1, 0, none⟩), .pointer (some ⟨w.heap.size + 1, 0, none⟩), .pointer (some ⟨w1.heap.size, 0, none⟩), .pointer (some ⟨w3.heap.size + 1, 0, none⟩)]] := by rw [hw5]; exact Blk.newAt (by simp)
  have hG5 := hG3.below b35 hG3.lt
  have hN5 := hN3.below b35 hN3.lt
  have hT5 := hT3.below b35 hT3.lt
  have hA5 := hA3.below b35 hA3.lt
  have hO5 := hO3.below b35 hO3.lt
  have hC5 := hC3.kept b35
  have hs5 : w5.heap.size = w3.heap.size + 1 + 1 := by rw [hw5]; simp
  have HP : PutI (w1.heap.size + 1) gO w3.heap.size (w.heap.size + 1 + 1 + 1) (w.heap.size + 1 + 1) (w.heap.size + 1) w1.heap.size (w3.heap.size + 1) bW oW cW bA 0 cA F n (fun k => NN.getD k 0) w5 :=
    ⟨⟨hgC5.lt, by omega, by omega, hgC5.cell 0⟩, ⟨hT5.lt, by omega, by omega, hT5.cell 0⟩, ⟨hN5.lt, by omega, by omega, hN5.cell 0⟩, ⟨hG5.lt, by omega, by omega, hG5.cell 0⟩, ⟨hA5.lt, nA, by omega, hA5.cell 0⟩, ⟨hgP5.lt, by omega, by omega, hgP5.cell 0⟩,
      fun k hk => ⟨by omega, by omega, hWO, (b35.cell (p := ⟨bW, oW + k, none⟩) (show bW < w3.heap.size by have := hbw1s; omega)).trans (HCW3.out k hk)⟩,
      fun k hk => ⟨by omega, by omega, by omega, (b35.cell (p := ⟨bA, 0 + k, none⟩) (show bA < w3.heap.size by omega)).trans (HCA3.out k hk)⟩⟩
  have HCALL := Lib.hid (iPut_at w.heap.size (w1.heap.size + 1) gO w3.heap.size (w.heap.size + 1 + 1 + 1) (w.heap.size + 1 + 1) (w.heap.size + 1) w1.heap.size (w3.heap.size + 1) bW oW cW bA 0 cA F n (fun k => NN.getD k 0) (adB ns ls) HBIT.out HNL.out hF40 hn6 (by omega) F [] (List.replicate F 0) 0 w5 rfl (by simp) HP hC5 rfl hO5)
  have HW5 := Lib.hid hw5
  have HBW5 := Lib.hid hbw5
  have hbCw : w.heap.size ≤ w1.heap.size + 1 := by omega
  have c9 : w5.cell? ⟨w3.heap.size + 1, 0, none⟩ = some (.func (.func 257) #[] #[.pointer (some ⟨w3.heap.size, 0, none⟩), .pointer (some ⟨w.heap.size + 1 + 1 + 1, 0, none⟩), .pointer (some ⟨w.heap.size + 1 + 1, 0, none⟩), .pointer (some ⟨w.heap.size + 1, 0, none⟩), .pointer (some ⟨w1.heap.size, 0, none⟩), .pointer (some ⟨w3.heap.size + 1, 0, none⟩)]) := hgP5.cell 0
  clear HP hC5 hO5 hA5 hT5 hN5 hG5 hgP5 hgC5 hbw5 b35 hw5 hO3 HCW3 HCA3 hA3 hT3 hN3 hG3 hC3 hbw3
  go_wp2_with fail
  rw [← HW5.out]
  clear HW5
  refine HCALL.out.mono ?_
  rintro e w6 ⟨b, rfl, ht, _, h6⟩
  have hbw5 := HBW5.out
  have HG : Hid (w.grownBy w6 (some gO)) := Lib.hid ⟨ht.os.trans hbw5.os, ht.tape.trans hbw5.tape, ht.output.trans hbw5.output, Nat.le_trans hbw5.size ht.size, fun i hi hne => (ht.block i (Nat.lt_of_lt_of_le hi hbw5.size) (fun e => e.elim (fun e => by omega) (fun e => hne (by rw [e])))).trans (hbw5.block i hi)⟩
  have HQ : Hid (∃ u, Blk w6 gO 31 #[u] ∧ OwnI w.heap.size w6 u (RR.getD []) ∧ (RR = none → u = .slice none 0 0)) := Lib.hid (by
    rw [← HRR.out]
    rcases h6 with ⟨_, hn6, hO6⟩ | ⟨_, L, u, hL6, hO6, hu6⟩
    · exact ⟨_, hO6, by rw [hn6]; exact OwnI.nil _ _, fun _ => rfl⟩
    · exact ⟨u, hO6, by rw [hL6]; exact OwnI.mono hu6 hbw5.size, fun h => by rw [hL6] at h; cases h⟩)
  clear h6 ht HCALL HBW5 hbw5 c9 HRR
  go_wp2
  go_end0
  obtain ⟨u, h1, h2, h3⟩ := HQ.out
  exact ⟨rfl, u, h1, h2, h3, HG.out⟩
set_option maxHeartbeats 8000000 in
set_option maxRecDepth 100000 in
theorem iFillW_at (vn vl vw : Value) (ns ls : List Pr) (z : Int) (w : World) (hn : RP w vn ns) (hl : RP w vl ls) (hW : RI w vw (noW (facesW ns ls).length)) :
    Calls Tryz.prog 182 #[.agg #[vn, vl], vw, .int .i64 z] w (RetIB (colW ns ls z) (colWB ns ls z) w) := by
  have hb0 : Below w.heap.size w (w.alloc (.cells #[vn, vl] 27)) := by exact bel_
  have hW0 : Blk (w.alloc (.cells #[vn, vl] 27)) w.heap.size 27 #[vn, vl] := Blk.newAt rfl
  cases hq : wholeB ns ls
  · have HR := Lib.hid (col_none (n := z) (.inl hq))
    go_enter Tryz.func182, Tryz.ntmps182
    go_wp2_with fail
    refine (iWishes_any _ _ _ ns ls _ (hn.below hb0) (hl.below hb0) (hW.below hb0)).mono ?_
    rw [hq]
    rintro e w1 ⟨rfl, hb1⟩
    have hbw1 := hb0.trans (hb1.mono hb0.size)
    go_wp2
    exact bodyPost_ret (v := .tuple #[.slice none 0 0, .bool false]) (by simp [results, Tryz.results182, go_sem]) rfl ⟨_, by unfold colWB; rw [HR.out]; rfl, by unfold colW; rw [HR.out]; exact OwnI.nil _ _, hbw1⟩
  · cases hz : inB z 1 6
    · have HR := Lib.hid (col_none (ns := ns) (ls := ls) (n := z) (.inr hz))
      go_enter Tryz.func182, Tryz.ntmps182
      go_wp2_with fail
      refine (iWishes_any _ _ _ ns ls _ (hn.below hb0) (hl.below hb0) (hW.below hb0)).mono ?_
      rw [hq]
      rintro e w1 ⟨rfl, hb1⟩
      have hbw1 := hb0.trans (hb1.mono hb0.size)
      go_wp2_with fail
      refine (within_at z 1 6 false _ hz).mono ?_
      rintro e w' ⟨rfl, rfl⟩
      go_wp2
      exact bodyPost_ret (v := .tuple #[.slice none 0 0, .bool false]) (by simp [results, Tryz.results182, go_sem]) rfl ⟨_, by unfold colWB; rw [HR.out]; rfl, by unfold colW; rw [HR.out]; exact OwnI.nil _ _, hbw1⟩
    · obtain ⟨n, rfl⟩ : ∃ n : Nat, z = n := ⟨z.toNat, by have := inB_true.1 hz; omega⟩
      have hn6 : n ≤ 6 := by have := inB_true.1 hz; omega
      have HS := Lib.hid (col_srch hq hz)
      have hfp := face_pos hq
      obtain ⟨Aw, cw, rfl, hcw, hmw, hcellw⟩ := hW.form
      rw [noW_len] at hcw hmw hcellw hW ⊢
      obtain ⟨bw, ow, rfl, hbw, _⟩ := hcellw hfp
      have HZ := Lib.hid hz
      have HLN : Hid (∀ L, srch (adB ns ls) (noW (facesW ns ls).length) n (facesW ns ls).length [] = some L → L.length = (facesW ns ls).length) := Lib.hid (fun L h => by have := srch_len h; simpa using this)
      clear hz hcellw
      go_enter Tryz.func182, Tryz.ntmps182
      go_wp2_with fail
      refine (iWishes_any _ _ _ ns ls _ (hn.below hb0) (hl.below hb0) (hW.below hb0)).mono ?_
      rw [hq]
      rintro e w1 ⟨rfl, hb1⟩
      have hbw1 := hb0.trans (hb1.mono hb0.size)
      have hW1 := hW0.below hb1 hW0.lt
      have hz1 := hW1.lt
      clear hb1 hW0 hb0
      go_wp2_with fail
      refine (within_at _ 1 6 true _ HZ.out).mono ?_
      rintro e w' ⟨rfl, rfl⟩
      have hb2 := hbw1.alloc hbw1.size (.cells #[.slice none 0 0] 31)
      have hO2 : Blk (w1.alloc (.cells #[.slice none 0 0] 31)) w1.heap.size 31 #[.slice none 0 0] := Blk.newAt rfl
      have HP := Lib.hid (iPaint_at vn vl ns ls bw ow cw n w1.heap.size _ (hn.below hb2) (hl.below hb2) hq hn6 hcw (hW.below hb2) hO2)
      have HB2 := Lib.hid hb2
      obtain ⟨a_0, a_1⟩ := hW1.c2
      clear hb2 hO2 hW hn hl hW1 hq
      go_wp2_with fail
      refine HP.out.mono ?_
      rintro e w3 ⟨rfl, u, hO3, hu3, hun, hg3⟩
      have hb3 : Below w.heap.size w w3 := HB2.out.grown hg3 HB2.out.size (fun k hk => by cases hk; exact hbw1.size)
      have hu3' := OwnI.mono hu3 (HB2.out.size)
      have hO3l := hO3.lt
      have hnq := fun (u : World) (a : Option Addr) (l c : Nat) => run_neq_slice_nil_any (P := Tryz.prog) u 31 3 a l c 0 0 Tryz.underlying31
      clear HP HB2 hu3 hg3 a_0 a_1
      generalize srch (adB ns ls) (noW (facesW ns ls).length) n (facesW ns ls).length [] = RR at *
      cases RR with
      | none =>
        have e1 := hun rfl
        subst e1
        have q0 : w3.cell? ⟨w1.heap.size, 0, none⟩ = some (.slice none 0 0) := hO3.cell 0
        clear hun hO3
        go_wp2_with fail
        (refine wp_region_quietG (by kernel_rfl) (by kernel_rfl) (fun hG => ?_))
        repeat (go_big_quiet_step (fail))
        refine wpQuiet_nil ?_
        clear hG
        rintro w5 ⟨⟨_, hs5⟩, rfl⟩
        have HB5 := Lib.hid (hb3.trans (hs5.mono hb3.size))
        clear hs5 q0
        go_wp2
        exact bodyPost_ret (v := .tuple #[.slice none 0 0, .bool false]) (by simp [results, Tryz.results182, go_sem]) rfl ⟨_, by unfold colWB; rw [HS.out]; rfl, by unfold colW; rw [HS.out]; exact OwnI.nil _ _, HB5.out⟩
      | some L =>
        have hL : OwnI w.heap.size w3 u L := hu3'
        have hl := HLN.out L rfl
        obtain ⟨bu, cu, rfl, _, _, _, _⟩ := OwnI.blk hL (by omega)
        have q0 : w3.cell? ⟨w1.heap.size, 0, none⟩ = some (.slice (some ⟨bu, 0, none⟩) L.length cu) := hO3.cell 0
        have HL := Lib.hid hl
        clear hun hO3 hu3' hl
        go_wp2_with fail
        (refine wp_region_quietG (by kernel_rfl) (by kernel_rfl) (fun hG => ?_))
        repeat (go_big_quiet_step (fail))
        refine wpQuiet_nil ?_
        clear hG
        rintro w5 ⟨⟨_, hs5⟩, rfl⟩
        have HB5 := Lib.hid (hb3.trans (hs5.mono hb3.size))
        have HL5 := Lib.hid (hL.kept hs5)
        clear hs5 q0 hL
        go_wp2
        exact bodyPost_ret (v := .tuple #[.slice (some ⟨bu, 0, none⟩) L.length cu, .bool true]) (by simp [results, Tryz.results182, go_sem]) rfl ⟨_, by unfold colWB; rw [HS.out]; rfl, by unfold colW; rw [HS.out]; exact HL5.out, HB5.out⟩
set_option maxHeartbeats 8000000 in
set_option maxRecDepth 100000 in
theorem iColorWith_any (vn vl : Value) (ns ls : List Pr) (z : Int) (w : World) (hn : RP w vn ns) (hl : RP w vl ls) :
    Calls Tryz.prog 104 #[.agg #[vn, vl], .int .i64 z] w (RetIB (colW ns ls z) (colWB ns ls z) w) := by
  have HFR := Lib.hid (fun (v : World) (hb : Below w.heap.size w v) => iFreely_any vn vl ns ls v (hn.below hb) (hl.below hb))
  have HFI := Lib.hid (fun (v : World) (u : Value) (hb : Below w.heap.size w v) (hu : RI v u (noW (facesW ns ls).length)) => iFillW_at vn vl u ns ls z v (hn.below hb) (hl.below hb) hu)
  go_enter Tryz.func104, Tryz.ntmps104
  go_wp2_with fail
  go_region_held3 (fun w' => w'.cell? ⟨w.heap.size, 0, none⟩ = some vn ∧ w'.cell? ⟨w.heap.size, 1, none⟩ = some vl)
    (go_keep)
    (first | (go_at_call 183; refine (HFR.out _ (by exact bel_)).mono ?_; rintro e w1 ⟨v1, rfl, ho1, hb1⟩; (first | (with_reducible have hcf1 := bcell_drew hb1) | have hcf1 := bcell hb1); obtain ⟨hc1, hf1⟩ := hcf1; have hz1 := hb1.size; (try simp at hz1); (try have hp1_0 : w.heap.size < w1.heap.size := by omega); (try have hp1_1 : w.heap.size + 1 < w1.heap.size := by omega); (try have hp1_2 : w.heap.size + 1 + 1 < w1.heap.size := by omega); (try have hp1_3 : w.heap.size + 1 + 1 + 1 < w1.heap.size := by omega); have hbw1 : Below w.heap.size w w1 := (by exact bel_)) | (go_at_call 182; refine (HFI.out _ _ (by exact bel_) (ho1.reads.below (by exact bel_))).mono ?_; rintro e w2 ⟨v2, rfl, ho2, hb2⟩; (first | (with_reducible have hcf2 := bcell_drew hb2) | have hcf2 := bcell hb2); obtain ⟨hc2, hf2⟩ := hcf2; have hz2 := hb2.size; (try simp at hz2); (try have hp2_0 : w.heap.size < w2.heap.size := by omega); (try have hp2_1 : w.heap.size + 1 < w2.heap.size := by omega); (try have hp2_2 : w.heap.size + 1 + 1 < w2.heap.size := by omega); (try have hp2_3 : w.heap.size + 1 + 1 + 1 < w2.heap.size := by omega)))
  have hbw2 : Below w.heap.size w w2 := by exact bel_
  have HO2 := Lib.hid (OwnI.mono ho2 (show w.heap.size ≤ _ by first | omega | (have := hbw1.size; simp at *; omega)))
  clear ho2 hb2
  go_wp2
  exact bodyPost_ret (v := .tuple #[v2, .bool (colWB ns ls z)]) (by simp [results, Tryz.results104, go_sem]) rfl ⟨_, rfl, HO2.out, hbw2⟩
set_option maxHeartbeats 8000000 in
set_option maxRecDepth 100000 in
theorem sColorWith_any (vn vl : Value) (ns ls : List Pr) (z : Int) (w : World) (hn : RP w vn ns) (hl : RP w vl ls) :
    Calls Tryz.prog 103 #[.agg #[vn, vl], .int .i64 z] w (RetIB (colW ns ls z) (colWB ns ls z) w) := by
  have hb0 : Below w.heap.size w (w.alloc (.cells #[vn, vl] 27)) := by exact bel_
  have hW0 : Blk (w.alloc (.cells #[vn, vl] 27)) w.heap.size 27 #[vn, vl] := Blk.newAt rfl
  cases hq : wholeB ns ls
  · have HR := Lib.hid (col_none (n := z) (.inl hq))
    go_enter Tryz.func103, Tryz.ntmps103
    go_wp2_with fail
    refine (sWhole_at _ _ ns ls _ _ (hn.below hb0) (hl.below hb0) hq).mono ?_
    rintro e w1 ⟨rfl, hb1⟩
    have hbw1 := hb0.trans (hb1.mono hb0.size)
    have HO : Hid (OwnI w.heap.size (w1.alloc (.cells #[] 3)) (.slice (some ⟨w1.heap.size, 0, none⟩) 0 0) []) := Lib.hid (OwnI.made rfl hbw1.size)
    have HB := Lib.hid (hbw1.alloc hbw1.size (.cells #[] 3))
    go_wp2
    exact bodyPost_ret (v := .tuple #[.slice (some ⟨w1.heap.size, 0, none⟩) 0 0, .bool false]) (by simp [results, Tryz.results103, go_sem]) rfl ⟨_, by unfold colWB; rw [HR.out]; rfl, by unfold colW; rw [HR.out]; exact HO.out, HB.out⟩
  · cases hz : inB z 1 6
    · have HR := Lib.hid (col_none (ns := ns) (ls := ls) (n := z) (.inr hz))
      have HZ := Lib.hid hz
      clear hz
      go_enter Tryz.func103, Tryz.ntmps103
      go_wp2_with fail
      refine (sWhole_at _ _ ns ls _ _ (hn.below hb0) (hl.below hb0) hq).mono ?_
      rintro e w1 ⟨rfl, hb1⟩
      have hbw1 := hb0.trans (hb1.mono hb0.size)
      have HO : Hid (OwnI w.heap.size (w1.alloc (.cells #[] 3)) (.slice (some ⟨w1.heap.size, 0, none⟩) 0 0) []) := Lib.hid (OwnI.made rfl hbw1.size)
      have HB := Lib.hid (hbw1.alloc hbw1.size (.cells #[] 3))
      go_wp2_with fail
      refine (l01In_any _ _ _ _).mono ?_
      rintro e w' ⟨rfl, rfl⟩
      rw [HZ.out]
      go_wp2
      exact bodyPost_ret (v := .tuple #[.slice (some ⟨w1.heap.size, 0, none⟩) 0 0, .bool false]) (by simp [results, Tryz.results103, go_sem]) rfl ⟨_, by unfold colWB; rw [HR.out]; rfl, by unfold colW; rw [HR.out]; exact HO.out, HB.out⟩
    · obtain ⟨n, rfl⟩ : ∃ n : Nat, z = n := ⟨z.toNat, by have := inB_true.1 hz; omega⟩
      have hn6 : n ≤ 6 := by have := inB_true.1 hz; omega
      have HS := Lib.hid (col_srch hq hz)
      have hfp := face_pos hq
      have hfl := facesW_len ns ls
      have HZ := Lib.hid hz
      have HBE := Lib.hid (fun (v : World) (hb : Below w.heap.size w v) => sBeside_any vn vl ns ls v (hn.below hb) (hl.below hb) hq)
      have HWH := Lib.hid (sWhole_at vn vl ns ls true _ (hn.below hb0) (hl.below hb0) hq)
      have HTB : Hid (∀ base w v gs, OwnTab base w v (facesW ns ls).length gs (besW ns ls) → ∃ g c, v = .slice (some ⟨g, 0, none⟩) (facesW ns ls).length c ∧ TabAt w g 0 (facesW ns ls).length (adB ns ls)) := Lib.hid (fun base w v gs h => by
        have hwf := facesW_whole hq
        have hbl : (besW ns ls).length = (facesW ns ls).length := by unfold besW; rw [besK_len, hwf]
        have hbr : ∀ i, i < (facesW ns ls).length → ((besW ns ls).getD i []).length = (facesW ns ls).length := fun i hi => by unfold besW; rw [besK_row _ _ _ _ (by rw [← hwf]; exact hi), hwf]
        obtain ⟨g, c, rfl, hg1, hg2⟩ := h.blk (by rw [hbl]; exact hfp)
        refine ⟨g, c, by rw [h.len, hbl], hg2, fun i hi => ⟨gs.getD i 0, (gs_lt h (by rw [hbl]; exact hi)).2, ?_, fun j hj => ?_⟩⟩
        · rw [Nat.zero_add]; exact h.cell (by rw [hbl]; exact hi)
        · rw [h.cell2 (by rw [hbl]; exact hi) (by rw [hbr i hi]; exact hj), bes_bit hq (by rw [← hwf]; exact hi) (by rw [← hwf]; exact hj)])
      clear hz hn hl hq
      generalize (facesW ns ls).length = F at *
      go_enter Tryz.func103, Tryz.ntmps103
      go_wp2_with fail
      refine HWH.out.mono ?_
      rintro e w1 ⟨rfl, hb1⟩
      have hbw1 := hb0.trans (hb1.mono hb0.size)
      have hW1 := hW0.below hb1 hW0.lt
      have hz1 := hW1.lt
      clear hb1 hW0 hb0
      go_wp2_with fail
      refine (l01In_any _ _ _ _).mono ?_
      rintro e w' ⟨rfl, rfl⟩
      rw [HZ.out]
      obtain ⟨a_0, a_1⟩ := hW1.c2
      go_wp2_with fail
      refine (HBE.out _ hbw1).mono ?_
      rintro e w2 ⟨v2, gs, rfl, ho2, hb2⟩
      obtain ⟨g, c, rfl, ht2⟩ := HTB.out _ _ _ _ ho2
      have hbw2 := hbw1.trans (hb2.mono hbw1.size)
      clear ho2 hb2 hW1 a_0 a_1 HTB HBE HWH
      go_wp2_with fail
      refine (sFree_any F _ hfl).mono ?_
      rintro e w3 ⟨v3, rfl, ho3, hb3⟩
      have hbw3 := hbw2.trans (hb3.mono hbw2.size)
      have ht3 := ht2.below hb3
      have hb4 : Below w3.heap.size w3 (w3.alloc (.cells #[] 3)) := by exact bel_
      have hbw4 := hbw3.trans (hb4.mono hbw3.size)
      have HSE := Lib.hid (sSearch_at F n g c (adB ns ls) v3 hfl hn6 F [] (.slice (some ⟨w3.heap.size, 0, none⟩) 0 0) (w3.alloc (.cells #[] 3)) (by simp) ⟨ht3.below hb4, ho3.reads.below hb4⟩ (OwnI.reads (OwnI.made (base := 0) rfl (Nat.zero_le _))))
      have HB4 := Lib.hid hbw4
      clear ho3 hb3 ht2 ht3 hb4 hbw4
      go_wp2_with fail
      refine HSE.out.mono ?_
      rw [← HS.out]
      rintro e w5 ⟨v5, rfl, ho5, hb5⟩
      have HO5 := Lib.hid (OwnI.mono ho5 HB4.out.size)
      have HB5 := Lib.hid (HB4.out.trans (hb5.mono HB4.out.size))
      clear ho5 hb5 HSE
      go_wp2
      exact bodyPost_ret (v := .tuple #[v5, .bool (colorO ns ls n).isSome]) (by simp [results, Tryz.results103, go_sem]) rfl ⟨_, rfl, HO5.out, HB5.out⟩
end Go.Proofs.YtnjcpljhmhdhkaaGreat
