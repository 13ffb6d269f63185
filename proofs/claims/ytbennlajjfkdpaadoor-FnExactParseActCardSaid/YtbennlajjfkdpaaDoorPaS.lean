/-
  Acts read from texts: the reference's side.
-/
import Derived.Test.YtbennlajjfkdpaaDoorPaN
import Derived.Test.YtbennlajjfkdpaaDoorSmall
import Derived.Test.YtbennlajjfkdpaaDoorOwn
import Derived.WalkSmall
set_option linter.unusedSimpArgs false
set_option linter.unusedVariables false
namespace Go.Proofs.YtbennlajjfkdpaaDoor
open Go.RowKit

/-- The first k words with blanks between them. -/
def joK (P : List ByteArray) : Nat → ByteArray
  | 0 => ⟨#[]⟩
  | 1 => P.getD 0 ⟨#[]⟩
  | k + 2 => joK P (k + 1) ++ ⟨#[32]⟩ ++ P.getD (k + 1) ⟨#[]⟩
theorem joK_succ {P : List ByteArray} {k : Nat} (h : 1 ≤ k) : joK P (k + 1) = joK P k ++ ⟨#[32]⟩ ++ P.getD k ⟨#[]⟩ := by
  obtain ⟨j, rfl⟩ : ∃ j, k = j + 1 := ⟨k - 1, by omega⟩
  rfl
theorem joK_size {P : List ByteArray} (h : ∀ x, x ∈ P → x.size ≤ 1048576) : ∀ k, (joK P k).size ≤ k * 1048577
  | 0 => by simp [joK, ByteArray.size]
  | 1 => by
    show (P.getD 0 ⟨#[]⟩).size ≤ _
    rw [List.getD_eq_getElem?_getD]
    cases hq : P[0]? with
    | none => simp [ByteArray.size]
    | some x => have := h x (List.mem_of_getElem? hq); simp; omega
  | k + 2 => by
    have ih := joK_size h (k + 1)
    have h9 : (P.getD (k + 1) ⟨#[]⟩).size ≤ 1048576 := by
      rw [List.getD_eq_getElem?_getD]
      cases hq : P[k + 1]? with
      | none => simp [ByteArray.size]
      | some x => have := h x (List.mem_of_getElem? hq); simpa using this
    have h1 : (⟨#[32]⟩ : ByteArray).size = 1 := rfl
    rw [joK_succ (by omega), ByteArray.size_append, ByteArray.size_append, h1]
    omega
theorem bsL_app (x y : ByteArray) : bsL (x ++ y) = bsL x ++ bsL y := by simp [bsL]
theorem joK_spc {P : List ByteArray} (h1 : 1 ≤ P.length) (h3 : P.length ≤ 3) : bsL (joK P P.length) = spcB (P.map bsL) := by
  match P, h1, h3 with
  | [a], _, _ => rfl
  | [a, b], _, _ =>
    show bsL (a ++ ⟨#[32]⟩ ++ b) = bsL a ++ 32 :: bsL b
    rw [bsL_app, bsL_app, List.append_assoc]; rfl
  | [a, b, c], _, _ =>
    show bsL (a ++ ⟨#[32]⟩ ++ b ++ ⟨#[32]⟩ ++ c) = bsL a ++ 32 :: (bsL b ++ 32 :: bsL c)
    rw [bsL_app, bsL_app, bsL_app, bsL_app]
    simp [bsL]
/-- The numbers of the first k words. -/
def numK (P : List ByteArray) (k : Nat) : List Int := (List.range (k - 1)).map fun i => refN (P.getD (i + 1) ⟨#[]⟩)
theorem numK_len (P : List ByteArray) (k : Nat) : (numK P k).length = k - 1 := by simp [numK]
theorem numK_succ {P : List ByteArray} {k : Nat} (h : 1 ≤ k) : numK P (k + 1) = numK P k ++ [refN (P.getD k ⟨#[]⟩)] := by
  obtain ⟨j, rfl⟩ : ∃ j, k = j + 1 := ⟨k - 1, by omega⟩
  simp [numK, List.range_succ]
theorem numK_ref {P : List ByteArray} (h1 : 1 ≤ P.length) (h3 : P.length ≤ 3) : (numK P P.length ++ [0, 0])[0]? = some (refA P 1) ∧ (numK P P.length ++ [0, 0])[1]? = some (refA P 2) := by
  match P, h1, h3 with
  | [a], _, _ => exact ⟨rfl, rfl⟩
  | [a, b], _, _ => exact ⟨rfl, rfl⟩
  | [a, b, c], _, _ => exact ⟨rfl, rfl⟩
theorem OwnI.made0 {base : Nat} {w : World} {g : Nat} (hg : g = w.heap.size) (hb : base ≤ w.heap.size) : OwnI base (w.alloc (.cells #[] 3)) (.slice (some ⟨g, 0, none⟩) 0 0) [] := by
  subst hg
  exact World.ownsRow_made _ _ _ hb (by simp) (by simp [maxLen])
theorem OwnI.slcF {base : Nat} {w : World} {v : Value} {zs : List Int} (h : OwnI base w v zs) : ∃ A c, v = .slice A zs.length c := by
  rcases h.2 with ⟨hv, hn0⟩ | ⟨g, cap, cur, hv, _⟩
  · exact ⟨none, 0, by rw [hv, hn0]⟩
  · exact ⟨_, _, hv⟩
theorem OwnI.slc {base : Nat} {w : World} {v : Value} {zs : List Int} (h : OwnI base w v zs) (hn : 0 < zs.length) : ∃ g c, v = .slice (some ⟨g, 0, none⟩) zs.length c ∧ base ≤ g ∧ g < w.heap.size ∧ ∀ j x, zs[j]? = some x → w.cell? ⟨g, j, none⟩ = some (.int .i64 x) := by
  have hl := h.lt
  rcases h.2 with ⟨hv, hn0⟩ | ⟨g, cap, cur, hv, hgb, hgh, hnc, hcm, hcs, htk⟩
  · omega
  · refine ⟨g, cap, hv, hgb, (hl g (by rw [hv]; rfl)).2, fun j x hx => ?_⟩
    subst hv
    have := World.ownsRow.cells h (g := g) rfl j (.int .i64 x) (by rw [List.getElem?_map, hx]; rfl)
    rwa [Addr.add_lit, Nat.zero_add] at this

set_option maxHeartbeats 16000000 in
set_option maxRecDepth 100000 in
theorem sPa_any (s : ByteArray) (w : World) (hs : s.size ≤ 1048576) : Calls Tryd.prog 5 #[.string s] w (RetAc (paO s) w) := by
  have hb0 : Below w.heap.size w (w.alloc (.cells #[.int .i64 0, .int .i64 0, .int .i64 0] 23)) := (Below.refl _ _).alloc (Nat.le_refl _) _
  have hR0 : Blk (w.alloc (.cells #[.int .i64 0, .int .i64 0, .int .i64 0] 23)) w.heap.size 23 #[.int .i64 0, .int .i64 0, .int .i64 0] := Blk.newAt rfl
  obtain ⟨i0, hi, iz0, iz1, iz2⟩ := info_parts infoInt
  go_enter Tryd.func5, Tryd.ntmps5
  go_wp2_with fail
  obtain ⟨w0, hw0⟩ : ∃ q, q = w.alloc (.cells #[.int .i64 0, .int .i64 0, .int .i64 0] 23) := ⟨_, rfl⟩
  rw [← hw0] at hb0 hR0 ⊢
  clear hw0
  refine (sFld_any s w0).mono ?_
  rintro e w1 ⟨v, rfl, ho, hb1⟩
  have hR1 := hR0.below hb1 hR0.lt
  have hbw1 := hb0.trans (hb1.mono hb0.size)
  have hlt := hR0.lt
  have hz1 := hb1.size
  clear hb0 hR0
  cases hB : fldB s
  · have HU := Lib.hid (pa_no (.inl hB))
    obtain ⟨r_0, r_1, r_2, r_f0, r_f1, r_f2⟩ := hR1.b3
    have hRl := hR1.lt
    have HBF := Lib.hid (fun u0 u1 u2 : Value => ((hbw1.setCell (p := ⟨w.heap.size, 0, none⟩) (Nat.le_refl _) u0).setCell (p := ⟨w.heap.size, 1, none⟩) (Nat.le_refl _) u1).setCell (p := ⟨w.heap.size, 2, none⟩) (Nat.le_refl _) u2)
    clear hbw1 ho hR1 hb1
    go_wp2
    exact bodyPost_ret (v := .tuple #[.agg #[.int .i64 0, .int .i64 0, .int .i64 0], .bool false]) (by simp [results, Tryd.results5, go_sem, r_0, r_1, r_2, hRl]) rfl ⟨by rw [HU.out]; rfl, HBF.out _ _ _⟩
  · have HO := Lib.hid (ho hB)
    clear ho
    obtain ⟨P, hP⟩ : ∃ P, fldL s = P := ⟨_, rfl⟩
    have HPA : Hid (1 ≤ P.length → P.length ≤ 3 → paO s = paF P) := Lib.hid (fun h1 h2 => by unfold paO; rw [hP, if_pos ⟨hB, h1, h2⟩])
    have HN0 : Hid (P.length = 0 ∨ 3 < P.length → paO s = none) := Lib.hid (fun h => pa_no (.inr (by rw [hP]; exact h)))
    have HWS : Hid (WordsOk (P.map bsL)) := Lib.hid (by rw [← hP]; exact fldL_ok s)
    have HWD : Hid (∀ x, x ∈ P → x.size ≤ 1048576) := Lib.hid (fun x hx => by rw [← hP] at hx; exact Nat.le_trans (fld_word hx) hs)
    rw [hP] at HO
    clear hP
    obtain ⟨A, c, hv⟩ := HO.out.slice
    subst hv
    cases hin : inB (P.length : Int) 1 3
    · have h0 : P.length = 0 ∨ 3 < P.length := by
        have := hin
        unfold inB at this
        have := of_decide_eq_false this
        omega
      have HU := Lib.hid (HN0.out h0)
      have HIN := Lib.hid hin
      obtain ⟨r_0, r_1, r_2, r_f0, r_f1, r_f2⟩ := hR1.b3
      have hRl := hR1.lt
      have HBF := Lib.hid (fun u0 u1 u2 : Value => ((hbw1.setCell (p := ⟨w.heap.size, 0, none⟩) (Nat.le_refl _) u0).setCell (p := ⟨w.heap.size, 1, none⟩) (Nat.le_refl _) u1).setCell (p := ⟨w.heap.size, 2, none⟩) (Nat.le_refl _) u2)
      clear hbw1 HO hR1 hb1 h0 hin HWS HWD HPA HN0
      generalize P.length = n at *
      go_wp2_with fail
      refine (l01In_any _ _ _ _).mono ?_
      rintro e w2 ⟨rfl, rfl⟩
      rw [HIN.out]
      go_wp2
      exact bodyPost_ret (v := .tuple #[.agg #[.int .i64 0, .int .i64 0, .int .i64 0], .bool false]) (by simp [results, Tryd.results5, go_sem, r_0, r_1, r_2, hRl]) rfl ⟨by rw [HU.out]; rfl, HBF.out _ _ _⟩
    · have hn : 1 ≤ P.length ∧ P.length ≤ 3 := by
        have := hin
        unfold inB at this
        have := of_decide_eq_true this
        omega
      obtain ⟨hn1, hn3⟩ := hn
      have HPF := Lib.hid (HPA.out hn1 hn3)
      have HIN := Lib.hid hin
      have HJS := Lib.hid (joK_spc hn1 hn3)
      have HNR := Lib.hid (numK_ref hn1 hn3)
      clear HPA HN0 hin
      rcases HO.out.2 with ⟨hv, hn0⟩ | ⟨g, cap, cur, hv, hgb, hgh, hnc, hcm, hcs, htk⟩
      · have : P.length = 0 := by simpa using hn0
        omega
      · have hca : A = some ⟨g, 0, none⟩ ∧ c = cap := by
          injection hv with q1 q2 q3
          exact ⟨q1, q3⟩
        obtain ⟨rfl, rfl⟩ := hca
        have HCL : Hid (∀ j x, P[j]? = some x → w1.cell? ⟨g, j, none⟩ = some (.string x)) := Lib.hid (fun j x hx => by
          have := World.ownsRow.cells HO.out (g := g) rfl j (.string x) (by rw [List.getElem?_map, hx]; rfl)
          rwa [Addr.add_lit, Nat.zero_add] at this)
        have hgl := (HO.out.lt g rfl).2
        clear hv htk hcs hgh hnc HO
        have hRN : w.heap.size < w1.heap.size := hR1.lt
        obtain ⟨x0, hx0⟩ : ∃ x, P[0]? = some x := ⟨_, List.getElem?_eq_getElem (by omega)⟩
        have q0 := HCL.out 0 x0 hx0
        have HX0 : Hid (joK P 1 = x0) := Lib.hid (by unfold joK; rw [List.getD_eq_getElem?_getD, hx0]; rfl)
        have HOM : Hid (OwnI w1.heap.size (w1.alloc (.cells #[] 3)) (.slice (some ⟨w1.heap.size, 0, none⟩) 0 0) []) := Lib.hid (OwnI.made0 rfl (Nat.le_refl _))
        have HBM : Hid (Below w1.heap.size w1 (w1.alloc (.cells #[] 3))) := Lib.hid ((Below.refl _ _).alloc (Nat.le_refl _) _)
        clear hx0
        go_wp2_with fail
        refine (l01In_any _ _ _ _).mono ?_
        rintro e w2 ⟨rfl, rfl⟩
        rw [HIN.out]
        go_wp2
        go_loopw [6, 7, 8] (fun t v i wr => ∃ j : Nat, 1 ≤ j ∧ j ≤ P.length ∧ i = .int .i64 j ∧ t = .string (joK P j) ∧ OwnI w1.heap.size wr v (numK P j) ∧ Below w1.heap.size w1 wr) (fun _ _ i _ => P.length - (intOf i).toNat)
        case atStart => exact ⟨1, Nat.le_refl _, hn1, rfl, by rw [HX0.out], HOM.out, HBM.out⟩
        case round =>
          clear HOM HBM HX0 q0
          obtain ⟨j, hj1, hj, rfl, rfl, ho, hbl⟩ := hrel
          have hsz := hbl.size
          by_cases hlt : j < P.length
          · have c1 : (j : Int) < (P.length : Int) := by omega
            obtain ⟨x, hx⟩ : ∃ x, P[j]? = some x := ⟨_, List.getElem?_eq_getElem (by omega)⟩
            have hgx : P.getD j ⟨#[]⟩ = x := by rw [List.getD_eq_getElem?_getD, hx]; rfl
            have q1 : wr.cell? ⟨g, j, none⟩ = some (.string x) := (hbl.cell (p := ⟨g, j, none⟩) hgl).trans (HCL.out j x hx)
            have HJ : Hid (joK P (j + 1) = joK P j ++ ⟨#[32]⟩ ++ x) := Lib.hid (by rw [joK_succ hj1, hgx])
            have HK : Hid (numK P (j + 1) = numK P j ++ [refN x]) := Lib.hid (by rw [numK_succ hj1, hgx])
            have HKL := Lib.hid (numK_len P j)
            have hxs := HWD.out x (List.mem_of_getElem? hx)
            have HC := Lib.hid (sNum40_any x wr hxs)
            have hjz := joK_size HWD.out j
            have z1 : ((joK P j).size : Int) + 1 ≤ 9223372036854775807 := by omega
            have z2 : ((joK P j).size : Int) + 1 + (x.size : Int) ≤ 9223372036854775807 := by omega
            clear hx hgx hjz
            generalize joK P j = J at *
            generalize numK P j = K at *
            generalize refN x = rx at *
            go_wp2_with fail
            refine HC.out.mono ?_
            rintro e w3 ⟨rfl, hb3⟩
            have ho3 := ho.kept hb3
            have hbl3 := hbl.trans (hb3.mono hbl.size)
            have hz3 := hbl3.size
            clear ho hbl hb3 q1 HC
            obtain ⟨A1, c9, hv1⟩ := OwnI.slcF ho3
            subst hv1
            go_wp2_with (at_builtin; refine wpList_append_own _ rfl _ _ 40 rfl w1.heap.size 3 i0 (.int .i64 0) 1 8 Tryd.underlying40 hi iz0 iz1 iz2 rfl (by decide) _ _ _ rfl (World.ownsRow.alloc ho3 _) ⟨w3.heap.size, 0, none⟩ 1 1 [.int .i64 _] rfl rfl (cell_one_new _ _ _) (by intro u hu; simp at hu; subst hu; rfl) (by rw [HKL.out]; unfold maxLen; omega) (by rw [HKL.out]; omega) (by simp; omega) ?_)
            intro v4 w4 hown4 hg4 _
            have hbl4 : Below w1.heap.size w1 w4 := (hbl3.alloc hz3 _).grown hg4 (by simp; omega) (fun k hk => by have := (ho3.lt k hk).1; omega)
            have HO4 := Lib.hid (OwnI.snoc hown4)
            have HB4 := Lib.hid hbl4
            clear hown4 hg4 hbl4 hbl3 ho3
            go_wp2
            go_roundw
            case rel => exact ⟨j + 1, by omega, by omega, by go_num, by rw [HJ.out], by rw [HK.out]; exact HO4.out, HB4.out⟩
            case measure => simp [intOf]; omega
          · have hjn : j = P.length := by omega
            subst hjn
            have c1 : ¬ (P.length : Int) < (P.length : Int) := by omega
            have HKL := Lib.hid (numK_len P P.length)
            obtain ⟨J, hJ⟩ : ∃ J, joK P P.length = J := ⟨_, rfl⟩
            rw [hJ] at HJS ⊢
            clear hJ
            obtain ⟨K, hK⟩ : ∃ K, numK P P.length = K := ⟨_, rfl⟩
            rw [hK] at HNR ho HKL
            clear hK
            obtain ⟨A1, c9, hv1⟩ := OwnI.slcF ho
            subst hv1
            go_wp2_with (at_builtin; refine wpList_append_own _ rfl _ _ 40 rfl w1.heap.size 3 i0 (.int .i64 0) 1 8 Tryd.underlying40 hi iz0 iz1 iz2 rfl (by decide) _ _ _ rfl (World.ownsRow.alloc ho _) ⟨wr.heap.size, 0, none⟩ 2 2 [.int .i64 0, .int .i64 0] rfl rfl (cell_two_new _ _ _ _) (by intro u hu; simp at hu; subst hu; rfl) (by rw [HKL.out]; unfold maxLen; omega) (by rw [HKL.out]; omega) (by simp; omega) ?_)
            intro v4 w4 hown4 hg4 _
            have hbl4 : Below w1.heap.size w1 w4 := (hbl.alloc hsz _).grown hg4 (by simp; omega) (fun k hk => by have := (ho.lt k hk).1; omega)
            have hO4 : OwnI w1.heap.size w4 v4 (K ++ [0, 0]) := by
              unfold OwnI
              rw [List.length_append, List.map_append]
              exact hown4
            have hbw4 := hbw1.trans (hbl4.mono hbw1.size)
            have hR4 := hR1.below hbl4 hR1.lt
            obtain ⟨gb, cb, hv4, hgb1, hgb2, hcel⟩ := hO4.slc (by simp)
            subst hv4
            have d0 := hcel 0 _ HNR.out.1
            have d1 := hcel 1 _ HNR.out.2
            have HHIT : Hid (∀ k : Int, (actB k (refA P 1) (refA P 2) = true ∧ spcB (P.map bsL) = bsL (actS k (refA P 1) (refA P 2))) → paO s = some (k, refA P 1, refA P 2)) := Lib.hid (fun k h => by rw [HPF.out]; exact ref_hit HWS.out h.1 h.2)
            have HMIS : Hid ((∀ k : Int, 1 ≤ k → k ≤ 9 → ¬ (actB k (refA P 1) (refA P 2) = true ∧ spcB (P.map bsL) = bsL (actS k (refA P 1) (refA P 2)))) → paO s = none) := Lib.hid (fun h => by rw [HPF.out]; exact ref_miss h)
            rw [← HJS.out] at HHIT HMIS
            obtain ⟨L, hL⟩ : ∃ L, (K ++ [0, 0]).length = L := ⟨_, rfl⟩
            have hL2 : 2 ≤ L := by rw [← hL]; simp
            rw [hL]
            generalize refA P 1 = a at *
            generalize refA P 2 = b at *
            have hz4 := hbl4.size
            clear hown4 hg4 hcel hO4 hbl ho hsz HNR HJS hL hbl4 HKL c1
            obtain ⟨wo, hwo⟩ : ∃ u, u = w4 := ⟨_, rfl⟩
            subst hwo
            go_wp2
            go_loopw [9] (fun i wr => ∃ j : Nat, 1 ≤ j ∧ j ≤ 10 ∧ i = .int .i64 j ∧ Hid (∀ k : Int, 1 ≤ k → k < j → ¬ (actB k a b = true ∧ bsL J = bsL (actS k a b))) ∧ Below wo.heap.size wo wr) (fun i _ => 10 - (intOf i).toNat)
            case atStart => exact ⟨1, by omega, by omega, rfl, Lib.hid (fun k h1 h2 => by omega), Below.refl _ _⟩
            case round =>
              obtain ⟨j, hj1, hj10, rfl, hno, hbl2⟩ := hrel
              have hsz2 := hbl2.size
              by_cases hlt : j ≤ 9
              · have c1 : (j : Int) ≤ 9 := by omega
                have e0 : wr.cell? ⟨gb, 0, none⟩ = some (.int .i64 a) := (hbl2.cell (p := ⟨gb, 0, none⟩) hgb2).trans d0
                have e1 : wr.cell? ⟨gb, 1, none⟩ = some (.int .i64 b) := (hbl2.cell (p := ⟨gb, 1, none⟩) hgb2).trans d1
                have hgb5 : gb < wr.heap.size := by omega
                have l0 : (0 : Int) < (L : Int) := by omega
                have l1 : (1 : Int) < (L : Int) := by omega
                clear d0 d1
                go_wp2_with fail
                go_cut [10] (fun sl wx => ∃ y : Nat, sl = .pointer (some ⟨y, 0, none⟩) ∧ Blk wx y 23 #[.int .i64 (j : Int), .int .i64 a, .int .i64 b] ∧ Below wr.heap.size wr wx)
                case first =>
                  go_region
                  all_goals go_wp2
                  all_goals go_meet
                  all_goals exact ⟨_, rfl, (Blk.newAt rfl).drew, ((Below.refl _ _).alloc (Nat.le_refl _) _).drew⟩
                case rest =>
                  obtain ⟨y, rfl, hY, hby⟩ := hcut
                  obtain ⟨w5, hw5⟩ : ∃ u : World, u = wc := ⟨_, rfl⟩
                  subst hw5
                  have hbl5 := hbl2.trans (hby.mono hbl2.size)
                  have hR6 := hR4.below hbl5 hR4.lt
                  clear e0 e1 hgb5 hby
                  obtain ⟨y_0, y_1, y_2⟩ := hY.c3
                  have ylt := hY.lt
                  go_wp2_with fail
                  refine (sFact_any (j : Int) a b w5).mono ?_
                  rintro e w6 ⟨rfl, hb6⟩
                  have hbl6 := hbl5.trans (hb6.mono hbl5.size)
                  have hbw6 := hbw4.trans (hbl6.mono hbw4.size)
                  have hR7 := hR6.below hb6 hR6.lt
                  have hY6 := hY.below hb6 hY.lt
                  clear y_0 y_1 y_2 ylt hY hR6 hbl5 hbl2 hb6
                  have HHJ := Lib.hid (HHIT.out j)
                  have HNX : Hid (¬ (actB (j : Int) a b = true ∧ bsL J = bsL (actS (j : Int) a b)) → ∀ k : Int, 1 ≤ k → k < ((j + 1 : Nat) : Int) → ¬ (actB k a b = true ∧ bsL J = bsL (actS k a b))) := Lib.hid (fun h k h1 h2 hc => by
                    by_cases h9 : k = j
                    · subst h9; exact h hc
                    · exact hno.out k h1 (by omega) hc)
                  have HB6 := Lib.hid hbl6
                  obtain ⟨T, hT⟩ : ∃ T, actS (j : Int) a b = T := ⟨_, rfl⟩
                  rw [hT] at HHJ HNX ⊢
                  clear hT
                  have HJ3 : Hid (((T.toList == J.toList) = true) ↔ bsL J = bsL T) := Lib.hid (by rw [beq_iff_eq, ByteArray.toList_eq, ByteArray.toList_eq]; exact eq_comm)
                  cases hac : actB (j : Int) a b
                  · have HN := Lib.hid (HNX.out (fun h => by rw [hac] at h; cases h.1))
                    clear HNX HHJ HJ3 hac hR7 hY6 hbl6 hbw6 hR4 hbw4
                    go_wp2
                    go_roundw
                    case rel => exact ⟨j + 1, by omega, by omega, by go_num, HN, HB6.out⟩
                    case measure => simp [intOf]; omega
                  · obtain ⟨y_0, y_1, y_2⟩ := hY6.c3
                    have ylt := hY6.lt
                    by_cases hq : bsL J = bsL T
                    · have HU := Lib.hid (HHJ.out ⟨hac, hq⟩)
                      have e3 : (T.toList == J.toList) = true := HJ3.out.2 hq
                      obtain ⟨r_0, r_1, r_2, r_f0, r_f1, r_f2⟩ := hR7.b3
                      have hRl := hR7.lt
                      have HBF := Lib.hid (fun u0 u1 u2 : Value => ((hbw6.setCell (p := ⟨w.heap.size, 0, none⟩) (Nat.le_refl _) u0).setCell (p := ⟨w.heap.size, 1, none⟩) (Nat.le_refl _) u1).setCell (p := ⟨w.heap.size, 2, none⟩) (Nat.le_refl _) u2)
                      clear hq hac HNX HHJ HJ3 hR7 hY6 hbl6 hbw6 hR4 hbw4
                      go_wp2
                      exact bodyPost_ret (v := .tuple #[.agg #[.int .i64 (j : Int), .int .i64 a, .int .i64 b], .bool true]) (by simp [results, Tryd.results5, go_sem, r_0, r_1, r_2, hRl]) rfl ⟨by rw [HU.out]; rfl, HBF.out _ _ _⟩
                    · have e3 : (T.toList == J.toList) = false := by
                        cases h9 : (T.toList == J.toList)
                        · rfl
                        · exact absurd (HJ3.out.1 h9) hq
                      have HN := Lib.hid (HNX.out (fun h => hq h.2))
                      clear hq hac HNX HHJ HJ3 hR7 hY6 hbl6 hbw6 hR4 hbw4
                      go_wp2
                      go_roundw
                      case rel => exact ⟨j + 1, by omega, by omega, by go_num, HN, HB6.out⟩
                      case measure => simp [intOf]; omega
              · have c1 : ¬ (j : Int) ≤ 9 := by omega
                have HU := Lib.hid (HMIS.out (fun k h1 h2 => hno.out k h1 (by omega)))
                have hR6 := hR4.below hbl2 hR4.lt
                have hbw6 := hbw4.trans (hbl2.mono hbw4.size)
                obtain ⟨r_0, r_1, r_2, r_f0, r_f1, r_f2⟩ := hR6.b3
                have hRl := hR6.lt
                have HBF := Lib.hid (fun u0 u1 u2 : Value => ((hbw6.setCell (p := ⟨w.heap.size, 0, none⟩) (Nat.le_refl _) u0).setCell (p := ⟨w.heap.size, 1, none⟩) (Nat.le_refl _) u1).setCell (p := ⟨w.heap.size, 2, none⟩) (Nat.le_refl _) u2)
                clear hR6 hbw6 hbw4 hR4 hbl2 hno
                go_wp2
                exact bodyPost_ret (v := .tuple #[.agg #[.int .i64 0, .int .i64 0, .int .i64 0], .bool false]) (by simp [results, Tryd.results5, go_sem, r_0, r_1, r_2, hRl]) rfl ⟨by rw [HU.out]; rfl, HBF.out _ _ _⟩

end Go.Proofs.YtbennlajjfkdpaaDoor
