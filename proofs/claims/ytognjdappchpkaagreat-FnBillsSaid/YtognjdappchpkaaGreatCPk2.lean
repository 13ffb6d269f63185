/-
  FnBills: Bills add up, and instalments make the whole. No condition.
-/
import Derived.Test.YtognjdappchpkaaGreatCPk1
import Derived.Test.YtognjdappchpkaaGreatBase
import Derived.Test.YtognjdappchpkaaGreatRows
import Derived.ProofKit
import Derived.OpenShut
import Derived.Lib.SmallJoins
import Derived.Carry
import Derived.ChangeSlices
set_option linter.unusedSimpArgs false
set_option linter.unusedVariables false
namespace Go.Proofs.YtognjdappchpkaaGreat
open Go.RowKit

theorem deg_joint {ns ls : List Pr} (hw : winB ns ls = true) {k : Nat} (hk : k < ns.length) : ∃ n : Nat, degI ns ls k = (n : Int) ∧ n ≤ 20 ∧ jointsN ls (k + 1) = jointsN ls k + (if 2 ≤ n then 1 else 0) := by
  refine ⟨(atN ls k ls.length).length, ?_, ?_, ?_⟩
  · unfold degI hasN
    rw [hw, inB_true.2 (by omega)]
    rfl
  · have := atN_len ls k ls.length
    have h20 := (winB_true.1 hw).2.2.1
    omega
  · rw [jointsN]
    split <;> rfl

theorem instF_getD (t n : Int) (k i : Nat) (h : i < k) : (instF t n k).getD i 0 = partF t n i := by
  unfold instF
  simp [List.getD, h]
theorem iInst_at (t : Int) (m : Nat) (w : World) (h0 : 0 ≤ t) (h1 : t ≤ 48000000) (m1 : 1 ≤ m) (m2 : m ≤ 24) :
    Calls Tryz.prog 28 #[.int .i64 t, .int .i64 m] w fun e w' => ∃ b off c, e = .returned (.slice (some ⟨b, off, none⟩) m c) ∧ b < w'.heap.size ∧ (∀ i, i < m → w'.cell? ⟨b, off + i, none⟩ = some (.int .i64 (partF t m i))) ∧ Below w.heap.size w w' := by
  refine (iInst_any t m w).mono ?_
  rintro e w' ⟨v, rfl, ho, hb⟩
  have hr : instAll t m = instF t m m := by
    unfold instAll
    rw [inB_true.2 (by omega), inB_true.2 (by omega)]
    rfl
  rw [hr] at ho
  obtain ⟨A, c, rfl, _, _, hcell⟩ := ho.reads.form
  rw [instF_length] at hcell
  obtain ⟨b, off, rfl, hlt, hc⟩ := hcell (by omega)
  refine ⟨b, off, c, by rw [instF_length], hlt, fun i hi => ?_, hb⟩
  rw [hc i hi, instF_getD _ _ _ _ hi]

theorem iCheap_at (vn vl : Value) (ns ls : List Pr) (a b c d a' b' c' d' x : Int) (w : World) (hn : RP w vn ns) (hl : RP w vl ls) (hx : cheapI (billI ns ls a b c d []) (billI ns ls a' b' c' d' []) = x) :
    Calls Tryz.prog 15 #[.agg #[vn, vl], .agg #[.int .i64 a, .int .i64 b, .int .i64 c, .int .i64 d], .agg #[.int .i64 a', .int .i64 b', .int .i64 c', .int .i64 d']] w fun e w' => e = .returned (.int .i64 x) ∧ Below w.heap.size w w' := by
  subst hx; exact iCheap_any vn vl ns ls a b c d a' b' c' d' w hn hl

theorem btoi_t (w : World) : Calls Tryz.prog 25 #[.bool true] w fun e w' => e = .returned (.int .i64 1) ∧ w = w' := btoi_any true w
theorem btoi_f (w : World) : Calls Tryz.prog 25 #[.bool false] w fun e w' => e = .returned (.int .i64 0) ∧ w = w' := btoi_any false w
theorem sDegree_at (vn vl : Value) (ns ls : List Pr) (k : Int) (n : Int) (w : World) (hn : RP w vn ns) (hl : RP w vl ls) (hk : degI ns ls k = n) :
    Calls Tryz.prog 26 #[.agg #[vn, vl], .int .i64 k] w fun e w' => e = .returned (.int .i64 n) ∧ Below w.heap.size w w' := by
  subst hk; exact sDegree_any vn vl ns ls k w hn hl

set_option maxHeartbeats 16000000 in
set_option maxRecDepth 100000 in
theorem billsLaw_any (v : Value) (zs : List Int) (w : World) (h : RB w v zs) :
    Calls Tryz.prog 5 #[v] w fun e w' => e = .returned (.bool true) ∧ Below w.heap.size w w' := by
  cases hbg : decide ((1048576 : Int) < zs.length)
  case true =>
    go_enter Tryz.func5, Tryz.ntmps5
    go_wp2_with fail
    refine (big_at v zs _ _ h hbg).mono ?_
    rintro e w' ⟨rfl, rfl⟩
    go_wp2
    go_ret
    exact ⟨rfl, by (repeat' (first | (with_reducible exact Below.refl _ _) | (with_reducible assumption) | (with_reducible refine Below.drew ?_) | (with_reducible refine below_drewN ?_ _) | (with_reducible refine Below.alloc ?_ ?_ _) | (with_reducible refine Below.setCell ?_ ?_ _) | (with_reducible refine Below.step (by assumption) ?_ ?_))); all_goals (first | omega | (simp; done) | (simp; omega))⟩
  have hle : zs.length ≤ 1048576 := by
    have := of_decide_eq_false hbg
    omega
  have HRB := Lib.hid h
  have HBG := Lib.hid hbg
  clear hbg
  go_enter Tryz.func5, Tryz.ntmps5
  go_wp2_with fail
  refine (big_at v zs _ _ h HBG.out).mono ?_
  rintro e w' ⟨rfl, rfl⟩
  clear h
  go_wp2_with fail
  refine (drawWh_any v zs _ HRB.out hle).mono ?_
  rintro e w1 ⟨ns, ls, An, cn, Al, cl, rfl, hwh, ho1, hb1⟩
  have hsA : Below w1.heap.size w1 (w1.alloc (.cells #[.slice An ns.length cn, .slice Al ls.length cl] 34)) := by (repeat' (first | (with_reducible exact Below.refl _ _) | (with_reducible assumption) | (with_reducible refine Below.drew ?_) | (with_reducible refine below_drewN ?_ _) | (with_reducible refine Below.alloc ?_ ?_ _) | (with_reducible refine Below.setCell ?_ ?_ _) | (with_reducible refine Below.step (by assumption) ?_ ?_))); all_goals (first | omega | (simp; done) | (simp; omega))
  have hbA := hb1.trans (hsA.mono hb1.size)
  have rnA := ho1.1.reads.below hsA
  have rlA := ho1.2.1.reads.below hsA
  have hXA : Blk (w1.alloc (.cells #[.slice An ns.length cn, .slice Al ls.length cl] 34)) w1.heap.size 34 #[.slice An ns.length cn, .slice Al ls.length cl] := Blk.newAt rfl
  have lXA := hXA.lt
  clear ho1 hb1
  go_wp2_with fail
  refine (drawTar_any v zs _ (HRB.out.below hbA) hle).mono ?_
  rintro e w2 ⟨a, b, c, d, rfl, ha, hb, hc, hd, hs2⟩
  have hX2 := hXA.below hs2 lXA
  have rn2 := rnA.below hs2
  have rl2 := rlA.below hs2
  have hb2 := hbA.trans (hs2.mono hbA.size)
  clear hXA rnA rlA hbA hs2 lXA hsA
  generalize w1.heap.size = X at *
  have hsB : Below w2.heap.size w2 (w2.alloc (.cells #[.int .i64 a, .int .i64 b, .int .i64 c, .int .i64 d] 36)) := by (repeat' (first | (with_reducible exact Below.refl _ _) | (with_reducible assumption) | (with_reducible refine Below.drew ?_) | (with_reducible refine below_drewN ?_ _) | (with_reducible refine Below.alloc ?_ ?_ _) | (with_reducible refine Below.setCell ?_ ?_ _) | (with_reducible refine Below.step (by assumption) ?_ ?_))); all_goals (first | omega | (simp; done) | (simp; omega))
  obtain ⟨w3, hw3⟩ : ∃ u, u = w2.alloc (.cells #[.int .i64 a, .int .i64 b, .int .i64 c, .int .i64 d] 36) := ⟨_, rfl⟩
  have hT3 : Blk w3 w2.heap.size 36 #[.int .i64 a, .int .i64 b, .int .i64 c, .int .i64 d] := hw3 ▸ Blk.newAt rfl
  have hs3 : Below w2.heap.size w2 w3 := hw3 ▸ hsB
  have hX3 := hX2.below hs3 hX2.lt
  have rn3 := rn2.below hs3
  have rl3 := rl2.below hs3
  have hb3 := hb2.trans (hs3.mono hb2.size)
  -- plain facts
  obtain ⟨ht1, ht2⟩ := d20_tar ha hb hc hd
  have hwin := whole_win hwh
  have HWB := Lib.hid (winB_true.2 hwin.1)
  have hn12 := hwin.1.2.1
  obtain ⟨N0, N1⟩ := billN_bd (d := d) hwh ha hb hc hd
  have HB0 := Lib.hid (bill_nil (ns := ns) (ls := ls) (a := a) (b := b) (c := c) (d := d) hwh ht1)
  have HB2 := Lib.hid (bill_twice (ns := ns) (ls := ls) (a := a) (b := b) (c := c) (d := d) hwh ht2)
  have HBA := Lib.hid (bill_all (ns := ns) (ls := ls) (a := a) (b := b) (c := c) (d := d) hwh ht1)
  have tb2 := areaW_bd ns ls (outerW ns ls)
  rw [show areaW ns ls (outerW ns ls) = totalW ns ls from rfl] at tb2
  have lb2 := lenW_bd ns ls
  have jb2 := jointsI_bd ns ls
  have HJN : Hid (jointsI ns ls = (jointsN ls ns.length : Int)) := Lib.hid (by unfold jointsI; rw [HWB.out]; rfl)
  obtain ⟨⟨a0, a1⟩, ⟨b0, b1⟩, ⟨c0, c1⟩, ⟨d0, d1⟩⟩ := And.intro ha (And.intro hb (And.intro hc hd))
  have HT1 := Lib.hid ht1
  have HSB := Lib.hid (sumA_bd ns ls (panK ns ls (facesW ns ls).length))
  have HAB := Lib.hid (fun f => areaW_bd ns ls f)
  have hpl := panK_len ns ls (facesW ns ls).length
  have hfl := facesW_len ns ls
  have HSS : Hid (∀ k, sumA ns ls (panK ns ls (facesW ns ls).length) (k + 1) = sumA ns ls (panK ns ls (facesW ns ls).length) k + areaW ns ls ((panK ns ls (facesW ns ls).length).getD k 0)) := Lib.hid (fun _ => rfl)
  have HPAN := Lib.hid (fun (u : World) (h1 : RP u (.slice An ns.length cn) ns) (h2 : RP u (.slice Al ls.length cl) ls) => sPanes_any _ _ ns ls u h1 h2)
  have HIB := Lib.hid (fun (u : World) (vp : Value) (a b c d : Int) (xs : List Int) (x : Int) (h1 : RP u (.slice An ns.length cn) ns) (h2 : RP u (.slice Al ls.length cl) ls) (h3 : RI u vp xs) (hx : billI ns ls a b c d xs = x) => hx ▸ iBill_any _ _ vp ns ls a b c d xs u h1 h2 h3)
  have HDJ := Lib.hid (fun k hk => deg_joint (ls := ls) HWB.out (k := k) hk)
  have HNE : Hid (billN ns ls a b c = a * totalW ns ls + b * lenW ns ls + c * jointsI ns ls) := Lib.hid rfl
  generalize panK ns ls (facesW ns ls).length = G at *
  obtain ⟨TT, hTT⟩ : ∃ t, totalW ns ls = t := ⟨_, rfl⟩
  obtain ⟨LL, hLL⟩ : ∃ t, lenW ns ls = t := ⟨_, rfl⟩
  obtain ⟨JJ, hJJ⟩ : ∃ t, jointsI ns ls = t := ⟨_, rfl⟩
  rw [hTT] at tb2 HNE
  rw [hLL] at lb2 HNE
  rw [hJJ] at jb2 HNE HJN
  have HTT := Lib.hid hTT
  have HLL := Lib.hid hLL
  have HJJ := Lib.hid hJJ
  have HJ2 : Hid (Hid (jointsI ns ls = JJ)) := Lib.hid HJJ
  obtain ⟨m1, m2⟩ := mulT (a := a) (x := TT) (U := 16000) a0 (by omega) (by omega) (by omega)
  obtain ⟨m3, m4⟩ := mulT (a := b) (x := LL) (U := 16000) b0 (by omega) (by omega) (by omega)
  obtain ⟨m5, m6⟩ := mulT (a := c) (x := JJ) (U := 16000) c0 (by omega) (by omega) (by omega)
  rw [HNE.out] at HB0 HB2 HBA N0 N1
  clear ht1 ht2 hwh ha hb hc hd hTT hLL hJJ
  have lX3 := hX3.lt
  have lT3 := hT3.lt
  go_upto_region 5 with (fail)
  rw [← hw3]
  clear hw3 hX2 rn2 rl2 hb2 hs3 hsB
  generalize w2.heap.size = TX at *
  (have x_0 := hX3.cell 0); (have x_1 := hX3.cell 1); simp only [List.getElem?_toArray, List.getElem?_cons_succ, List.getElem?_cons_zero] at x_0 x_1
  (have y_0 := hT3.cell 0); (have y_1 := hT3.cell 1); (have y_2 := hT3.cell 2); (have y_3 := hT3.cell 3); simp only [List.getElem?_toArray, List.getElem?_cons_succ, List.getElem?_cons_zero] at y_0 y_1 y_2 y_3
  go_wp2_with fail
  refine (HIB.out _ _ _ _ _ _ [] _ rn3 rl3 (RS.nil _ 1) HB0.out).mono ?_
  rintro e w4 ⟨rfl, hs4⟩
  have hX4 := hX3.below hs4 hX3.lt
  have hT4 := hT3.below hs4 hT3.lt
  have rn4 := rn3.below hs4
  have rl4 := rl3.below hs4
  have hb4 := hb3.trans (hs4.mono hb3.size)
  clear hX3 hT3 rn3 rl3 hb3 lX3 lT3 x_0 x_1 y_0 y_1 y_2 y_3
  (have x_0 := hX4.cell 0); (have x_1 := hX4.cell 1); simp only [List.getElem?_toArray, List.getElem?_cons_succ, List.getElem?_cons_zero] at x_0 x_1
  (have y_0 := hT4.cell 0); (have y_1 := hT4.cell 1); (have y_2 := hT4.cell 2); (have y_3 := hT4.cell 3); simp only [List.getElem?_toArray, List.getElem?_cons_succ, List.getElem?_cons_zero] at y_0 y_1 y_2 y_3
  have lX4 := hX4.lt
  have lT4 := hT4.lt
  go_wp2_with fail
  refine (HPAN.out _ rn4 rl4).mono ?_
  rintro e w5 ⟨v5, rfl, ho5, hs5⟩
  have hX5 := hX4.below hs5 hX4.lt
  have hT5 := hT4.below hs5 hT4.lt
  have rn5 := rn4.below hs5
  have rl5 := rl4.below hs5
  have hb5 := hb4.trans (hs5.mono hb4.size)
  clear hX4 hT4 rn4 rl4 hb4 lX4 lT4 x_0 x_1 y_0 y_1 y_2 y_3
  (have x_0 := hX5.cell 0); (have x_1 := hX5.cell 1); simp only [List.getElem?_toArray, List.getElem?_cons_succ, List.getElem?_cons_zero] at x_0 x_1
  (have y_0 := hT5.cell 0); (have y_1 := hT5.cell 1); (have y_2 := hT5.cell 2); (have y_3 := hT5.cell 3); simp only [List.getElem?_toArray, List.getElem?_cons_succ, List.getElem?_cons_zero] at y_0 y_1 y_2 y_3
  have lX5 := hX5.lt
  have lT5 := hT5.lt
  have rg5 := ho5.reads
  clear ho5 HPAN
  obtain ⟨w6, hw6⟩ : ∃ u, u = w5.alloc (.cells #[.int .i64 (2 * a), .int .i64 (2 * b), .int .i64 (2 * c), .int .i64 (2 * d)] 36) := ⟨_, rfl⟩
  have hQ6 : Blk w6 w5.heap.size 36 #[.int .i64 (2 * a), .int .i64 (2 * b), .int .i64 (2 * c), .int .i64 (2 * d)] := hw6 ▸ Blk.newAt rfl
  have hs6 : Below w5.heap.size w5 w6 := hw6 ▸ (Below.refl _ _).alloc (Nat.le_refl _) _
  have hX6 := hX5.below hs6 lX5
  have hT6 := hT5.below hs6 lT5
  have rn6 := rn5.below hs6
  have rl6 := rl5.below hs6
  have rg6 := rg5.below hs6
  have hb6 := hb5.trans (hs6.mono hb5.size)
  go_upto_region 8 with (fail)
  rw [← hw6]
  clear hw6 hX5 hT5 rn5 rl5 rg5 hb5 lX5 lT5 x_0 x_1 y_0 y_1 y_2 y_3
  generalize w5.heap.size = QX at *
  (have x_0 := hX6.cell 0); (have x_1 := hX6.cell 1); simp only [List.getElem?_toArray, List.getElem?_cons_succ, List.getElem?_cons_zero] at x_0 x_1
  (have y_0 := hT6.cell 0); (have y_1 := hT6.cell 1); (have y_2 := hT6.cell 2); (have y_3 := hT6.cell 3); simp only [List.getElem?_toArray, List.getElem?_cons_succ, List.getElem?_cons_zero] at y_0 y_1 y_2 y_3
  (have z_0 := hQ6.cell 0); (have z_1 := hQ6.cell 1); (have z_2 := hQ6.cell 2); (have z_3 := hQ6.cell 3); simp only [List.getElem?_toArray, List.getElem?_cons_succ, List.getElem?_cons_zero] at z_0 z_1 z_2 z_3
  have lX6 := hX6.lt
  have lT6 := hT6.lt
  have lQ6 := hQ6.lt
  obtain ⟨A5, c5, rfl, hc5, hm5, hcell5⟩ := rg6.form
  have HCP := Lib.hid hcell5
  clear hcell5
  go_wp2_with fail
  refine (HIB.out _ _ _ _ _ _ G _ rn6 rl6 rg6 HBA.out).mono ?_
  rintro e w7 ⟨rfl, hs7⟩
  have rg7 := rg6.below hs7
  have HCP7 : Hid (0 < G.length → ∃ b off, A5 = some ⟨b, off, none⟩ ∧ b < w7.heap.size ∧ ∀ i, i < G.length → w7.cell? ⟨b, off + i, none⟩ = some (.int .i64 (G.getD i 0))) := Lib.hid (fun h0 => by obtain ⟨b, off, h1, h2, h3⟩ := HCP.out h0; exact ⟨b, off, h1, Nat.lt_of_lt_of_le h2 hs7.size, fun i hi => (hs7.cell (p := ⟨b, off + i, none⟩) h2).trans (h3 i hi)⟩)
  clear HCP
  have hX7 := hX6.below hs7 hX6.lt
  have hT7 := hT6.below hs7 hT6.lt
  have hQ7 := hQ6.below hs7 hQ6.lt
  have rn7 := rn6.below hs7
  have rl7 := rl6.below hs7
  have hb7 := hb6.trans (hs7.mono hb6.size)
  clear hX6 hT6 rn6 rl6 hb6 lX6 lT6 hQ6 lQ6 x_0 x_1 y_0 y_1 y_2 y_3 z_0 z_1 z_2 z_3
  (have x_0 := hX7.cell 0); (have x_1 := hX7.cell 1); simp only [List.getElem?_toArray, List.getElem?_cons_succ, List.getElem?_cons_zero] at x_0 x_1
  (have y_0 := hT7.cell 0); (have y_1 := hT7.cell 1); (have y_2 := hT7.cell 2); (have y_3 := hT7.cell 3); simp only [List.getElem?_toArray, List.getElem?_cons_succ, List.getElem?_cons_zero] at y_0 y_1 y_2 y_3
  (have z_0 := hQ7.cell 0); (have z_1 := hQ7.cell 1); (have z_2 := hQ7.cell 2); (have z_3 := hQ7.cell 3); simp only [List.getElem?_toArray, List.getElem?_cons_succ, List.getElem?_cons_zero] at z_0 z_1 z_2 z_3
  have lX7 := hX7.lt
  have lT7 := hT7.lt
  have lQ7 := hQ7.lt
  clear rg6
  have HB7 := Lib.hid hb7
  clear hb7
  have sb := HSB.out G.length
  have sb1 : sumA ns ls G G.length ≤ 640000 := by omega
  have sb0 : -640000 ≤ sumA ns ls G G.length := by omega
  go_wp2
  go_loopw [9, 10] (fun n x wr => ∃ k : Nat, k ≤ G.length ∧ x = .int .i64 k ∧ n = .int .i64 (sumA ns ls G k) ∧ Blk wr X 34 #[.slice An ns.length cn, .slice Al ls.length cl] ∧ Blk wr TX 36 #[.int .i64 a, .int .i64 b, .int .i64 c, .int .i64 d] ∧ Blk wr QX 36 #[.int .i64 (2 * a), .int .i64 (2 * b), .int .i64 (2 * c), .int .i64 (2 * d)] ∧ Below w7.heap.size w7 wr) (fun _ x _ => G.length - (intOf x).toNat)
  case atStart => exact ⟨0, Nat.zero_le _, rfl, rfl, hX7, hT7, hQ7, Below.refl _ _⟩
  case round =>
    clear x_0 x_1 y_0 y_1 y_2 y_3 z_0 z_1 z_2 z_3
    obtain ⟨k, hk, rfl, rfl, hX8, hT8, hQ8, hs8⟩ := hrel
    have rn8 := rn7.below hs8
    have rl8 := rl7.below hs8
    (have x_0 := hX8.cell 0); (have x_1 := hX8.cell 1); simp only [List.getElem?_toArray, List.getElem?_cons_succ, List.getElem?_cons_zero] at x_0 x_1
    (have y_0 := hT8.cell 0); (have y_1 := hT8.cell 1); (have y_2 := hT8.cell 2); (have y_3 := hT8.cell 3); simp only [List.getElem?_toArray, List.getElem?_cons_succ, List.getElem?_cons_zero] at y_0 y_1 y_2 y_3
    (have z_0 := hQ8.cell 0); (have z_1 := hQ8.cell 1); (have z_2 := hQ8.cell 2); (have z_3 := hQ8.cell 3); simp only [List.getElem?_toArray, List.getElem?_cons_succ, List.getElem?_cons_zero] at z_0 z_1 z_2 z_3
    have lX8 := hX8.lt
    have lT8 := hT8.lt
    have lQ8 := hQ8.lt
    by_cases hlt : k < G.length
    · have hlt1 : (k : Int) < (G.length : Int) := by omega
      have ik1 : (0 : Int) ≤ (k : Int) := by omega
      obtain ⟨b4, off4, rfl, hb4, hcl4⟩ := HCP7.out (by omega)
      have hx := (hs8.cell (p := ⟨b4, off4 + k, none⟩) hb4).trans (hcl4 k hlt)
      have hb4' := Nat.lt_of_lt_of_le hb4 hs8.size
      have HS := Lib.hid (HSS.out k)
      have sbk := HSB.out k
      have ab := HAB.out (G.getD k 0)
      generalize G.getD k 0 = z at *
      obtain ⟨q, hq⟩ : ∃ q, areaW ns ls z = q := ⟨_, rfl⟩
      rw [hq] at ab HS
      have HQ := Lib.hid hq
      clear hq hcl4
      generalize hSK : sumA ns ls G k = SK at *
      have HSK := Lib.hid hSK
      clear hSK
      go_wp2_with fail
      (refine wp_region_quietG (by kernel_rfl) (by kernel_rfl) (fun hG => ?_))
      repeat (go_big_quiet_step ((go_at_call 20; exact quietG (sArea_at _ _ ns ls z q _ (rn8.below (Grw.below _)) (rl8.below (Grw.below _)) HQ.out))))
      refine wpQuiet_nil ?_
      clear hG
      rintro w9 ⟨⟨_, hs9⟩, rfl⟩
      have hX9 := hX8.below hs9 lX8
      have hT9 := hT8.below hs9 lT8
      have hQ9 := hQ8.below hs9 lQ8
      have hs89 := hs8.trans (hs9.mono hs8.size)
      clear hX8 hT8 hQ8 rn8 rl8 x_0 x_1 y_0 y_1 y_2 y_3 z_0 z_1 z_2 z_3
      go_wp2
      go_roundw
      case rel => exact ⟨k + 1, by omega, by go_num, by rw [HS.out], hX9, hT9, hQ9, hs89⟩
      case measure => simp [intOf]; omega
    · have hkk : k = G.length := by omega
      subst hkk
      generalize hSK : sumA ns ls G G.length = SK at *
      clear hSK HSS
      obtain ⟨m7, m8⟩ := mulT (a := d) (x := SK) (U := 640000) d0 (by omega) (by omega) (by omega)
      have hge : ¬ a * TT + b * LL + c * JJ < 0 := by omega
      have hdc : decide (a * TT + b * LL + c * JJ < 0) = false := decide_eq_false hge
      go_wp2_with fail
      (refine wp_region_quietG (by kernel_rfl) (by kernel_rfl) (fun hG => ?_))
      repeat (go_big_quiet_step (first | (go_at_call 21; exact quietG (sTotal_at _ _ ns ls TT _ (rn8.below (Grw.below _)) (rl8.below (Grw.below _)) HTT.out)) | (go_at_call 22; exact quietG (sLen_at _ _ ns ls LL _ (rn8.below (Grw.below _)) (rl8.below (Grw.below _)) HLL.out)) | (go_at_call 23; exact quietG (iJoints_at _ _ ns ls JJ _ (rn8.below (Grw.below _)) (rl8.below (Grw.below _)) HJ2.out)) | (go_at_call 24; exact quietG (iTariff_at a b c d true _ HT1.out)) | (go_at_call 11; exact quietG (HIB.out _ _ _ _ _ _ [] _ (rn8.below (Grw.below _)) (rl8.below (Grw.below _)) (RS.nil _ 1) HB2.out))))
      refine wpQuiet_nil ?_
      clear hG
      rintro w9 ⟨⟨_, hs9⟩, rfl⟩
      have hX9 := hX8.below hs9 hX8.lt
      have hT9 := hT8.below hs9 hT8.lt
      have hQ9 := hQ8.below hs9 hQ8.lt
      have rn9 := rn8.below hs9
      have rl9 := rl8.below hs9
      have hb9 := hs8.trans (hs9.mono hs8.size)
      have hb8 := hs8
      clear hX8 hT8 rn8 rl8 hb8 lX8 lT8 hQ8 lQ8 x_0 x_1 y_0 y_1 y_2 y_3 z_0 z_1 z_2 z_3
      (have x_0 := hX9.cell 0); (have x_1 := hX9.cell 1); simp only [List.getElem?_toArray, List.getElem?_cons_succ, List.getElem?_cons_zero] at x_0 x_1
      (have y_0 := hT9.cell 0); (have y_1 := hT9.cell 1); (have y_2 := hT9.cell 2); (have y_3 := hT9.cell 3); simp only [List.getElem?_toArray, List.getElem?_cons_succ, List.getElem?_cons_zero] at y_0 y_1 y_2 y_3
      (have z_0 := hQ9.cell 0); (have z_1 := hQ9.cell 1); (have z_2 := hQ9.cell 2); (have z_3 := hQ9.cell 3); simp only [List.getElem?_toArray, List.getElem?_cons_succ, List.getElem?_cons_zero] at z_0 z_1 z_2 z_3
      have lX9 := hX9.lt
      have lT9 := hT9.lt
      have lQ9 := hQ9.lt
      have HB9 : Hid (Below w.heap.size w w9) := Lib.hid (HB7.out.trans (hb9.mono HB7.out.size))
      clear hb9 hs8 hs9 HCP7 HB7 hge hdc
      go_wp2
      go_loopw [11, 12] (fun n x wr => ∃ k : Nat, k ≤ ns.length ∧ x = .int .i64 k ∧ n = .int .i64 (jointsN ls k) ∧ Blk wr X 34 #[.slice An ns.length cn, .slice Al ls.length cl] ∧ Blk wr TX 36 #[.int .i64 a, .int .i64 b, .int .i64 c, .int .i64 d] ∧ Blk wr QX 36 #[.int .i64 (2 * a), .int .i64 (2 * b), .int .i64 (2 * c), .int .i64 (2 * d)] ∧ Below w9.heap.size w9 wr) (fun _ x _ => ns.length - (intOf x).toNat)
      case atStart => exact ⟨0, Nat.zero_le _, rfl, rfl, hX9, hT9, hQ9, Below.refl _ _⟩
      case round =>
        clear x_0 x_1 y_0 y_1 y_2 y_3 z_0 z_1 z_2 z_3
        obtain ⟨k, hk, rfl, rfl, hX10, hT10, hQ10, hs10⟩ := hrel
        have rn10 := rn9.below hs10
        have rl10 := rl9.below hs10
        (have x_0 := hX10.cell 0); (have x_1 := hX10.cell 1); simp only [List.getElem?_toArray, List.getElem?_cons_succ, List.getElem?_cons_zero] at x_0 x_1
        (have y_0 := hT10.cell 0); (have y_1 := hT10.cell 1); (have y_2 := hT10.cell 2); (have y_3 := hT10.cell 3); simp only [List.getElem?_toArray, List.getElem?_cons_succ, List.getElem?_cons_zero] at y_0 y_1 y_2 y_3
        (have z_0 := hQ10.cell 0); (have z_1 := hQ10.cell 1); (have z_2 := hQ10.cell 2); (have z_3 := hQ10.cell 3); simp only [List.getElem?_toArray, List.getElem?_cons_succ, List.getElem?_cons_zero] at z_0 z_1 z_2 z_3
        have lX10 := hX10.lt
        have lT10 := hT10.lt
        have lQ10 := hQ10.lt
        have hjk := jointsN_le ls k
        by_cases hlt : k < ns.length
        · obtain ⟨dg, hdg, hd20, hdj⟩ := HDJ.out k hlt
          have HDG := Lib.hid hdg
          have HS := Lib.hid hdj
          clear hdg hdj
          generalize jointsN ls k = J at *
          by_cases h2 : (2 : Int) ≤ (dg : Int)
          · have HS2 : Hid (jointsN ls (k + 1) = J + 1) := Lib.hid (by rw [HS.out, if_pos (by omega)])
            clear HS
            go_wp2_with fail
            refine (sDegree_at _ _ ns ls k dg _ rn10 rl10 HDG.out).mono ?_
            rintro e w11 ⟨rfl, hs11⟩
            have hX11 := hX10.below hs11 lX10
            have hT11 := hT10.below hs11 lT10
            have hQ11 := hQ10.below hs11 lQ10
            have hb11 := hs10.trans (hs11.mono hs10.size)
            clear hX10 hT10 hQ10 rn10 rl10 x_0 x_1 y_0 y_1 y_2 y_3 z_0 z_1 z_2 z_3
            go_wp2_with fail
            refine (btoi_t _).mono ?_
            rintro e w12 ⟨rfl, rfl⟩
            go_wp2
            go_roundw
            case rel => exact ⟨k + 1, by omega, by go_num, by rw [HS2.out]; first | rfl | go_num, hX11, hT11, hQ11, hb11⟩
            case measure => simp [intOf]; omega
          · have HS2 : Hid (jointsN ls (k + 1) = J + 0) := Lib.hid (by rw [HS.out, if_neg (by omega)])
            clear HS
            go_wp2_with fail
            refine (sDegree_at _ _ ns ls k dg _ rn10 rl10 HDG.out).mono ?_
            rintro e w11 ⟨rfl, hs11⟩
            have hX11 := hX10.below hs11 lX10
            have hT11 := hT10.below hs11 lT10
            have hQ11 := hQ10.below hs11 lQ10
            have hb11 := hs10.trans (hs11.mono hs10.size)
            clear hX10 hT10 hQ10 rn10 rl10 x_0 x_1 y_0 y_1 y_2 y_3 z_0 z_1 z_2 z_3
            go_wp2_with fail
            rw [show decide ((2 : Int) ≤ (dg : Int)) = false from decide_eq_false (by omega)]
            refine (btoi_f _).mono ?_
            rintro e w12 ⟨rfl, rfl⟩
            go_wp2
            go_roundw
            case rel => exact ⟨k + 1, by omega, by go_num, by rw [HS2.out]; first | rfl | go_num, hX11, hT11, hQ11, hb11⟩
            case measure => simp [intOf]; omega
        · have hkk : k = ns.length := by omega
          subst hkk
          rw [← HJN.out]
          clear hjk
          obtain ⟨NN, hNN⟩ : ∃ q, a * TT + b * LL + c * JJ = q := ⟨_, rfl⟩
          rw [hNN] at HB0 HB2 N0 N1 ⊢
          clear hNN HBA HNE m1 m2 m3 m4 m5 m6
          have HC1 := Lib.hid (cheap_twice N0)
          have HC2 := Lib.hid (cheap_same NN)
          obtain ⟨x0, hx0⟩ : ∃ x, atI zs 0 = x := ⟨_, rfl⟩
          have hxb := atI_bd HRB.out 0
          rw [hx0] at hxb
          obtain ⟨hxb0, hxb1⟩ := hxb
          have HX0 := Lib.hid hx0
          clear hx0
          have HRB10 := Lib.hid (HRB.out.below (HB9.out.trans (hs10.mono HB9.out.size)))
          go_wp2_with fail
          refine (at_det v zs 0 x0 _ HRB10.out hle (by omega) (by omega) HX0).mono ?_
          rintro e w' ⟨rfl, rfl⟩
          obtain ⟨m, hm⟩ : ∃ m : Nat, 1 + x0 % 24 = (m : Int) := ⟨(1 + x0 % 24).toNat, by omega⟩
          have hm1 : 1 ≤ m := by omega
          have hm2 : m ≤ 24 := by omega
          go_wp2_with fail
          try rw [hm]
          clear hm hxb0 hxb1 HX0 HRB10
          refine (iInst_at NN m _ N0 N1 hm1 hm2).mono ?_
          rintro e w11 ⟨b4, off4, c4, rfl, hb4, hc4, hs11⟩
          have hX11 := hX10.below hs11 hX10.lt
          have hT11 := hT10.below hs11 hT10.lt
          have hQ11 := hQ10.below hs11 hQ10.lt
          have rn11 := rn10.below hs11
          have rl11 := rl10.below hs11
          have hb11 := hs10.trans (hs11.mono hs10.size)
          have hb10 := hs10
          clear hX10 hT10 rn10 rl10 hb10 lX10 lT10 hQ10 lQ10 x_0 x_1 y_0 y_1 y_2 y_3 z_0 z_1 z_2 z_3
          (have x_0 := hX11.cell 0); (have x_1 := hX11.cell 1); simp only [List.getElem?_toArray, List.getElem?_cons_succ, List.getElem?_cons_zero] at x_0 x_1
          (have y_0 := hT11.cell 0); (have y_1 := hT11.cell 1); (have y_2 := hT11.cell 2); (have y_3 := hT11.cell 3); simp only [List.getElem?_toArray, List.getElem?_cons_succ, List.getElem?_cons_zero] at y_0 y_1 y_2 y_3
          (have z_0 := hQ11.cell 0); (have z_1 := hQ11.cell 1); (have z_2 := hQ11.cell 2); (have z_3 := hQ11.cell 3); simp only [List.getElem?_toArray, List.getElem?_cons_succ, List.getElem?_cons_zero] at z_0 z_1 z_2 z_3
          have lX11 := hX11.lt
          have lT11 := hT11.lt
          have lQ11 := hQ11.lt
          have HB11 : Hid (Below w.heap.size w w11) := Lib.hid (HB9.out.trans (hb11.mono HB9.out.size))
          clear hb11 hs10 hs11 HB9
          have HC4 := Lib.hid hc4
          clear hc4
          have HPB := Lib.hid (fun k => partF_bd (t := NN) (n := (m : Int)) N0 (by omega) N1 k)
          have HSPB := Lib.hid (fun k => sumP_bd (t := NN) (n := (m : Int)) N0 (by omega) N1 k)
          have HSPA := Lib.hid (sumP_all (t := NN) (n := m) N0 (by omega))
          have HSPS : Hid (∀ k, sumP NN m (k + 1) = sumP NN m k + partF NN m k) := Lib.hid (fun _ => rfl)
          have HPLE := Lib.hid (fun k (h : 0 < k) => partF_le (t := NN) (n := (m : Int)) (k := k) h)
          go_wp2
          go_loopw [15, 16] (fun n x wr => ∃ k : Nat, k ≤ m ∧ x = .int .i64 k ∧ n = .int .i64 (sumP NN m k) ∧ Blk wr X 34 #[.slice An ns.length cn, .slice Al ls.length cl] ∧ Blk wr TX 36 #[.int .i64 a, .int .i64 b, .int .i64 c, .int .i64 d] ∧ Blk wr QX 36 #[.int .i64 (2 * a), .int .i64 (2 * b), .int .i64 (2 * c), .int .i64 (2 * d)] ∧ Below w11.heap.size w11 wr) (fun _ x _ => m - (intOf x).toNat)
          case atStart => exact ⟨0, Nat.zero_le _, rfl, rfl, hX11, hT11, hQ11, Below.refl _ _⟩
          case round =>
            clear x_0 x_1 y_0 y_1 y_2 y_3 z_0 z_1 z_2 z_3
            obtain ⟨k, hk, rfl, rfl, hX12, hT12, hQ12, hs12⟩ := hrel
            have hb4' := Nat.lt_of_lt_of_le hb4 hs12.size
            by_cases hlt : k < m
            · have hlt1 : (k : Int) < (m : Int) := by omega
              have ik1 : (0 : Int) ≤ (k : Int) := by omega
              have hck := (hs12.cell (p := ⟨b4, off4 + k, none⟩) hb4).trans (HC4.out k hlt)
              have pb := HPB.out k
              have sb := HSPB.out k
              have HS := Lib.hid (HSPS.out k)
              by_cases hk0 : 0 < k
              · obtain ⟨r, rfl⟩ : ∃ r, k = r + 1 := ⟨k - 1, by omega⟩
                have hcr := (hs12.cell (p := ⟨b4, off4 + r, none⟩) hb4).trans (HC4.out r (by omega))
                have hc0 := (hs12.cell (p := ⟨b4, off4 + 0, none⟩) hb4).trans (HC4.out 0 (by omega))
                rw [Nat.add_zero] at hc0
                have pl := HPLE.out (r + 1) (by omega)
                rw [show r + 1 - 1 = r by omega] at pl
                have pb0 := HPB.out 0
                have pbr := HPB.out r
                generalize partF NN m (r + 1) = y at *
                generalize partF NN m r = z at *
                generalize partF NN m 0 = q at *
                generalize sumP NN m (r + 1) = SK at *
                have hs1 : ((r + 1 : Nat) : Int) - 1 = (r : Int) := by omega
                have hw1 : IntKind.i64.wrap (((r + 1 : Nat) : Int) - 1) = (r : Int) := by rw [hs1]; exact IntWalk.i64_in _ (by omega)
                have hw2 : IntKind.i64.wrap (q - 1) = q - 1 := IntWalk.i64_in _ (by omega)
                have ir1 : (0 : Int) ≤ (r : Int) := by omega
                have ir2 : (r : Int) < (m : Int) := by omega
                have im0 : (0 : Int) < (m : Int) := by omega
                have k2 : decide ((0 : Int) < ((r + 1 : Nat) : Int)) = true := decide_eq_true (by omega)
                have k3 : decide (z < y) = false := decide_eq_false (by omega)
                have k4 : decide (y < q - 1) = false := decide_eq_false (by omega)
                go_wp2_with fail
                (refine wp_region_quietG (by kernel_rfl) (by kernel_rfl) (fun hG => ?_))
                repeat (go_big_quiet_step (fail))
                refine wpQuiet_nil ?_
                clear hG
                rintro w13 ⟨⟨_, hs13⟩, rfl⟩
                have hX13 := hX12.below hs13 hX12.lt
                have hT13 := hT12.below hs13 hT12.lt
                have hQ13 := hQ12.below hs13 hQ12.lt
                have hs1213 := hs12.trans (hs13.mono hs12.size)
                clear hX12 hT12 hQ12 hck hcr hc0 hs1 hw1 hw2 k2 k3 k4
                go_wp2
                go_roundw
                case rel => exact ⟨r + 1 + 1, by omega, by go_num, by rw [HS.out], hX13, hT13, hQ13, hs1213⟩
                case measure => simp [intOf]; omega
              · have hk00 : k = 0 := by omega
                subst hk00
                rw [Nat.add_zero] at hck
                have k2 : decide ((0 : Int) < ((0 : Nat) : Int)) = false := rfl
                generalize partF NN m 0 = y at *
                go_wp2_with fail
                (refine wp_region_quietG (by kernel_rfl) (by kernel_rfl) (fun hG => ?_))
                repeat (go_big_quiet_step (fail))
                refine wpQuiet_nil ?_
                clear hG
                rintro w13 ⟨⟨_, hs13⟩, rfl⟩
                have hX13 := hX12.below hs13 hX12.lt
                have hT13 := hT12.below hs13 hT12.lt
                have hQ13 := hQ12.below hs13 hQ12.lt
                have hs1213 := hs12.trans (hs13.mono hs12.size)
                clear hX12 hT12 hQ12 hck k2
                go_wp2
                go_roundw
                case rel => exact ⟨0 + 1, by omega, by go_num, by rw [HS.out], hX13, hT13, hQ13, hs1213⟩
                case measure => simp [intOf]; omega
            · have hkk : k = m := by omega
              subst hkk
              rw [HSPA.out]
              have rn12 := rn11.below hs12
              have rl12 := rl11.below hs12
              (have x_0 := hX12.cell 0); (have x_1 := hX12.cell 1); simp only [List.getElem?_toArray, List.getElem?_cons_succ, List.getElem?_cons_zero] at x_0 x_1
              (have y_0 := hT12.cell 0); (have y_1 := hT12.cell 1); (have y_2 := hT12.cell 2); (have y_3 := hT12.cell 3); simp only [List.getElem?_toArray, List.getElem?_cons_succ, List.getElem?_cons_zero] at y_0 y_1 y_2 y_3
              (have z_0 := hQ12.cell 0); (have z_1 := hQ12.cell 1); (have z_2 := hQ12.cell 2); (have z_3 := hQ12.cell 3); simp only [List.getElem?_toArray, List.getElem?_cons_succ, List.getElem?_cons_zero] at z_0 z_1 z_2 z_3
              have lX12 := hX12.lt
              have lT12 := hT12.lt
              have lQ12 := hQ12.lt
              have HCH2 : Hid (cheapI (billI ns ls a b c d []) (billI ns ls a b c d []) = 0) := Lib.hid (by rw [HB0.out]; exact HC2.out)
              have HB12 : Hid (Below w.heap.size w wr) := Lib.hid (HB11.out.trans (hs12.mono HB11.out.size))
              clear hs12 HB11 HC4 HPB HSPB HSPA HSPS HPLE hb4 hb4' hk
              by_cases hn0 : NN = 0
              · have HCH1 : Hid (cheapI (billI ns ls a b c d []) (billI ns ls (2 * a) (2 * b) (2 * c) (2 * d) []) = 0) := Lib.hid (by rw [HB0.out, HB2.out]; refine HC1.out.trans ?_; rw [if_pos hn0]; rfl)
                have e1 : (NN == 0) = true := beq_iff_eq.2 hn0
                clear hn0
                go_wp2_with fail
                refine (iJoints_at _ _ ns ls JJ _ rn12 rl12 HJ2.out).mono ?_
                rintro e w13 ⟨rfl, hs13⟩
                have hX13 := hX12.below hs13 lX12
                have hT13 := hT12.below hs13 lT12
                have hQ13 := hQ12.below hs13 lQ12
                have rn13 := rn12.below hs13
                have rl13 := rl12.below hs13
                have HB13 : Hid (Below w.heap.size w w13) := Lib.hid (HB12.out.trans (hs13.mono HB12.out.size))
                clear hs13 hX12 hT12 hQ12 rn12 rl12 HB12 lX12 lT12 lQ12 x_0 x_1 y_0 y_1 y_2 y_3 z_0 z_1 z_2 z_3
                (have x_0 := hX13.cell 0); (have x_1 := hX13.cell 1); simp only [List.getElem?_toArray, List.getElem?_cons_succ, List.getElem?_cons_zero] at x_0 x_1
                (have y_0 := hT13.cell 0); (have y_1 := hT13.cell 1); (have y_2 := hT13.cell 2); (have y_3 := hT13.cell 3); simp only [List.getElem?_toArray, List.getElem?_cons_succ, List.getElem?_cons_zero] at y_0 y_1 y_2 y_3
                (have z_0 := hQ13.cell 0); (have z_1 := hQ13.cell 1); (have z_2 := hQ13.cell 2); (have z_3 := hQ13.cell 3); simp only [List.getElem?_toArray, List.getElem?_cons_succ, List.getElem?_cons_zero] at z_0 z_1 z_2 z_3
                have lX13 := hX13.lt
                have lT13 := hT13.lt
                have lQ13 := hQ13.lt
                go_wp2_with fail
                refine (iCheap_at _ _ ns ls a b c d _ _ _ _ _ _ rn13 rl13 HCH1.out).mono ?_
                rintro e w14 ⟨rfl, hs14⟩
                have hX14 := hX13.below hs14 lX13
                have hT14 := hT13.below hs14 lT13
                have hQ14 := hQ13.below hs14 lQ13
                have rn14 := rn13.below hs14
                have rl14 := rl13.below hs14
                have HB14 : Hid (Below w.heap.size w w14) := Lib.hid (HB13.out.trans (hs14.mono HB13.out.size))
                clear hs14 hX13 hT13 hQ13 rn13 rl13 HB13 lX13 lT13 lQ13 x_0 x_1 y_0 y_1 y_2 y_3 z_0 z_1 z_2 z_3
                (have x_0 := hX14.cell 0); (have x_1 := hX14.cell 1); simp only [List.getElem?_toArray, List.getElem?_cons_succ, List.getElem?_cons_zero] at x_0 x_1
                (have y_0 := hT14.cell 0); (have y_1 := hT14.cell 1); (have y_2 := hT14.cell 2); (have y_3 := hT14.cell 3); simp only [List.getElem?_toArray, List.getElem?_cons_succ, List.getElem?_cons_zero] at y_0 y_1 y_2 y_3
                (have z_0 := hQ14.cell 0); (have z_1 := hQ14.cell 1); (have z_2 := hQ14.cell 2); (have z_3 := hQ14.cell 3); simp only [List.getElem?_toArray, List.getElem?_cons_succ, List.getElem?_cons_zero] at z_0 z_1 z_2 z_3
                have lX14 := hX14.lt
                have lT14 := hT14.lt
                have lQ14 := hQ14.lt
                go_wp2_with fail
                refine (btoi_t _).mono ?_
                rintro e w' ⟨rfl, rfl⟩
                go_wp2_with fail
                refine (iCheap_at _ _ ns ls a b c d _ _ _ _ _ _ rn14 rl14 HCH2.out).mono ?_
                rintro e w15 ⟨rfl, hs15⟩
                have HB15 : Hid (Below w.heap.size w w15) := Lib.hid (HB14.out.trans (hs15.mono HB14.out.size))
                clear hs15
                go_wp2
                go_ret
                exact ⟨rfl, HB15.out⟩
              · have HCH1 : Hid (cheapI (billI ns ls a b c d []) (billI ns ls (2 * a) (2 * b) (2 * c) (2 * d) []) = -1) := Lib.hid (by rw [HB0.out, HB2.out]; refine HC1.out.trans ?_; rw [if_neg hn0]; rfl)
                have e1 : (NN == 0) = false := beq_eq_false_iff_ne.2 hn0
                clear hn0
                go_wp2_with fail
                refine (iJoints_at _ _ ns ls JJ _ rn12 rl12 HJ2.out).mono ?_
                rintro e w13 ⟨rfl, hs13⟩
                have hX13 := hX12.below hs13 lX12
                have hT13 := hT12.below hs13 lT12
                have hQ13 := hQ12.below hs13 lQ12
                have rn13 := rn12.below hs13
                have rl13 := rl12.below hs13
                have HB13 : Hid (Below w.heap.size w w13) := Lib.hid (HB12.out.trans (hs13.mono HB12.out.size))
                clear hs13 hX12 hT12 hQ12 rn12 rl12 HB12 lX12 lT12 lQ12 x_0 x_1 y_0 y_1 y_2 y_3 z_0 z_1 z_2 z_3
                (have x_0 := hX13.cell 0); (have x_1 := hX13.cell 1); simp only [List.getElem?_toArray, List.getElem?_cons_succ, List.getElem?_cons_zero] at x_0 x_1
                (have y_0 := hT13.cell 0); (have y_1 := hT13.cell 1); (have y_2 := hT13.cell 2); (have y_3 := hT13.cell 3); simp only [List.getElem?_toArray, List.getElem?_cons_succ, List.getElem?_cons_zero] at y_0 y_1 y_2 y_3
                (have z_0 := hQ13.cell 0); (have z_1 := hQ13.cell 1); (have z_2 := hQ13.cell 2); (have z_3 := hQ13.cell 3); simp only [List.getElem?_toArray, List.getElem?_cons_succ, List.getElem?_cons_zero] at z_0 z_1 z_2 z_3
                have lX13 := hX13.lt
                have lT13 := hT13.lt
                have lQ13 := hQ13.lt
                go_wp2_with fail
                refine (iCheap_at _ _ ns ls a b c d _ _ _ _ _ _ rn13 rl13 HCH1.out).mono ?_
                rintro e w14 ⟨rfl, hs14⟩
                have hX14 := hX13.below hs14 lX13
                have hT14 := hT13.below hs14 lT13
                have hQ14 := hQ13.below hs14 lQ13
                have rn14 := rn13.below hs14
                have rl14 := rl13.below hs14
                have HB14 : Hid (Below w.heap.size w w14) := Lib.hid (HB13.out.trans (hs14.mono HB13.out.size))
                clear hs14 hX13 hT13 hQ13 rn13 rl13 HB13 lX13 lT13 lQ13 x_0 x_1 y_0 y_1 y_2 y_3 z_0 z_1 z_2 z_3
                (have x_0 := hX14.cell 0); (have x_1 := hX14.cell 1); simp only [List.getElem?_toArray, List.getElem?_cons_succ, List.getElem?_cons_zero] at x_0 x_1
                (have y_0 := hT14.cell 0); (have y_1 := hT14.cell 1); (have y_2 := hT14.cell 2); (have y_3 := hT14.cell 3); simp only [List.getElem?_toArray, List.getElem?_cons_succ, List.getElem?_cons_zero] at y_0 y_1 y_2 y_3
                (have z_0 := hQ14.cell 0); (have z_1 := hQ14.cell 1); (have z_2 := hQ14.cell 2); (have z_3 := hQ14.cell 3); simp only [List.getElem?_toArray, List.getElem?_cons_succ, List.getElem?_cons_zero] at z_0 z_1 z_2 z_3
                have lX14 := hX14.lt
                have lT14 := hT14.lt
                have lQ14 := hQ14.lt
                go_wp2_with fail
                refine (btoi_f _).mono ?_
                rintro e w' ⟨rfl, rfl⟩
                go_wp2_with fail
                refine (iCheap_at _ _ ns ls a b c d _ _ _ _ _ _ rn14 rl14 HCH2.out).mono ?_
                rintro e w15 ⟨rfl, hs15⟩
                have HB15 : Hid (Below w.heap.size w w15) := Lib.hid (HB14.out.trans (hs15.mono HB14.out.size))
                clear hs15
                go_wp2
                go_ret
                exact ⟨rfl, HB15.out⟩

end Go.Proofs.YtognjdappchpkaaGreat

namespace Go.Proofs.YtognjdappchpkaaGreat
open Go.ChangeShapes Go.WideShapes Go.ChangeAt Go.RowKit

theorem ownK : ownKnob Tryz.prog.godebug = none := by kernel_rfl

theorem laidOutK : laidOutB Tryz.prog = true := by kernel_rfl

theorem mapsRowedK : mapsRowed Tryz.prog = true := by kernel_rfl

def blankC : Char := Char.ofNat 32

def joinW : List (List Char) → List Char
  | [] => []
  | [w] => w
  | w :: v :: r => w ++ blankC :: joinW (v :: r)

theorem words_one : ∀ (w : List Char), (w.all fun c => c != blankC) = true → wordsSigns w = [w]
  | [], _ => rfl
  | c :: w, h => by
    simp only [List.all_cons, Bool.and_eq_true] at h
    have ih := words_one w h.2
    have hc : c ≠ blankC := by simpa using h.1
    unfold wordsSigns
    split
    · rename_i heq; cases heq
    · rename_i heq; injection heq with h1 _; exact absurd h1 hc
    · rename_i heq; injection heq with h1 h2; subst h1 h2; rw [ih]

theorem words_cons : ∀ (w r : List Char), (w.all fun c => c != blankC) = true → wordsSigns (w ++ blankC :: r) = w :: wordsSigns r
  | [], r, _ => rfl
  | c :: w, r, h => by
    simp only [List.all_cons, Bool.and_eq_true] at h
    have ih := words_cons w r h.2
    have hc : c ≠ blankC := by simpa using h.1
    rw [List.cons_append, wordsSigns.eq_def]
    split
    · rename_i heq; cases heq
    · rename_i heq; injection heq with h1 _; exact absurd h1 hc
    · rename_i heq; injection heq with h1 h2; subst h1 h2; rw [ih]

theorem words_join : ∀ (ws : List (List Char)), ws ≠ [] → (ws.all fun w => w.all fun c => c != blankC) = true → wordsSigns (joinW ws) = ws
  | [], h, _ => absurd rfl h
  | [w], _, h => by
    simp only [List.all_cons, List.all_nil, Bool.and_true] at h
    exact words_one w h
  | w :: v :: r, _, h => by
    rw [List.all_cons, Bool.and_eq_true] at h
    show wordsSigns (w ++ blankC :: joinW (v :: r)) = _
    rw [words_cons w _ h.1, words_join (v :: r) (by simp) h.2]

/-- The head of the program, word by word: the kernel need not take a long text apart. -/
def headW : List (List Char) :=
  [[104, 97, 114, 110, 101, 115, 115],
    [55, 54, 56, 56, 54, 100, 51, 100, 55, 57, 100, 52, 54, 51, 99, 53, 99, 56, 100, 97, 102, 101, 48, 98, 57, 52, 102, 98, 97, 100, 99, 100, 53, 55, 99, 99, 102, 49, 102, 51, 52, 54, 99, 56, 56, 101, 55, 56, 48, 99, 50, 56, 48, 57, 50, 48, 55, 50, 99, 101, 56, 97, 101, 99],
    [99, 117, 116],
    [97, 116],
    [108, 111, 111, 112, 46, 101, 120, 97, 109, 112, 108, 101, 47, 103, 48, 51, 51, 48, 51, 47, 108, 97, 119, 115, 46, 70, 110, 69, 120, 97, 99, 116, 66, 105, 108, 108, 79, 102],
    [108, 111, 111, 112, 46, 101, 120, 97, 109, 112, 108, 101, 47, 103, 48, 51, 51, 48, 51, 47, 108, 97, 119, 115, 46, 70, 110, 69, 120, 97, 99, 116, 67, 104, 101, 97, 112, 101, 114, 84, 97, 114, 105, 102, 102],
    [108, 111, 111, 112, 46, 101, 120, 97, 109, 112, 108, 101, 47, 103, 48, 51, 51, 48, 51, 47, 108, 97, 119, 115, 46, 70, 110, 66, 105, 108, 108, 115]].map fun w => w.map Char.ofNat

theorem headK : wordsSigns Tryz.prog.initOrder.toList = headW := by
  have h : Tryz.prog.initOrder = String.ofList (joinW headW) := by kernel_rfl
  rw [h, String.toList_ofList]
  exact words_join headW (by decide) (by kernel_rfl)

theorem headWords : behindMainWord (wordsSigns Tryz.prog.initOrder.toList) = behindMainWord headW := by rw [headK]

theorem cutW : behindMainWord headW = "cut".toList :: headW.drop 3 := by kernel_rfl

theorem make_of {P : Program} {r : List (List Char)} (h : behindMainWord (wordsSigns P.initOrder.toList) = "cut".toList :: r) : P.make = some .cut := by
  unfold Program.make
  rw [h]
  show (if _ then _ else _) = _
  rw [if_neg (by decide), if_pos (by simp)]

theorem enter_of {P : Program} {r : List (List Char)} (h : behindMainWord (wordsSigns P.initOrder.toList) = "cut".toList :: r) (hs : stripLifts liftWords ("cut".toList :: r) = ([], "cut".toList :: r))
    (hd : P.doorFits [] = true) (hl : P.laysLater = false) (hb : P.bearsReflect = false) : P.mayEnter = true := by
  unfold Program.mayEnter
  rw [h]
  show (_ || _ || _) = true
  rw [hs, hd, hl, hb]
  simp only [Bool.or_eq_true]
  exact .inr (by simp)

theorem lifts_of {P : Program} {r : List (List Char)} (h : behindMainWord (wordsSigns P.initOrder.toList) = "cut".toList :: r) (hs : stripLifts liftWords ("cut".toList :: r) = ([], "cut".toList :: r)) : P.liftsFinal = false := by
  unfold Program.liftsFinal Program.headLifts
  rw [h, hs]
  have e : ("cut".toList == "carried".toList) = false := by decide
  simp [e]

theorem cutK : behindMainWord (wordsSigns Tryz.prog.initOrder.toList) = "cut".toList :: headW.drop 3 := headWords.trans cutW

theorem stripK : stripLifts liftWords ("cut".toList :: headW.drop 3) = ([], "cut".toList :: headW.drop 3) := by kernel_rfl

theorem doorK : Tryz.prog.doorFits [] = true := by kernel_rfl

theorem laterK : Tryz.prog.laysLater = false := by kernel_rfl

theorem reflectK : Tryz.prog.bearsReflect = false := by kernel_rfl

theorem mayEnterK : Tryz.prog.mayEnter = true := enter_of cutK stripK doorK laterK reflectK

theorem makeK : Tryz.prog.make = some .cut := make_of cutK

theorem liftsK : Tryz.prog.liftsFinal = false := lifts_of cutK stripK

theorem lift_eq {c : OpenClaim} (h : c.lifted = false) : (c.lifted == Tryz.prog.liftsFinal) = true := by rw [h, liftsK]; rfl

theorem make_eq {c : OpenClaim} (h : c.make = .cut) : (Tryz.prog.make == some c.make) = true := by rw [makeK, h]; rfl

section
variable {H : Type} {enc : TypeId × Value → H} {P : Program}

theorem trodAll_stays {ts : List TypeId} (hl : laidOutB P = true) {W W' : World} (hb : Below W.heap.size W W') {sp : Nat → Bool} :
    ∀ {vs : List Value} {ds : List (DataW H)} {ps : List MemPlace}, (∀ t ∈ ts, P.readableRec t = true ∧ t < P.types.size) →
      DataW.TrodAll enc P W 0 (fun _ => true) true ts vs ds ps → (∀ x ∈ ps, x.block < W.heap.size) → (∀ x ∈ ps, sp x.block = true) → DataW.TrodAll enc P W' 0 sp true ts vs ds ps := by
  induction ts with
  | nil =>
    intro vs ds ps _ h _ _
    obtain ⟨rfl, rfl, rfl⟩ := trodAll_nil h
    exact trodAll_mk0
  | cons t ts ih =>
    intro vs ds ps hr h hlt hsp
    obtain ⟨v, vs', d, ds', p, q, hargs, rfl, rfl, hd, hrest⟩ := trodAll_cons h
    subst hargs
    obtain ⟨h1, h2⟩ := hr t (by simp)
    refine trodAll_cons_mk ?_ (ih (fun t' ht' => hr t' (by simp [ht'])) hrest (fun x hx => hlt x (by simp [hx])) (fun x hx => hsp x (by simp [hx])))
    exact WideElems.Trod_stays hl h1 h2 hd (fun x hx => hb.same (hlt x (by simp [hx]))) (fun x hx => hsp x (by simp [hx]))

/-- The row's last step where only new memory has been laid. -/
theorem post_of_below {f : Func} {s : ChangeSpec} {apart fresh handsOn again : Bool} {W W' : World} {args : Array Value} {v : Value} {ds gs : List (DataW H)} {before pa pv : List MemPlace}
    (hW : DataW.Whole enc P f.params.toList s.vars apart W args.toList ds gs before)
    (hres : ∀ (b : Nat) (sp : Nat → Bool) (hd : Bool), DataW.TrodAll enc P W' b sp hd f.resultTypes.toList (v.resultList f.resultTypes.size) (s.fn H (ds ++ gs)).results [])
    (hargs : ∀ sp : Nat → Bool, (∀ p ∈ before, sp p.block = true) → DataW.TrodAll enc P W' 0 sp true f.params.toList args.toList (s.fn H (ds ++ gs)).args pa)
    (hvars : ∀ sp : Nat → Bool, (∀ p ∈ before, sp p.block = true) → DataW.TrodVars enc P W' sp s.vars (s.fn H (ds ++ gs)).vars pv)
    (hps : before = pa ++ pv) (hb : Below W.heap.size W W')
    (hok : ∀ (j : Nat) (t : TypeId) (r : Value), f.resultTypes[j]? = some t → (v.resultList f.resultTypes.size)[j]? = some r → Value.okWide P W' .any 0 t r) :
    s.post enc P f apart fresh handsOn again W args v W' := by
  have hlt : ∀ p ∈ before, p.block < W.heap.size := fun p hp => hW.lt p hp
  have hold : ∀ p ∈ before, (fun b => decide (b < W.heap.size)) p.block = true := fun p hp => by simpa using hlt p hp
  refine ⟨ds, gs, before, [], pa, pv, hW, hres _ _ _, hargs _ hold, hvars _ hold, World.keptBut_mono (fun p hp => ⟨hp, ?_⟩) (hb.frame (· ∈ before)), fun _ => ?_⟩
  · rw [hps, List.mem_append] at hp
    exact Or.inr hp
  · obtain ⟨_, _, _, _, _, hz, hn⟩ := hW
    refine ⟨hok, _, _, ([] ++ pa) ++ pv, ⟨[] ++ pa, pv, trodAll_append (hargs _ (fun _ _ => rfl)) (hres _ _ _), hvars _ (fun _ _ => rfl), rfl, ?_, ?_⟩, ?_⟩
    · intro b off hp
      have hin : MemPlace.cell b off ∈ before := by rw [hps]; simpa using hp
      rw [hb.frozen (hlt _ hin)]
      exact hz b off hin
    · intro ha
      have := hn ha
      rw [hps] at this
      simpa using this
    · intro p hp _
      rw [hps]
      simpa using hp

/-- A law's row: it returns true, its arguments read as they did. tb: the type bool. -/
theorem law_post {f : Func} {s : ChangeSpec} {apart fresh handsOn again : Bool} {W W' : World} {args : Array Value} {ds gs : List (DataW H)} {before : List MemPlace} {tb : TypeId}
    (hl : laidOutB P = true) (ht : P.underlying tb = some .bool) (hrt : f.resultTypes = #[tb]) (hv : s.vars = [])
    (hfn : ∀ ds : List (DataW H), ds.length = f.params.size → s.fn H (ds ++ []) = { results := [.lit (.bool true)], args := ds })
    (hp : ∀ t ∈ f.params.toList, P.readableRec t = true ∧ t < P.types.size)
    (hW : DataW.Whole enc P f.params.toList s.vars apart W args.toList ds gs before) (hlen : ds.length = f.params.size) (hb : Below W.heap.size W W') : s.post enc P f apart fresh handsOn again W args (.bool true) W' := by
  have hW' := hW
  obtain ⟨p, q, hA, hV, rfl, hfz, hnd⟩ := hW
  rw [hv] at hV
  obtain ⟨rfl, rfl⟩ := trodVars_none hV
  have hlt : ∀ x ∈ p, x.block < W.heap.size := fun x hx => hW'.lt x (by simp [hx])
  refine post_of_below (pa := p) (pv := []) hW' ?_ ?_ ?_ rfl hb ?_
  · intro b sp hd
    rw [hfn ds hlen, hrt]
    exact trodAll_mk1 (shut_bool ht true)
  · intro sp hsp
    rw [hfn ds hlen]
    exact trodAll_stays hl hb hp hA hlt (fun x hx => hsp x (by simp [hx]))
  · intro sp _
    rw [hfn ds hlen, hv]
    exact rfl
  · exact ok_one hrt rfl (okWide_bool_mk ht true)
end

end Go.Proofs.YtognjdappchpkaaGreat

namespace Go.Proofs.YtognjdappchpkaaGreat
open Go.ChangeShapes Go.WideShapes Go.RowKit
section
variable {H : Type} {enc : TypeId × Value → H} {P : Program} {w : World} {base : Nat} {spare : Nat → Bool} {held : Bool}

theorem open_int_row {t e : TypeId} {k : IntKind} {v : Value} {d : DataW H} {p : List MemPlace} (ht : P.underlying t = some (.slice e)) (he : P.underlying e = some (.int k)) (hc : P.cellsOf e = 1)
    (hval : Value.okWide P w .any base t v) (h : DataW.Trod enc P w 0 spare held t v d p) :
    ∃ zs : List Int, RS w 1 v zs.length (zs.map (Value.int k)) ∧ ∀ n ∈ zs, (Lit.int k n).wf = true := by
  obtain ⟨A, len, cap, rfl⟩ := okWide_slice ht hval
  obtain ⟨fuel, hf⟩ := h
  rcases open_ints ht he hc hf with ⟨hcs, hx⟩ | ⟨a, len', cap', zs, hcs, _, hl, hm, hz, hx, hcell, hwz⟩
  · simp [Value.cells] at hcs
    obtain ⟨rfl, rfl, rfl⟩ := hcs
    exact ⟨[], RS.nil _ _, by simp⟩
  · simp [Value.cells] at hcs
    obtain ⟨rfl, rfl, rfl⟩ := hcs
    have hle : len ≤ zs.length := by rw [hz]; split <;> omega
    have hlen : (zs.take len).length = len := by simp; omega
    refine ⟨zs.take len, ⟨by simp, some a, cap, by rw [hlen], by rw [hlen]; exact hl, by rw [hlen]; omega, fun hn => ?_⟩, fun n hn => hwz n (List.mem_of_mem_take hn)⟩
    have hn' : 0 < len := by rw [hlen] at hn; exact hn
    have h0 := hcell 0 (by omega)
    obtain ⟨ab, ao, spot⟩ := a
    have hspot : spot = none := by simpa [Addr.add] using World.cell?_spot h0
    subst hspot
    refine ⟨ab, ao, rfl, ?_, fun j u hu => ?_⟩
    · have := World.block_lt_of_cell? w _ h0
      simpa [Addr.add] using this
    · have hj : j < len := by
        have h1 := (List.getElem?_eq_some_iff.1 hu).1
        simp at h1
        omega
      have hc := hcell j (by omega)
      have e1 : zs.getD j 0 = zs[j] := by simp [List.getD, List.getElem?_eq_getElem (show j < zs.length by omega)]
      rw [e1] at hc
      have hu' : u = .int k zs[j] := by
        rw [List.getElem?_map, List.getElem?_take, if_pos hj, List.getElem?_eq_getElem (by omega)] at hu
        simpa using hu.symm
      rw [hu']
      by_cases h0 : j = 0
      · subst h0; simpa [Addr.add] using hc
      · simpa [Addr.add, h0] using hc
end

section
variable {H : Type} {enc : TypeId × Value → H} {w : World} {base : Nat} {spare : Nat → Bool} {held : Bool}

set_option maxRecDepth 100000 in
theorem open_code {v : Value} {d : DataW H} {p : List MemPlace} (hval : Value.okWide Tryz.prog w .any base 44 v) (h : DataW.Trod enc Tryz.prog w 0 spare held 44 v d p) : ∃ zs : List Int, RB w v zs := by
  obtain ⟨zs, h1, h2⟩ := open_int_row Tryz.underlying44 Tryz.underlying5 (by kernel_rfl) hval h
  refine ⟨zs, h1, fun z hz => ?_⟩
  have := h2 z hz
  simp [Lit.wf, IntKind.min, IntKind.max, IntKind.bits, IntKind.signed] at this
  omega
end
end Go.Proofs.YtognjdappchpkaaGreat

namespace Go.Proofs.YtognjdappchpkaaGreat
open Go.ChangeShapes Go.WideShapes Go.ChangeAt Go.RowKit Go.Joins

set_option maxRecDepth 100000 in
theorem bills_lifted (os : Os) (started : os.Started) (H : Type) (enc : TypeId × Value → H) : ReturnsInHanded {} Tryz.checked os 5 .any (Rows.fnBillsSpec.pre6 enc Tryz.prog Tryz.f5 Rows.fnBillsRow.domain false) (Rows.fnBillsSpec.post enc Tryz.prog Tryz.f5 false true false false) := by
  refine returnsInHanded_of_change (C := Tryz.checked) ownK started (by kernel_rfl) Tryz.func5 (ChangeSpec.witness6 (enc := enc) (C := Tryz.checked) false ⟨#[], #[.slice none 0 0], []⟩ 8 (by kernel_rfl) (by kernel_rfl) (by kernel_rfl) (by kernel_rfl)) ?_
  intro W base args ds gs before hval0 hW hcnd _; have hval : ∀ (j : Nat) t v, Tryz.f5.params[j]? = some t → args[j]? = some v → Value.okWide Tryz.prog W .any base t v := hval0; have hW' := hW; obtain ⟨p, q, hA0, hV, rfl, hfz, hnd⟩ := hW; have hA : DataW.TrodAll enc Tryz.prog W 0 (fun _ => true) true Tryz.f5.params.toList args.toList ds p := hA0; rw [Tryz.params5] at hA hval
  obtain ⟨v0, d0, rfl, rfl, h0⟩ := trodAll_one hA
  obtain ⟨l0, hl0⟩ := open_code (hval 0 44 v0 rfl rfl) h0
  refine (billsLaw_any _ l0 W hl0).mono fun e W' ⟨he, hb⟩ => ?_
  subst he
  exact ⟨_, rfl, law_post laidOutK Tryz.underlying4 rfl rfl (fun ds h => by match ds, h with | [_], _ => rfl) (by rw [Tryz.params5]; simp only [List.mem_cons, List.mem_nil_iff, or_false, forall_eq_or_imp, forall_eq]; repeat (first | exact ⟨by kernel_rfl, of_decide_eq_true (by kernel_rfl)⟩ | refine ⟨⟨by kernel_rfl, of_decide_eq_true (by kernel_rfl)⟩, ?_⟩)) hW' rfl hb⟩

set_option maxHeartbeats 8000000 in
theorem bills_holds : Rows.FnBillsSaid :=
  OpenClaim.holds_of_wide 5 Tryz.f5 rfl rfl rfl rfl rfl rfl rfl ⟨rfl, rfl, rfl, rfl, rfl⟩ rfl rfl rfl rfl rfl (by as_aux_lemma => kernel_rfl) Tryz.func5 (by show joinedFacts Tryz.prog 5 Tryz.f5 Rows.fnBillsSpec Rows.fnBillsRow = true; unfold joinedFacts; simp only [Bool.and_eq_true]; (repeat' apply And.intro); all_goals first | with_reducible exact laidOutK | with_reducible exact mapsRowedK | with_reducible exact mayEnterK | with_reducible exact lift_eq rfl | with_reducible exact make_eq rfl | as_aux_lemma => kernel_rfl) (by as_aux_lemma => exact of_decide_eq_true (by kernel_rfl)) (by unfold Func.isWrapper; rw [if_neg (by as_aux_lemma => exact of_decide_eq_false (by kernel_rfl))]; exact ⟨rfl, rfl⟩) (fun os started H enc _ => bills_lifted os started H enc)

end Go.Proofs.YtognjdappchpkaaGreat
