/- part 29 -/
import Derived.Test.YtnjcpljhmhdhkaaGreatCPk28
set_option linter.unusedSimpArgs false
set_option linter.unusedVariables false
namespace Go.Proofs.YtnjcpljhmhdhkaaGreat
open Go.RowKit
def cmpD (ns ls : List Pr) (k d e : Nat) : Int := if d = e then 0 else if bfD ns ls k d e then -1 else 1
theorem bef_self (ax ay bx by' : Int) : befB ax ay bx by' bx by' = false := by
  unfold befB
  rw [if_pos rfl]
  have : turnI ax ay bx by' bx by' = 0 := turn_self2 (ax, ay) (bx, by')
  rw [this]
  simp
theorem cmpD_lt (ns ls : List Pr) (k d e : Nat) : decide (cmpD ns ls k d e < 0) = bfD ns ls k d e := by
  unfold cmpD
  by_cases h : d = e
  · subst h
    rw [if_pos rfl]
    unfold bfD
    rw [bef_self]
    rfl
  · rw [if_neg h]
    cases bfD ns ls k d e <;> rfl
set_option maxHeartbeats 4000000 in
set_option maxRecDepth 100000 in
theorem cmp_any (gW gK : Nat) (vn vl : Value) (ns ls : List Pr) (k d e : Nat) (w : World) (hW : Blk w gW 27 #[vn, vl]) (hKc : w.cell? ⟨gK, 0, none⟩ = some (.int .i64 k)) (hKl : gK < w.heap.size) (hn : RP w vn ns) (hl : RP w vl ls)
    (hk : k < ns.length) (hd : d < 2 * ls.length) (he : e < 2 * ls.length) (hwin : WinOk ns ls) :
    Calls Tryz.prog 268 #[.int .i64 d, .int .i64 e, .pointer (some ⟨gW, 0, none⟩), .pointer (some ⟨gK, 0, none⟩)] w fun en w' => en = .returned (.int .i64 (cmpD ns ls k d e)) ∧ Below w.heap.size w w' := by
  have hld : ∀ j : Nat, j < ls.length → leadB ns (ndI ls j) = true := fun j hj => (hwin.2.2.2.2.2 j hj).1
  have hm20 := hwin.2.2.1
  obtain ⟨An, cn, rfl, hcn, hmn, hcelln⟩ := hn.formI
  obtain ⟨bn, offn, rfl, hbn, hcc⟩ := hcelln (by omega)
  obtain ⟨t, ht, htn⟩ := dTo_nat hld hd
  obtain ⟨u, hu, hun⟩ := dTo_nat hld he
  obtain ⟨k0, k1⟩ := hcc k hk
  obtain ⟨t0, t1⟩ := hcc t htn
  obtain ⟨u0, u1⟩ := hcc u hun
  unfold maxLen at hmn
  have hgW := hW.lt
  have x1 := bits_xor_nat (a := d) (b := 1) (by omega) (by omega)
  have x2 := bits_xor_nat (a := e) (b := 1) (by omega) (by omega)
  rw [twin_xor] at x1 x2
  have x1' : bits .xor .i64 (d : Int) 1 = ((twin d : Nat) : Int) := x1
  have x2' : bits .xor .i64 (e : Int) 1 = ((twin e : Nat) : Int) := x2
  clear x1 x2
  have X1 := Lib.hid x1'
  have X2 := Lib.hid x2'
  clear x1' x2'
  have ik1 : (0 : Int) ≤ (k : Int) := by omega
  have ik2 : (k : Int) < (ns.length : Int) := by omega
  have it1 : (0 : Int) ≤ (t : Int) := by omega
  have it2 : (t : Int) < (ns.length : Int) := by omega
  have iu1 : (0 : Int) ≤ (u : Int) := by omega
  have iu2 : (u : Int) < (ns.length : Int) := by omega
  obtain ⟨a_0, a_1⟩ := hW.c2
  clear hcelln hcc
  go_enter Tryz.func268, Tryz.ntmps268
  go_wp2_with fail
  have HS : Hid (∀ v : World, Below w.heap.size w v → v.cell? ⟨gW, 0, none⟩ = some (.slice (some ⟨bn, offn, none⟩) ns.length cn) ∧ v.cell? ⟨gW, 1, none⟩ = some vl ∧ v.cell? ⟨gK, 0, none⟩ = some (.int .i64 k) ∧ v.cell? ⟨bn, offn + k * 2, none⟩ = some (.int .i64 (ndI ns k).1) ∧ v.cell? ⟨bn, offn + k * 2 + 1, none⟩ = some (.int .i64 (ndI ns k).2)) := Lib.hid (fun v hv => ⟨(hv.cell (p := ⟨gW, 0, none⟩) hgW).trans a_0, (hv.cell (p := ⟨gW, 1, none⟩) hgW).trans a_1, (hv.cell (p := ⟨gK, 0, none⟩) hKl).trans hKc, (hv.cell (p := ⟨bn, offn + k * 2, none⟩) hbn).trans k0, (hv.cell (p := ⟨bn, offn + k * 2 + 1, none⟩) hbn).trans k1⟩)
  refine region_E (n := 26) (S := fun v => v.cell? ⟨gW, 0, none⟩ = some (.slice (some ⟨bn, offn, none⟩) ns.length cn) ∧ v.cell? ⟨gW, 1, none⟩ = some vl ∧ v.cell? ⟨gK, 0, none⟩ = some (.int .i64 k) ∧ v.cell? ⟨bn, offn + k * 2, none⟩ = some (.int .i64 (ndI ns k).1) ∧ v.cell? ⟨bn, offn + k * 2 + 1, none⟩ = some (.int .i64 (ndI ns k).2)) (by kernel_rfl) (HS.out _ (Below.refl _ _).drew) (fun hS => ?_)
  (refine E_take (i := 0) (v := ?_) rfl rfl (by kernel_rfl) (by kernel_rfl) (by kernel_rfl) (by kernel_rfl) (by kernel_rfl) (fun _ _ _ h => h) (Or.inl ⟨by rfl, ?_⟩) (by assumption) ?_); rotate_left; (focus (intro w' hSw; (try dsimp only at hSw); go_simp; (try with_reducible rfl))); (try simp only [Act.put, List.setIfInBounds_toArray, List.set_cons_zero, List.set_cons_succ])
  (refine E_take (i := 1) (v := ?_) rfl rfl (by kernel_rfl) (by kernel_rfl) (by kernel_rfl) (by kernel_rfl) (by kernel_rfl) (fun _ _ _ h => h) (Or.inl ⟨by rfl, ?_⟩) (by assumption) ?_); rotate_left; (focus (intro w' hSw; (try dsimp only at hSw); go_simp; (try with_reducible rfl))); (try simp only [Act.put, List.setIfInBounds_toArray, List.set_cons_zero, List.set_cons_succ])
  (refine E_take (i := 2) (v := ?_) rfl rfl (by kernel_rfl) (by kernel_rfl) (by kernel_rfl) (by kernel_rfl) (by kernel_rfl) (fun _ _ _ h => h) (Or.inl ⟨by rfl, ?_⟩) (by assumption) ?_); rotate_left; (focus (intro w' hSw; (try dsimp only at hSw); go_simp; (try with_reducible rfl))); (try simp only [Act.put, List.setIfInBounds_toArray, List.set_cons_zero, List.set_cons_succ])
  (refine E_take (i := 3) (v := ?_) rfl rfl (by kernel_rfl) (by kernel_rfl) (by kernel_rfl) (by kernel_rfl) (by kernel_rfl) (fun _ _ _ h => h) (Or.inl ⟨by rfl, ?_⟩) (by assumption) ?_); rotate_left; (focus (intro w' hSw; (try dsimp only at hSw); go_simp; (try with_reducible rfl))); (try simp only [Act.put, List.setIfInBounds_toArray, List.set_cons_zero, List.set_cons_succ])
  (refine E_take (i := 4) (v := ?_) rfl rfl (by kernel_rfl) (by kernel_rfl) (by kernel_rfl) (by kernel_rfl) (by kernel_rfl) (fun _ _ _ h => h) (Or.inl ⟨by rfl, ?_⟩) (by assumption) ?_); rotate_left; (focus (intro w' hSw; (try dsimp only at hSw); go_simp; (try with_reducible rfl))); (try simp only [Act.put, List.setIfInBounds_toArray, List.set_cons_zero, List.set_cons_succ])
  (refine E_take (i := 5) (v := ?_) rfl rfl (by kernel_rfl) (by kernel_rfl) (by kernel_rfl) (by kernel_rfl) (by kernel_rfl) (fun _ _ _ h => h) (Or.inl ⟨by rfl, ?_⟩) (by assumption) ?_); rotate_left; (focus (intro w' hSw; (try dsimp only at hSw); go_simp; (try with_reducible rfl))); (try simp only [Act.put, List.setIfInBounds_toArray, List.set_cons_zero, List.set_cons_succ])
  (refine E_take (i := 6) (v := ?_) rfl rfl (by kernel_rfl) (by kernel_rfl) (by kernel_rfl) (by kernel_rfl) (by kernel_rfl) (fun _ _ _ h => h) (Or.inl ⟨by rfl, ?_⟩) (by assumption) ?_); rotate_left; (focus (intro w' hSw; (try dsimp only at hSw); go_simp; (try with_reducible rfl))); (try simp only [Act.put, List.setIfInBounds_toArray, List.set_cons_zero, List.set_cons_succ])
  (refine E_take (i := 7) (v := ?_) rfl rfl (by kernel_rfl) (by kernel_rfl) (by kernel_rfl) (by kernel_rfl) (by kernel_rfl) (fun _ _ _ h => h) (Or.inl ⟨by rfl, ?_⟩) (by assumption) ?_); rotate_left; (focus (intro w' hSw; (try dsimp only at hSw); go_simp; (try with_reducible rfl))); (try simp only [Act.put, List.setIfInBounds_toArray, List.set_cons_zero, List.set_cons_succ])
  (refine E_take (i := 8) (v := ?_) rfl rfl (by kernel_rfl) (by kernel_rfl) (by kernel_rfl) (by kernel_rfl) (by kernel_rfl) (fun _ _ _ h => h) (Or.inl ⟨by rfl, ?_⟩) (by assumption) ?_); rotate_left; (focus (intro w' hSw; (try dsimp only at hSw); go_simp; (try with_reducible rfl))); (try simp only [Act.put, List.setIfInBounds_toArray, List.set_cons_zero, List.set_cons_succ])
  (refine E_take (i := 9) (v := ?_) rfl rfl (by kernel_rfl) (by kernel_rfl) (by kernel_rfl) (by kernel_rfl) (by kernel_rfl) (fun _ _ _ h => h) (Or.inl ⟨by rfl, ?_⟩) (by assumption) ?_); rotate_left; (focus (intro w' hSw; (try dsimp only at hSw); go_simp; (try with_reducible rfl))); (try simp only [Act.put, List.setIfInBounds_toArray, List.set_cons_zero, List.set_cons_succ])
  (refine E_take (i := 13) (v := ?_) rfl rfl (by kernel_rfl) (by kernel_rfl) (by kernel_rfl) (by kernel_rfl) (by kernel_rfl) (fun _ _ _ h => h) (Or.inl ⟨by rfl, ?_⟩) (by assumption) ?_); rotate_left; (focus (intro w' hSw; (try dsimp only at hSw); go_simp; (try with_reducible rfl))); (try simp only [Act.put, List.setIfInBounds_toArray, List.set_cons_zero, List.set_cons_succ])
  (refine E_take (i := 14) (v := ?_) rfl rfl (by kernel_rfl) (by kernel_rfl) (by kernel_rfl) (by kernel_rfl) (by kernel_rfl) (fun _ _ _ h => h) (Or.inl ⟨by rfl, ?_⟩) (by assumption) ?_); rotate_left; (focus (intro w' hSw; (try dsimp only at hSw); go_simp; (try with_reducible rfl))); (try simp only [Act.put, List.setIfInBounds_toArray, List.set_cons_zero, List.set_cons_succ])
  (refine E_take (i := 15) (v := ?_) rfl rfl (by kernel_rfl) (by kernel_rfl) (by kernel_rfl) (by kernel_rfl) (by kernel_rfl) (fun _ _ _ h => h) (Or.inl ⟨by rfl, ?_⟩) (by assumption) ?_); rotate_left; (focus (intro w' hSw; (try dsimp only at hSw); go_simp; (try with_reducible rfl))); (try simp only [Act.put, List.setIfInBounds_toArray, List.set_cons_zero, List.set_cons_succ])
  (refine E_take (i := 16) (v := ?_) rfl rfl (by kernel_rfl) (by kernel_rfl) (by kernel_rfl) (by kernel_rfl) (by kernel_rfl) (fun _ _ _ h => h) (Or.inl ⟨by rfl, ?_⟩) (by assumption) ?_); rotate_left; (focus (intro w' hSw; (try dsimp only at hSw); go_simp; (try with_reducible rfl))); (try simp only [Act.put, List.setIfInBounds_toArray, List.set_cons_zero, List.set_cons_succ])
  (refine E_take (i := 17) (v := ?_) rfl rfl (by kernel_rfl) (by kernel_rfl) (by kernel_rfl) (by kernel_rfl) (by kernel_rfl) (fun _ _ _ h => h) (Or.inl ⟨by rfl, ?_⟩) (by assumption) ?_); rotate_left; (focus (intro w' hSw; (try dsimp only at hSw); go_simp; (try with_reducible rfl))); (try simp only [Act.put, List.setIfInBounds_toArray, List.set_cons_zero, List.set_cons_succ])
  rw [X1.out, X2.out]
  have hpt := twin_lt hd
  have hqt := twin_lt he
  have T0 := dFrom_twin ls d
  have U0 := dFrom_twin ls e
  rw [ht] at T0
  rw [hu] at U0
  have HC := Lib.hid (fun (v : World) (hb : Below w.heap.size w v) => iFrom_any (.slice (some ⟨bn, offn, none⟩) ns.length cn) vl ls (twin d) v (hl.below hb) hpt)
  have HD := Lib.hid (fun (v : World) (hb : Below w.heap.size w v) => iFrom_any (.slice (some ⟨bn, offn, none⟩) ns.length cn) vl ls (twin e) v (hl.below hb) hqt)
  rw [T0] at HC
  rw [U0] at HD
  generalize twin d = pd at *
  generalize twin e = pe at *
  have HT : Hid (∀ v : World, Below w.heap.size w v → v.cell? ⟨bn, offn + t * 2, none⟩ = some (.int .i64 (ndI ns t).1) ∧ v.cell? ⟨bn, offn + t * 2 + 1, none⟩ = some (.int .i64 (ndI ns t).2)) := Lib.hid (fun v hv => ⟨(hv.cell (p := ⟨bn, offn + t * 2, none⟩) hbn).trans t0, (hv.cell (p := ⟨bn, offn + t * 2 + 1, none⟩) hbn).trans t1⟩)
  have HU : Hid (∀ v : World, Below w.heap.size w v → v.cell? ⟨bn, offn + u * 2, none⟩ = some (.int .i64 (ndI ns u).1) ∧ v.cell? ⟨bn, offn + u * 2 + 1, none⟩ = some (.int .i64 (ndI ns u).2)) := Lib.hid (fun v hv => ⟨(hv.cell (p := ⟨bn, offn + u * 2, none⟩) hbn).trans u0, (hv.cell (p := ⟨bn, offn + u * 2 + 1, none⟩) hbn).trans u1⟩)
  refine E_phase (n := 26) (Inv := fun L a v => ∃ v7 v8 v9 v20 v21 v22 v28 v29 v30, a = {
      tmps := #[.int .i64 d, .int .i64 e, .pointer (some ⟨gW, 0, none⟩), .pointer (some ⟨gK, 0, none⟩), undef, undef, .int .i64 0, v7, v8, v9,
        .pointer (some ⟨gW, 0, none⟩), .slice (some ⟨bn, offn, none⟩) ns.length cn, .int .i64 k, .pointer (some ⟨bn, offn + k * 2, none⟩), .agg #[.int .i64 (ndI ns k).1, .int .i64 (ndI ns k).2],
        .pointer (some ⟨gW, 0, none⟩), .slice (some ⟨bn, offn, none⟩) ns.length cn, .agg #[.slice (some ⟨bn, offn, none⟩) ns.length cn, vl], .int .i64 d, .int .i64 pd, v20, v21, v22,
        .pointer (some ⟨gW, 0, none⟩), .slice (some ⟨bn, offn, none⟩) ns.length cn, .agg #[.slice (some ⟨bn, offn, none⟩) ns.length cn, vl], .int .i64 e, .int .i64 pe, v28, v29, v30,
        undef, undef, undef, undef, undef, undef, undef, undef, undef], defers := [] } ∧
      Below w.heap.size w v ∧ (∀ j ∈ [0, 1, 2, 3, 4, 5, 6, 7, 8, 9, 13, 14, 15, 16, 17], tk L j = true) ∧
      Aft L 10 (v20 = .int .i64 t) ∧ Aft L 11 (v21 = .pointer (some ⟨bn, offn + t * 2, none⟩)) ∧ Aft L 12 (v22 = .agg #[.int .i64 (ndI ns t).1, .int .i64 (ndI ns t).2]) ∧
      Aft L 18 (v28 = .int .i64 u) ∧ Aft L 19 (v29 = .pointer (some ⟨bn, offn + u * 2, none⟩)) ∧ Aft L 20 (v30 = .agg #[.int .i64 (ndI ns u).1, .int .i64 (ndI ns u).2]) ∧
      One L 21 24 w.heap.size 106 #[.int .i64 0, .int .i64 0] #[.int .i64 (ndI ns k).1, .int .i64 (ndI ns k).2] v7 v ∧
      One L 22 25 w.heap.size 106 #[.int .i64 0, .int .i64 0] #[.int .i64 (ndI ns t).1, .int .i64 (ndI ns t).2] v8 v ∧
      One L 23 26 w.heap.size 106 #[.int .i64 0, .int .i64 0] #[.int .i64 (ndI ns u).1, .int .i64 (ndI ns u).2] v9 v ∧
      Apart2 L 21 22 v7 v8 ∧ Apart2 L 21 23 v7 v9 ∧ Apart2 L 22 23 v8 v9) (by decide) (by kernel_rfl) (by kernel_rfl) ?_ ?_ 12 _ _ _ rfl ?_ (by kernel_rfl) ?_
  · intro L a v hI i hi hr
    obtain ⟨v7, v8, v9, v20, v21, v22, v28, v29, v30, rfl, hb, hpre, f10, f11, f12, f18, f19, f20, o7, o8, o9, p78, p79, p89⟩ := hI
    have hun := ready_un hr
    have hsv := HS.out v hb
    rcases (show i = 10 ∨ i = 11 ∨ i = 12 ∨ i = 18 ∨ i = 19 ∨ i = 20 ∨ i = 21 ∨ i = 22 ∨ i = 23 ∨ i = 24 ∨ i = 25 ∨ i ∈ [0, 1, 2, 3, 4, 5, 6, 7, 8, 9, 13, 14, 15, 16, 17] by simp only [List.mem_cons, List.mem_nil_iff, or_false]; omega) with rfl | rfl | rfl | rfl | rfl | rfl | rfl | rfl | rfl | rfl | rfl | hm
    · -- 10
      refine wp_step rfl (fun K hK => ?_)
      rw [if_pos (by rfl)]
      go_simp
      go_at_call 241
      refine (HC.out _ hb).mono ?_
      rintro en w1 ⟨rfl, hb1⟩
      go_wp2_with fail
      have hbw := hb.trans (hb1.mono hb.size)
      exact ⟨HS.out _ hbw, _, _, _, _, _, _, _, _, _, rfl, hbw, preS hpre, Aft.new rfl, f11.keep (by decide), f12.keep (by decide), f18.keep (by decide), f19.keep (by decide), f20.keep (by decide), o7.step (by decide) (by decide) hb1, o8.step (by decide) (by decide) hb1, o9.step (by decide) (by decide) hb1, p78.step (by decide) (by decide), p79.step (by decide) (by decide), p89.step (by decide) (by decide)⟩
    · -- 11
      obtain rfl := f10 (ready_tk hr rfl (by kernel_rfl))
      refine wp_step rfl (fun K hK => ?_)
      rw [if_pos (by rfl)]
      go_simp
      exact hK _ _ ⟨hsv, _, _, _, _, _, _, _, _, _, rfl, hb, preS hpre, f10.keep (by decide), Aft.new rfl, f12.keep (by decide), f18.keep (by decide), f19.keep (by decide), f20.keep (by decide), o7.step (by decide) (by decide) (Below.refl _ _), o8.step (by decide) (by decide) (Below.refl _ _), o9.step (by decide) (by decide) (Below.refl _ _), p78.step (by decide) (by decide), p79.step (by decide) (by decide), p89.step (by decide) (by decide)⟩
    · -- 12
      obtain rfl := f11 (ready_tk hr rfl (by kernel_rfl))
      obtain ⟨c0, c1⟩ := HT.out v hb
      refine wp_step rfl (fun K hK => ?_)
      rw [if_pos (by rfl)]
      go_simp
      exact hK _ _ ⟨hsv, _, _, _, _, _, _, _, _, _, rfl, hb, preS hpre, f10.keep (by decide), f11.keep (by decide), Aft.new rfl, f18.keep (by decide), f19.keep (by decide), f20.keep (by decide), o7.step (by decide) (by decide) (Below.refl _ _), o8.step (by decide) (by decide) (Below.refl _ _), o9.step (by decide) (by decide) (Below.refl _ _), p78.step (by decide) (by decide), p79.step (by decide) (by decide), p89.step (by decide) (by decide)⟩
    · -- 18
      refine wp_step rfl (fun K hK => ?_)
      rw [if_pos (by rfl)]
      go_simp
      go_at_call 241
      refine (HD.out _ hb).mono ?_
      rintro en w1 ⟨rfl, hb1⟩
      go_wp2_with fail
      have hbw := hb.trans (hb1.mono hb.size)
      exact ⟨HS.out _ hbw, _, _, _, _, _, _, _, _, _, rfl, hbw, preS hpre, f10.keep (by decide), f11.keep (by decide), f12.keep (by decide), Aft.new rfl, f19.keep (by decide), f20.keep (by decide), o7.step (by decide) (by decide) hb1, o8.step (by decide) (by decide) hb1, o9.step (by decide) (by decide) hb1, p78.step (by decide) (by decide), p79.step (by decide) (by decide), p89.step (by decide) (by decide)⟩
    · -- 19
      obtain rfl := f18 (ready_tk hr rfl (by kernel_rfl))
      refine wp_step rfl (fun K hK => ?_)
      rw [if_pos (by rfl)]
      go_simp
      exact hK _ _ ⟨hsv, _, _, _, _, _, _, _, _, _, rfl, hb, preS hpre, f10.keep (by decide), f11.keep (by decide), f12.keep (by decide), f18.keep (by decide), Aft.new rfl, f20.keep (by decide), o7.step (by decide) (by decide) (Below.refl _ _), o8.step (by decide) (by decide) (Below.refl _ _), o9.step (by decide) (by decide) (Below.refl _ _), p78.step (by decide) (by decide), p79.step (by decide) (by decide), p89.step (by decide) (by decide)⟩
    · -- 20
      obtain rfl := f19 (ready_tk hr rfl (by kernel_rfl))
      obtain ⟨c0, c1⟩ := HU.out v hb
      refine wp_step rfl (fun K hK => ?_)
      rw [if_pos (by rfl)]
      go_simp
      exact hK _ _ ⟨hsv, _, _, _, _, _, _, _, _, _, rfl, hb, preS hpre, f10.keep (by decide), f11.keep (by decide), f12.keep (by decide), f18.keep (by decide), f19.keep (by decide), Aft.new rfl, o7.step (by decide) (by decide) (Below.refl _ _), o8.step (by decide) (by decide) (Below.refl _ _), o9.step (by decide) (by decide) (Below.refl _ _), p78.step (by decide) (by decide), p79.step (by decide) (by decide), p89.step (by decide) (by decide)⟩
    · -- 21
      refine wp_step rfl (fun K hK => ?_)
      rw [if_pos (by rfl)]
      go_simp
      have hb1 : Below v.heap.size v (v.alloc (.cells #[.int .i64 0, .int .i64 0] 106)) := (Below.refl _ _).alloc (Nat.le_refl _) _
      have hbw := hb.trans (hb1.mono hb.size)
      exact hK _ _ ⟨HS.out _ hbw, _, _, _, _, _, _, _, _, _, rfl, hbw, preS hpre, f10.keep (by decide), f11.keep (by decide), f12.keep (by decide), f18.keep (by decide), f19.keep (by decide), f20.keep (by decide), o7.lay hun (by decide) hb.size, o8.step (by decide) (by decide) hb1, o9.step (by decide) (by decide) hb1, Apart2.newL o8 (by decide), Apart2.newL o9 (by decide), p89.step (by decide) (by decide)⟩
    · -- 22
      refine wp_step rfl (fun K hK => ?_)
      rw [if_pos (by rfl)]
      go_simp
      have hb1 : Below v.heap.size v (v.alloc (.cells #[.int .i64 0, .int .i64 0] 106)) := (Below.refl _ _).alloc (Nat.le_refl _) _
      have hbw := hb.trans (hb1.mono hb.size)
      exact hK _ _ ⟨HS.out _ hbw, _, _, _, _, _, _, _, _, _, rfl, hbw, preS hpre, f10.keep (by decide), f11.keep (by decide), f12.keep (by decide), f18.keep (by decide), f19.keep (by decide), f20.keep (by decide), o7.step (by decide) (by decide) hb1, o8.lay hun (by decide) hb.size, o9.step (by decide) (by decide) hb1, Apart2.newR o7 (by decide), p79.step (by decide) (by decide), Apart2.newL o9 (by decide)⟩
    · -- 23
      refine wp_step rfl (fun K hK => ?_)
      rw [if_pos (by rfl)]
      go_simp
      have hb1 : Below v.heap.size v (v.alloc (.cells #[.int .i64 0, .int .i64 0] 106)) := (Below.refl _ _).alloc (Nat.le_refl _) _
      have hbw := hb.trans (hb1.mono hb.size)
      exact hK _ _ ⟨HS.out _ hbw, _, _, _, _, _, _, _, _, _, rfl, hbw, preS hpre, f10.keep (by decide), f11.keep (by decide), f12.keep (by decide), f18.keep (by decide), f19.keep (by decide), f20.keep (by decide), o7.step (by decide) (by decide) hb1, o8.step (by decide) (by decide) hb1, o9.lay hun (by decide) hb.size, p78.step (by decide) (by decide), Apart2.newR o7 (by decide), Apart2.newR o8 (by decide)⟩
    · -- 24
      have h21 := ready_tk (j := 21) hr rfl (by kernel_rfl)
      obtain ⟨g, rfl, hg, hB⟩ := o7.zero h21 hun
      obtain ⟨b_0, b_1, b_f0, b_f1⟩ := hB.b2
      refine wp_step rfl (fun K hK => ?_)
      rw [if_pos (by rfl)]
      go_simp
      have hbw := (hb.setCell (p := ⟨g, 0, none⟩) hg (.int .i64 (ndI ns k).1)).setCell (p := ⟨g, 1, none⟩) hg (.int .i64 (ndI ns k).2)
      exact hK _ _ ⟨HS.out _ hbw, _, _, _, _, _, _, _, _, _, rfl, hbw, preS hpre, f10.keep (by decide), f11.keep (by decide), f12.keep (by decide), f18.keep (by decide), f19.keep (by decide), f20.keep (by decide), o7.fill h21 hun rfl (by decide), o8.far (by decide) (by decide) (fun h => (p78 h21 h).symm) 0 1 _ _, o9.far (by decide) (by decide) (fun h => (p79 h21 h).symm) 0 1 _ _, p78.step (by decide) (by decide), p79.step (by decide) (by decide), p89.step (by decide) (by decide)⟩
    · -- 25
      have h22 := ready_tk (j := 22) hr rfl (by kernel_rfl)
      obtain ⟨g, rfl, hg, hB⟩ := o8.zero h22 hun
      obtain rfl := f12 (ready_tk hr rfl (by kernel_rfl))
      obtain ⟨b_0, b_1, b_f0, b_f1⟩ := hB.b2
      refine wp_step rfl (fun K hK => ?_)
      rw [if_pos (by rfl)]
      go_simp
      have hbw := (hb.setCell (p := ⟨g, 0, none⟩) hg (.int .i64 (ndI ns t).1)).setCell (p := ⟨g, 1, none⟩) hg (.int .i64 (ndI ns t).2)
      exact hK _ _ ⟨HS.out _ hbw, _, _, _, _, _, _, _, _, _, rfl, hbw, preS hpre, f10.keep (by decide), f11.keep (by decide), f12.keep (by decide), f18.keep (by decide), f19.keep (by decide), f20.keep (by decide), o7.far (by decide) (by decide) (fun h => p78 h h22) 0 1 _ _, o8.fill h22 hun rfl (by decide), o9.far (by decide) (by decide) (fun h => (p89 h22 h).symm) 0 1 _ _, p78.step (by decide) (by decide), p79.step (by decide) (by decide), p89.step (by decide) (by decide)⟩
    · rw [hpre i hm] at hun; cases hun
  · intro a v hI
    obtain ⟨v7, v8, v9, v20, v21, v22, v28, v29, v30, rfl, hb, hpre, f10, f11, f12, f18, f19, f20, o7, o8, o9, p78, p79, p89⟩ := hI
    obtain rfl := f20 (by kernel_rfl)
    obtain ⟨g9, rfl, hg9, hB⟩ := o9.zero (by kernel_rfl) (by kernel_rfl)
    obtain ⟨g7, rfl, hg7, hB7⟩ := o7.full (by kernel_rfl)
    obtain ⟨g8, rfl, hg8, hB8⟩ := o8.full (by kernel_rfl)
    have n7 : g7 ≠ g9 := fun h => p79 (by kernel_rfl) (by kernel_rfl) (by rw [h])
    have n8 : g8 ≠ g9 := fun h => p89 (by kernel_rfl) (by kernel_rfl) (by rw [h])
    obtain ⟨b_0, b_1, b_f0, b_f1⟩ := hB.b2
    refine E_step (fuel := 0) (n := 26) (i := 26) rfl (by kernel_rfl) (fun K hK => ?_)
    rw [if_pos (by rfl)]
    go_simp
    refine hK _ _ (fun h => absurd h (by decide)) (fun _ => ?_)
    clear hK K
    refine E_done (by kernel_rfl) ?_ _
    have hbw := (hb.setCell (p := ⟨g9, 0, none⟩) hg9 (.int .i64 (ndI ns u).1)).setCell (p := ⟨g9, 1, none⟩) hg9 (.int .i64 (ndI ns u).2)
    have hB9 : Blk ((v.setCell ⟨g9, 0, none⟩ (.int .i64 (ndI ns u).1)).setCell ⟨g9, 1, none⟩ (.int .i64 (ndI ns u).2)) g9 106 #[.int .i64 (ndI ns u).1, .int .i64 (ndI ns u).2] := by
      have := (hB.set_ 0 (.int .i64 (ndI ns u).1)).set_ 1 (.int .i64 (ndI ns u).2)
      simpa using this
    have hB7' := (hB7.far (p := ⟨g9, 0, none⟩) n7 (.int .i64 (ndI ns u).1)).far (p := ⟨g9, 1, none⟩) n7 (.int .i64 (ndI ns u).2)
    have hB8' := (hB8.far (p := ⟨g9, 0, none⟩) n8 (.int .i64 (ndI ns u).1)).far (p := ⟨g9, 1, none⟩) n8 (.int .i64 (ndI ns u).2)
    generalize ((v.setCell ⟨g9, 0, none⟩ (.int .i64 (ndI ns u).1)).setCell ⟨g9, 1, none⟩ (.int .i64 (ndI ns u).2)) = w3 at *
    clear hB hB7 hB8 b_0 b_1 b_f0 b_f1 hb o7 o8 o9 p78 p79 p89 f10 f11 f12 f18 f19 f20 hpre
    obtain ⟨b_0, b_1, b_f0, b_f1⟩ := hB7'.b2
    obtain ⟨c_0, c_1, c_f0, c_f1⟩ := hB8'.b2
    obtain ⟨f_0, f_1, f_f0, f_f1⟩ := hB9.b2
    by_cases hde : d = e
    · have e1 : ((d : Int) == (e : Int)) = true := by simp [hde]
      have HR : Hid (cmpD ns ls k d e = 0) := Lib.hid (by simp [cmpD, hde])
      go_wp2
      go_ret
      exact ⟨ret_int HR.out.symm, hbw⟩
    · have e1 : ((d : Int) == (e : Int)) = false := by simp; omega
      obtain ⟨x, hx⟩ : ∃ x, befB (ndI ns k).1 (ndI ns k).2 (ndI ns t).1 (ndI ns t).2 (ndI ns u).1 (ndI ns u).2 = x := ⟨_, rfl⟩
      have HR : Hid (cmpD ns ls k d e = if x then -1 else 1) := Lib.hid (by
        unfold cmpD bfD
        rw [if_neg hde, ht, hu, hx])
      go_wp2_with fail
      refine (iBefore_at (ndI ns k) (ndI ns t) (ndI ns u) x _ hx).mono ?_
      rintro en w4 ⟨rfl, hb4⟩
      have hbw4 := hbw.trans (hb4.mono hbw.size)
      cases x
      · go_wp2
        go_ret
        exact ⟨ret_int HR.out.symm, hbw4⟩
      · go_wp2
        go_ret
        exact ⟨ret_int HR.out.symm, hbw4⟩
  · intro j h1 h2
    have : j = 26 := by
      have h3 : j < 27 := h2
      omega
    subst this
    rfl
  · refine ⟨_, _, _, _, _, _, _, _, _, rfl, (Below.refl _ _).drew, by decide, Aft.no rfl, Aft.no rfl, Aft.no rfl, Aft.no rfl, Aft.no rfl, Aft.no rfl, One.start rfl rfl, One.start rfl rfl, One.start rfl rfl, Apart2.start rfl, Apart2.start rfl, Apart2.start rfl⟩
end Go.Proofs.YtnjcpljhmhdhkaaGreat

namespace Go.Proofs.YtnjcpljhmhdhkaaGreat
open Go.RowKit
set_option maxHeartbeats 2000000 in
set_option maxRecDepth 100000 in
theorem insSort_nil (f : Nat) (lb : Array Value) (w : World) :
    Calls Tryz.prog 246 #[.slice none 0 0, .int .i64 0, .int .i64 0, .func (.func f) #[] lb] w
      fun e w' => e = .returned (.tuple #[]) ∧ Below w.heap.size w w' := by
  go_enter Tryz.func246, Tryz.ntmps246
  go_wp2
  refine wp_loop_rounds 1 ?_
  rw [rounds_succ]
  go_wp2
  go_end0
  exact ⟨rfl, by exact bel_⟩
set_option maxHeartbeats 4000000 in
set_option maxRecDepth 100000 in
theorem pdq_any (base f g cap : Nat) (k : Int) (lb : Array Value) (G : List Nat) (c : Nat → Nat → Int) (lt : Nat → Nat → Bool) (w : World) (hc : CmpAt f lb G c (some g) w) (hlt : ∀ d e, decide (c d e < 0) = lt d e)
    (ho : OwnI base w (.slice (some ⟨g, 0, none⟩) G.length cap) (natI G)) (h12 : G.length ≤ 12) (ef : Enters Tryz.prog f) :
    Calls Tryz.prog 273 #[.slice (some ⟨g, 0, none⟩) G.length cap, .int .i64 0, .int .i64 G.length, .int .i64 k, .func (.func f) #[] lb] w
      fun e w' => e = .returned (.tuple #[]) ∧ OwnI base w' (.slice (some ⟨g, 0, none⟩) G.length cap) (natI (isoK lt G G.length)) ∧ w.grownBy w' (some g) := by
  have h1 : (G.length : Int) ≤ 12 := by omega
  go_enter Tryz.func273, Tryz.ntmps273
  go_wp2
  refine wp_loop_rounds 1 ?_
  rw [rounds_succ]
  go_wp2_with fail
  refine (insSort_any base f g cap lb G c lt _ hc hlt ho h12 ef).mono ?_
  rintro e w1 ⟨rfl, ho1, hg1⟩
  go_wp2
  exact bodyPost_ret (v := .tuple #[]) (by simp [results, Tryz.results273, go_sem]) rfl ⟨rfl, ho1, hg1⟩
set_option maxHeartbeats 2000000 in
set_option maxRecDepth 100000 in
theorem sortF_any (base f g cap : Nat) (lb : Array Value) (G : List Nat) (c : Nat → Nat → Int) (lt : Nat → Nat → Bool) (w : World) (hc : CmpAt f lb G c (some g) w) (hlt : ∀ d e, decide (c d e < 0) = lt d e)
    (ho : OwnI base w (.slice (some ⟨g, 0, none⟩) G.length cap) (natI G)) (h12 : G.length ≤ 12) (ef : Enters Tryz.prog f) :
    Calls Tryz.prog 267 #[.slice (some ⟨g, 0, none⟩) G.length cap, .func (.func f) #[] lb] w
      fun e w' => e = .returned (.tuple #[]) ∧ OwnI base w' (.slice (some ⟨g, 0, none⟩) G.length cap) (natI (isoK lt G G.length)) ∧ w.grownBy w' (some g) := by
  have h0 : (0 : Int) ≤ (G.length : Int) := by omega
  have h1 : (G.length : Int) ≤ 12 := by omega
  go_enter Tryz.func267, Tryz.ntmps267
  go_wp2_with (go_at_call 274; refine (len_any _ _ h0 h1).mono ?_; rintro e w' ⟨⟨k, rfl⟩, rfl⟩)
  refine (pdq_any base f g cap _ lb G c lt _ hc hlt ho h12 ef).mono ?_
  rintro e w1 ⟨rfl, ho1, hg1⟩
  go_wp2
  go_end0
  exact ⟨rfl, ho1, hg1⟩
set_option maxHeartbeats 2000000 in
set_option maxRecDepth 100000 in
theorem pdq_nil (f : Nat) (k : Int) (lb : Array Value) (w : World) :
    Calls Tryz.prog 273 #[.slice none 0 0, .int .i64 0, .int .i64 0, .int .i64 k, .func (.func f) #[] lb] w
      fun e w' => e = .returned (.tuple #[]) ∧ Below w.heap.size w w' := by
  go_enter Tryz.func273, Tryz.ntmps273
  go_wp2
  refine wp_loop_rounds 1 ?_
  rw [rounds_succ]
  go_wp2_with fail
  refine (insSort_nil f lb _).mono ?_
  rintro e w1 ⟨rfl, hb1⟩
  go_wp2
  exact bodyPost_ret (v := .tuple #[]) (by simp [results, Tryz.results273, go_sem]) rfl ⟨rfl, hb1⟩
set_option maxHeartbeats 2000000 in
set_option maxRecDepth 100000 in
theorem sortF_nil (f : Nat) (lb : Array Value) (w : World) :
    Calls Tryz.prog 267 #[.slice none 0 0, .func (.func f) #[] lb] w
      fun e w' => e = .returned (.tuple #[]) ∧ Below w.heap.size w w' := by
  go_enter Tryz.func267, Tryz.ntmps267
  go_wp2_with (go_at_call 274; refine (len_any 0 _ (by omega) (by omega)).mono ?_; rintro e w' ⟨⟨k, rfl⟩, rfl⟩)
  refine (pdq_nil f _ lb _).mono ?_
  rintro e w1 ⟨rfl, hb1⟩
  go_wp2
  go_end0
  exact ⟨rfl, hb1⟩
theorem frD_len (ls : List Pr) (k : Nat) : ∀ d, (frD ls k d).length ≤ d
  | 0 => by simp [frD]
  | d + 1 => by
    have := frD_len ls k d
    unfold frD
    split <;> simp <;> omega
set_option maxHeartbeats 4000000 in
set_option maxRecDepth 100000 in
theorem iAround_any (vn vl : Value) (ns ls : List Pr) (k : Nat) (w : World) (hn : RP w vn ns) (hl : RP w vl ls) (hk : k < ns.length) (hwin : WinOk ns ls) :
    Calls Tryz.prog 262 #[.agg #[vn, vl], .int .i64 k] w (RetI (natI (ardS ns ls k (2 * ls.length))) w) := by
  have hm20 := hwin.2.2.1
  obtain ⟨Al, cl, rfl, hcl, hml, _⟩ := hl.formI
  unfold maxLen at hml
  obtain ⟨i0, hi, iz0, iz1, iz2⟩ := info_parts infoInt
  go_enter Tryz.func262, Tryz.ntmps262
  go_wp2
  go_loopw [5, 6] (fun v i wr => ∃ d : Nat, d ≤ 2 * ls.length ∧ i = .int .i64 d ∧ OwnI (w.heap.size + 1 + 1) wr v (natI (frD ls k d)) ∧ Blk wr w.heap.size 27 #[vn, .slice Al ls.length cl] ∧ Blk wr (w.heap.size + 1) 3 #[.int .i64 k] ∧ Below w.heap.size w wr) (fun _ i _ => 2 * ls.length - (intOf i).toNat)
  case atStart => exact ⟨0, Nat.zero_le _, rfl, OwnI.nil _ _, (Blk.newAt rfl).alloc _, Blk.newAt (by simp), by exact bel_⟩
  case round =>
    obtain ⟨d, hd, rfl, ho, hW, hK, hbl⟩ := hrel
    have hsz := hW.lt
    have hsk := hK.lt
    by_cases hlt : d < 2 * ls.length
    · have hlt1 : (d : Int) < 2 * (ls.length : Int) := by omega
      have hlr : RP wr (.slice Al ls.length cl) ls := hl.below hbl
      have kk := hK.cell 0
      simp only [List.getElem?_toArray, List.getElem?_cons_zero] at kk
      obtain ⟨a_0, a_1⟩ := hW.c2
      have HX : Hid (((dFrom ls d) == (k : Int)) = decide (dFrom ls d = k)) := Lib.hid rfl
      go_wp2_with fail
      (refine wp_region_quietG (by kernel_rfl) (by kernel_rfl) (fun hG => ?_))
      repeat (go_big_quiet_step ((go_at_call 241; exact quietG (iFrom_any _ _ ls d _ (RS.grw _ hlr) hlt))))
      (refine wpQuiet_nil ?_); (clear hG); (rintro w3 ⟨⟨_, hb3⟩, rfl⟩); (try dsimp only); (first | (with_reducible have hcf3 := bcell_drew hb3) | have hcf3 := bcell hb3); obtain ⟨hc3, hf3⟩ := hcf3; have hz3 := hb3.size; (try simp at hz3); (try have hp3_0 : w.heap.size < w3.heap.size := by omega); (try have hp3_1 : w.heap.size + 1 < w3.heap.size := by omega); (try have hp3_2 : w.heap.size + 1 + 1 < w3.heap.size := by omega); (try have hp3_3 : w.heap.size + 1 + 1 + 1 < w3.heap.size := by omega)
      have hbl3 : Below w.heap.size w w3 := hbl.trans (hb3.mono hbl.size)
      have ho3 := ho.kept hb3
      have hW3 := hW.below hb3 hsz
      have hK3 := hK.below hb3 hsk
      clear hb3 hc3 hf3 hlr ho hW hK hbl a_0 a_1 kk
      by_cases hfr : dFrom ls d = k
      · have e1 : (dFrom ls d == (k : Int)) = true := by simp [hfr]
        have HS : Hid (natI (frD ls k (d + 1)) = natI (frD ls k d) ++ [(d : Int)]) := Lib.hid (by rw [frD_yes hfr]; simp [natI])
        have hle := frD_len ls k d
        have HGL := Lib.hid (natI_length (frD ls k d))
        generalize frD ls k d = G at *
        have hG : G.length ≤ 40 := by omega
        clear hle HX
        go_wp2_with (at_builtin; refine wpList_append_own _ rfl _ _ 31 rfl (w.heap.size + 1 + 1) 3 i0 (.int .i64 0) 1 8 Tryz.underlying31 hi iz0 iz1 iz2 rfl (by decide) _ _ _ rfl (World.ownsRow.alloc ho3 _) ⟨w3.heap.size, 0, none⟩ 1 1 [.int .i64 _] rfl rfl (cell_one_new _ _ _) (by intro u hu; simp at hu; subst hu; rfl) (by rw [HGL.out]; unfold maxLen; omega) (by rw [HGL.out]; omega) (by simp; omega) ?_)
        intro v2 w2 hown2 hg2 hne2
        have hbl2 : Below w.heap.size w w2 := (hbl3.alloc hbl3.size (.cells #[.int .i64 (d : Int)] 3)).grown hg2 (by simp; have := hbl3.size; omega) (fun k hk => by have := (ho3.lt k hk).1; omega)
        have hW2 : Blk w2 w.heap.size 27 #[vn, .slice Al ls.length cl] := (hg2.block _ (by simp; omega) (fun e => by have := (ho3.lt _ e.symm).1; omega)).trans (hW3.alloc _)
        have hK2 : Blk w2 (w.heap.size + 1) 3 #[.int .i64 k] := (hg2.block _ (by simp; omega) (fun e => by have := (ho3.lt _ e.symm).1; omega)).trans (hK3.alloc _)
        have HO := Lib.hid (OwnI.snoc hown2)
        clear hown2 hg2 ho3 hW3 hK3 hbl3 hne2 hfr
        go_wp2
        go_roundw
        case rel => exact ⟨d + 1, by omega, by go_num, by rw [HS.out]; exact HO.out, hW2, hK2, hbl2⟩
        case measure => simp [intOf]; omega
      · have e1 : (dFrom ls d == (k : Int)) = false := by simp [hfr]
        have HS : Hid (frD ls k (d + 1) = frD ls k d) := Lib.hid (frD_no hfr)
        clear hfr HX
        go_wp2
        go_roundw
        case rel => exact ⟨d + 1, by omega, by go_num, by rw [HS.out]; exact ho3, hW3, hK3, hbl3⟩
        case measure => simp [intOf]; omega
    · have hdd : d = 2 * ls.length := by omega
      subst hdd
      obtain ⟨a_0, a_1⟩ := hW.c2
      have hAS := iso_ard ns ls k (2 * ls.length)
      have h12 := frD_le hwin k
      have hmem := frD_lt ls k (2 * ls.length)
      generalize frD ls k (2 * ls.length) = G at *
      rcases hcase : ho.2 with ⟨rfl, e1⟩ | ⟨gb, cap, cur, rfl, hbg, hh, hrest⟩
      · have hG0 : G = [] := by rw [natI_length] at e1; exact List.eq_nil_of_length_eq_zero e1
        have HR : Hid (ardS ns ls k (2 * ls.length) = []) := Lib.hid (by rw [← hAS, hG0]; rfl)
        clear hcase hAS hmem e1 ho
        go_wp2_with fail
        refine (sortF_nil _ _ _).mono ?_
        rintro e w4 ⟨rfl, hb4⟩
        go_wp2
        go_ret
        exact ⟨_, rfl, by rw [HR.out]; exact OwnI.nil _ _, hbl.trans (hb4.mono hbl.size)⟩
      · have hgz := (ho.lt gb rfl).2
        have hgl := natI_length G
        rw [hgl] at ho ⊢
        have hc : CmpAt 268 #[.pointer (some ⟨w.heap.size, 0, none⟩), .pointer (some ⟨w.heap.size + 1, 0, none⟩)] G (cmpD ns ls k) (some gb) wr := by
          intro v d e hd he hgv
          have hbv : Below w.heap.size w v := hbl.grown hgv hbl.size (fun k hk => by cases hk; omega)
          have hWv := hW.grown hgv (by omega)
          have hKv := hK.grown hgv (by omega)
          have kk := hKv.cell 0
          simp only [List.getElem?_toArray, List.getElem?_cons_zero] at kk
          exact cmp_any w.heap.size (w.heap.size + 1) vn (.slice Al ls.length cl) ns ls k d e v hWv kk hKv.lt (hn.below hbv) (hl.below hbv) hk (hmem d hd).1 (hmem e he).1 hwin
        have HC := Lib.hid hc
        have HO := Lib.hid ho
        have HAS := Lib.hid hAS
        clear hc ho hcase hh hrest hgl hmem hAS
        go_wp2_with fail
        refine (sortF_any (w.heap.size + 1 + 1) _ gb cap _ G (cmpD ns ls k) (bfD ns ls k) _ HC.out (cmpD_lt ns ls k) HO.out h12 (enters_of Tryz.func268 (by kernel_rfl) rfl)).mono ?_
        rintro e w4 ⟨rfl, ho4, hg4⟩
        rw [HAS.out] at ho4
        go_wp2
        go_ret
        exact ⟨_, rfl, ho4.mono (by omega), hbl.grown hg4 hbl.size (fun k hk => by cases hk; omega)⟩
end Go.Proofs.YtnjcpljhmhdhkaaGreat

namespace Go.Proofs.YtnjcpljhmhdhkaaGreat
def seenB (F : List (List Nat)) (d : Nat) : Bool := F.any (·.contains d)
def facesK (ns ls : List Pr) : Nat → List (List Nat)
  | 0 => []
  | m + 1 => if seenB (facesK ns ls m) m then facesK ns ls m else facesK ns ls m ++ [walkD ns ls m]
theorem facesK_yes {ns ls : List Pr} {m : Nat} (h : seenB (facesK ns ls m) m = true) : facesK ns ls (m + 1) = facesK ns ls m := by simp [facesK, h]
theorem facesK_no {ns ls : List Pr} {m : Nat} (h : seenB (facesK ns ls m) m = false) : facesK ns ls (m + 1) = facesK ns ls m ++ [walkD ns ls m] := by simp [facesK, h]
def facesD (ns ls : List Pr) : List (List Nat) := facesK ns ls (2 * ls.length)
theorem facesK_len (ns ls : List Pr) : ∀ m, (facesK ns ls m).length ≤ m
  | 0 => by simp [facesK]
  | m + 1 => by
    have := facesK_len ns ls m
    cases h : seenB (facesK ns ls m) m
    · rw [facesK_no h]; simp; omega
    · rw [facesK_yes h]; omega
theorem walk_bd {ns ls : List Pr} (hld : ∀ j : Nat, j < ls.length → leadB ns (ndI ls j) = true) {d : Nat} (hd : d < 2 * ls.length) : ∀ e ∈ walkD ns ls d, e < 2 * ls.length := by
  intro e he
  unfold walkD walkK at he
  rw [List.mem_map] at he
  obtain ⟨i, _, rfl⟩ := he
  exact orb_lt hld hd i
theorem walk_len {ns ls : List Pr} (hld : ∀ j : Nat, j < ls.length → leadB ns (ndI ls j) = true) {d : Nat} (hd : d < 2 * ls.length) : 0 < (walkD ns ls d).length ∧ (walkD ns ls d).length ≤ 2 * ls.length := by
  unfold walkD
  rw [walkK_length]
  have := per_spec hld hd
  exact ⟨this.1, this.2.1⟩
theorem facesK_bd {ns ls : List Pr} (hld : ∀ j : Nat, j < ls.length → leadB ns (ndI ls j) = true) : ∀ m, m ≤ 2 * ls.length → ∀ f ∈ facesK ns ls m, (∀ e ∈ f, e < 2 * ls.length) ∧ 0 < f.length ∧ f.length ≤ 2 * ls.length
  | 0, _, f, hf => by simp [facesK] at hf
  | m + 1, hm, f, hf => by
    cases h : seenB (facesK ns ls m) m
    · rw [facesK_no h, List.mem_append, List.mem_singleton] at hf
      rcases hf with hf | rfl
      · exact facesK_bd hld m (by omega) f hf
      · exact ⟨walk_bd hld (by omega), walk_len hld (by omega)⟩
    · rw [facesK_yes h] at hf; exact facesK_bd hld m (by omega) f hf
end Go.Proofs.YtnjcpljhmhdhkaaGreat
