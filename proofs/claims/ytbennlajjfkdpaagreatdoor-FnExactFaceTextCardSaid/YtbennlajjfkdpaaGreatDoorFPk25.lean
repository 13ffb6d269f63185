/- part 25 -/
import Derived.Test.YtbennlajjfkdpaaGreatDoorFPk20
set_option linter.unusedSimpArgs false
set_option linter.unusedVariables false
namespace Go.Proofs.YtbennlajjfkdpaaGreatDoor
open Go.RowKit
def cmpD (ns ls : List Pr) (k d e : Nat) : Int := if d = e then 0 else if bfD ns ls k d e then -1 else 1
theorem bef_self (ax ay bx by' : Int) : befB ax ay bx by' bx by' = false := by
  unfold befB
  rw [if_pos rfl]
  have : turnI ax ay bx by' bx by' = 0 := turn_self2 (ax, ay) (bx, by')
  rw [this]
  simp
theorem cmpD_lt (ns ls : List Pr) (k d e : Nat) : decide (cmpD ns ls k d e < 0) = bfD ns ls k d e := by
  unfold cmpD
  by_cases h : d = e
  · subst h
    rw [if_pos rfl]
    unfold bfD
    rw [bef_self]
    rfl
  · rw [if_neg h]
    cases bfD ns ls k d e <;> rfl
set_option maxHeartbeats 4000000 in
set_option maxRecDepth 100000 in
theorem cmp_any (gW gK : Nat) (vn vl : Value) (ns ls : List Pr) (k d e : Nat) (w : World) (hW : Blk w gW 31 #[vn, vl]) (hKc : w.cell? ⟨gK, 0, none⟩ = some (.int .i64 k)) (hKl : gK < w.heap.size) (hn : RP w vn ns) (hl : RP w vl ls)
    (hk : k < ns.length) (hd : d < 2 * ls.length) (he : e < 2 * ls.length) (hwin : WinOk ns ls) :
    Calls Tryz.prog 117 #[.int .i64 d, .int .i64 e, .pointer (some ⟨gW, 0, none⟩), .pointer (some ⟨gK, 0, none⟩)] w fun en w' => en = .returned (.int .i64 (cmpD ns ls k d e)) ∧ Below w.heap.size w w' := by
  have hld : ∀ j : Nat, j < ls.length → leadB ns (ndI ls j) = true := fun j hj => (hwin.2.2.2.2.2 j hj).1
  have hm20 := hwin.2.2.1
  obtain ⟨An, cn, rfl, hcn, hmn, hcelln⟩ := hn.formI
  obtain ⟨bn, offn, rfl, hbn, hcc⟩ := hcelln (by omega)
  obtain ⟨t, ht, htn⟩ := dTo_nat hld hd
  obtain ⟨u, hu, hun⟩ := dTo_nat hld he
  obtain ⟨k0, k1⟩ := hcc k hk
  obtain ⟨t0, t1⟩ := hcc t htn
  obtain ⟨u0, u1⟩ := hcc u hun
  unfold maxLen at hmn
  have hgW := hW.lt
  have x1 := bits_xor_nat (a := d) (b := 1) (by omega) (by omega)
  have x2 := bits_xor_nat (a := e) (b := 1) (by omega) (by omega)
  rw [twin_xor] at x1 x2
  have x1' : bits .xor .i64 (d : Int) 1 = ((twin d : Nat) : Int) := x1
  have x2' : bits .xor .i64 (e : Int) 1 = ((twin e : Nat) : Int) := x2
  clear x1 x2
  have X1 := Lib.hid x1'
  have X2 := Lib.hid x2'
  clear x1' x2'
  have ik1 : (0 : Int) ≤ (k : Int) := by omega
  have ik2 : (k : Int) < (ns.length : Int) := by omega
  have it1 : (0 : Int) ≤ (t : Int) := by omega
  have it2 : (t : Int) < (ns.length : Int) := by omega
  have iu1 : (0 : Int) ≤ (u : Int) := by omega
  have iu2 : (u : Int) < (ns.length : Int) := by omega
  obtain ⟨a_0, a_1⟩ := hW.c2
  clear hcelln hcc
  go_enter Tryz.func117, Tryz.ntmps117
  go_wp2_with fail
  have HS : Hid (∀ v : World, Below w.heap.size w v → v.cell? ⟨gW, 0, none⟩ = some (.slice (some ⟨bn, offn, none⟩) ns.length cn) ∧ v.cell? ⟨gW, 1, none⟩ = some vl ∧ v.cell? ⟨gK, 0, none⟩ = some (.int .i64 k) ∧ v.cell? ⟨bn, offn + k * 2, none⟩ = some (.int .i64 (ndI ns k).1) ∧ v.cell? ⟨bn, offn + k * 2 + 1, none⟩ = some (.int .i64 (ndI ns k).2)) := Lib.hid (fun v hv => ⟨(hv.cell (p := ⟨gW, 0, none⟩) hgW).trans a_0, (hv.cell (p := ⟨gW, 1, none⟩) hgW).trans a_1, (hv.cell (p := ⟨gK, 0, none⟩) hKl).trans hKc, (hv.cell (p := ⟨bn, offn + k * 2, none⟩) hbn).trans k0, (hv.cell (p := ⟨bn, offn + k * 2 + 1, none⟩) hbn).trans k1⟩)
  refine region_E (n := 26) (S := fun v => v.cell? ⟨gW, 0, none⟩ = some (.slice (some ⟨bn, offn, none⟩) ns.length cn) ∧ v.cell? ⟨gW, 1, none⟩ = some vl ∧ v.cell? ⟨gK, 0, none⟩ = some (.int .i64 k) ∧ v.cell? ⟨bn, offn + k * 2, none⟩ = some (.int .i64 (ndI ns k).1) ∧ v.cell? ⟨bn, offn + k * 2 + 1, none⟩ = some (.int .i64 (ndI ns k).2)) (by kernel_rfl) (HS.out _ (Below.refl _ _).drew) (fun hS => ?_)
  (refine E_take (i := 0) (v := ?_) rfl rfl (by kernel_rfl) (by kernel_rfl) (by kernel_rfl) (by kernel_rfl) (by kernel_rfl) (fun _ _ _ h => h) (Or.inl ⟨by rfl, ?_⟩) (by assumption) ?_); rotate_left; (focus (intro w' hSw; (try dsimp only at hSw); go_simp; (try with_reducible rfl))); (try simp only [Act.put, List.setIfInBounds_toArray, List.set_cons_zero, List.set_cons_succ])
  (refine E_take (i := 1) (v := ?_) rfl rfl (by kernel_rfl) (by kernel_rfl) (by kernel_rfl) (by kernel_rfl) (by kernel_rfl) (fun _ _ _ h => h) (Or.inl ⟨by rfl, ?_⟩) (by assumption) ?_); rotate_left; (focus (intro w' hSw; (try dsimp only at hSw); go_simp; (try with_reducible rfl))); (try simp only [Act.put, List.setIfInBounds_toArray, List.set_cons_zero, List.set_cons_succ])
  (refine E_take (i := 2) (v := ?_) rfl rfl (by kernel_rfl) (by kernel_rfl) (by kernel_rfl) (by kernel_rfl) (by kernel_rfl) (fun _ _ _ h => h) (Or.inl ⟨by rfl, ?_⟩) (by assumption) ?_); rotate_left; (focus (intro w' hSw; (try dsimp only at hSw); go_simp; (try with_reducible rfl))); (try simp only [Act.put, List.setIfInBounds_toArray, List.set_cons_zero, List.set_cons_succ])
  (refine E_take (i := 3) (v := ?_) rfl rfl (by kernel_rfl) (by kernel_rfl) (by kernel_rfl) (by kernel_rfl) (by kernel_rfl) (fun _ _ _ h => h) (Or.inl ⟨by rfl, ?_⟩) (by assumption) ?_); rotate_left; (focus (intro w' hSw; (try dsimp only at hSw); go_simp; (try with_reducible rfl))); (try simp only [Act.put, List.setIfInBounds_toArray, List.set_cons_zero, List.set_cons_succ])
  (refine E_take (i := 4) (v := ?_) rfl rfl (by kernel_rfl) (by kernel_rfl) (by kernel_rfl) (by kernel_rfl) (by kernel_rfl) (fun _ _ _ h => h) (Or.inl ⟨by rfl, ?_⟩) (by assumption) ?_); rotate_left; (focus (intro w' hSw; (try dsimp only at hSw); go_simp; (try with_reducible rfl))); (try simp only [Act.put, List.setIfInBounds_toArray, List.set_cons_zero, List.set_cons_succ])
  (refine E_take (i := 5) (v := ?_) rfl rfl (by kernel_rfl) (by kernel_rfl) (by kernel_rfl) (by kernel_rfl) (by kernel_rfl) (fun _ _ _ h => h) (Or.inl ⟨by rfl, ?_⟩) (by assumption) ?_); rotate_left; (focus (intro w' hSw; (try dsimp only at hSw); go_simp; (try with_reducible rfl))); (try simp only [Act.put, List.setIfInBounds_toArray, List.set_cons_zero, List.set_cons_succ])
  (refine E_take (i := 6) (v := ?_) rfl rfl (by kernel_rfl) (by kernel_rfl) (by kernel_rfl) (by kernel_rfl) (by kernel_rfl) (fun _ _ _ h => h) (Or.inl ⟨by rfl, ?_⟩) (by assumption) ?_); rotate_left; (focus (intro w' hSw; (try dsimp only at hSw); go_simp; (try with_reducible rfl))); (try simp only [Act.put, List.setIfInBounds_toArray, List.set_cons_zero, List.set_cons_succ])
  (refine E_take (i := 7) (v := ?_) rfl rfl (by kernel_rfl) (by kernel_rfl) (by kernel_rfl) (by kernel_rfl) (by kernel_rfl) (fun _ _ _ h => h) (Or.inl ⟨by rfl, ?_⟩) (by assumption) ?_); rotate_left; (focus (intro w' hSw; (try dsimp only at hSw); go_simp; (try with_reducible rfl))); (try simp only [Act.put, List.setIfInBounds_toArray, List.set_cons_zero, List.set_cons_succ])
  (refine E_take (i := 8) (v := ?_) rfl rfl (by kernel_rfl) (by kernel_rfl) (by kernel_rfl) (by kernel_rfl) (by kernel_rfl) (fun _ _ _ h => h) (Or.inl ⟨by rfl, ?_⟩) (by assumption) ?_); rotate_left; (focus (intro w' hSw; (try dsimp only at hSw); go_simp; (try with_reducible rfl))); (try simp only [Act.put, List.setIfInBounds_toArray, List.set_cons_zero, List.set_cons_succ])
  (refine E_take (i := 9) (v := ?_) rfl rfl (by kernel_rfl) (by kernel_rfl) (by kernel_rfl) (by kernel_rfl) (by kernel_rfl) (fun _ _ _ h => h) (Or.inl ⟨by rfl, ?_⟩) (by assumption) ?_); rotate_left; (focus (intro w' hSw; (try dsimp only at hSw); go_simp; (try with_reducible rfl))); (try simp only [Act.put, List.setIfInBounds_toArray, List.set_cons_zero, List.set_cons_succ])
  (refine E_take (i := 13) (v := ?_) rfl rfl (by kernel_rfl) (by kernel_rfl) (by kernel_rfl) (by kernel_rfl) (by kernel_rfl) (fun _ _ _ h => h) (Or.inl ⟨by rfl, ?_⟩) (by assumption) ?_); rotate_left; (focus (intro w' hSw; (try dsimp only at hSw); go_simp; (try with_reducible rfl))); (try simp only [Act.put, List.setIfInBounds_toArray, List.set_cons_zero, List.set_cons_succ])
  (refine E_take (i := 14) (v := ?_) rfl rfl (by kernel_rfl) (by kernel_rfl) (by kernel_rfl) (by kernel_rfl) (by kernel_rfl) (fun _ _ _ h => h) (Or.inl ⟨by rfl, ?_⟩) (by assumption) ?_); rotate_left; (focus (intro w' hSw; (try dsimp only at hSw); go_simp; (try with_reducible rfl))); (try simp only [Act.put, List.setIfInBounds_toArray, List.set_cons_zero, List.set_cons_succ])
  (refine E_take (i := 15) (v := ?_) rfl rfl (by kernel_rfl) (by kernel_rfl) (by kernel_rfl) (by kernel_rfl) (by kernel_rfl) (fun _ _ _ h => h) (Or.inl ⟨by rfl, ?_⟩) (by assumption) ?_); rotate_left; (focus (intro w' hSw; (try dsimp only at hSw); go_simp; (try with_reducible rfl))); (try simp only [Act.put, List.setIfInBounds_toArray, List.set_cons_zero, List.set_cons_succ])
  (refine E_take (i := 16) (v := ?_) rfl rfl (by kernel_rfl) (by kernel_rfl) (by kernel_rfl) (by kernel_rfl) (by kernel_rfl) (fun _ _ _ h => h) (Or.inl ⟨by rfl, ?_⟩) (by assumption) ?_); rotate_left; (focus (intro w' hSw; (try dsimp only at hSw); go_simp; (try with_reducible rfl))); (try simp only [Act.put, List.setIfInBounds_toArray, List.set_cons_zero, List.set_cons_succ])
  (refine E_take (i := 17) (v := ?_) rfl rfl (by kernel_rfl) (by kernel_rfl) (by kernel_rfl) (by kernel_rfl) (by kernel_rfl) (fun _ _ _ h => h) (Or.inl ⟨by rfl, ?_⟩) (by assumption) ?_); rotate_left; (focus (intro w' hSw; (try dsimp only at hSw); go_simp; (try with_reducible rfl))); (try simp only [Act.put, List.setIfInBounds_toArray, List.set_cons_zero, List.set_cons_succ])
  rw [X1.out, X2.out]
  have hpt := twin_lt hd
  have hqt := twin_lt he
  have T0 := dFrom_twin ls d
  have U0 := dFrom_twin ls e
  rw [ht] at T0
  rw [hu] at U0
  have HC := Lib.hid (fun (v : World) (hb : Below w.heap.size w v) => iFrom_any (.slice (some ⟨bn, offn, none⟩) ns.length cn) vl ls (twin d) v (hl.below hb) hpt)
  have HD := Lib.hid (fun (v : World) (hb : Below w.heap.size w v) => iFrom_any (.slice (some ⟨bn, offn, none⟩) ns.length cn) vl ls (twin e) v (hl.below hb) hqt)
  rw [T0] at HC
  rw [U0] at HD
  generalize twin d = pd at *
  generalize twin e = pe at *
  have HT : Hid (∀ v : World, Below w.heap.size w v → v.cell? ⟨bn, offn + t * 2, none⟩ = some (.int .i64 (ndI ns t).1) ∧ v.cell? ⟨bn, offn + t * 2 + 1, none⟩ = some (.int .i64 (ndI ns t).2)) := Lib.hid (fun v hv => ⟨(hv.cell (p := ⟨bn, offn + t * 2, none⟩) hbn).trans t0, (hv.cell (p := ⟨bn, offn + t * 2 + 1, none⟩) hbn).trans t1⟩)
  have HU : Hid (∀ v : World, Below w.heap.size w v → v.cell? ⟨bn, offn + u * 2, none⟩ = some (.int .i64 (ndI ns u).1) ∧ v.cell? ⟨bn, offn + u * 2 + 1, none⟩ = some (.int .i64 (ndI ns u).2)) := Lib.hid (fun v hv => ⟨(hv.cell (p := ⟨bn, offn + u * 2, none⟩) hbn).trans u0, (hv.cell (p := ⟨bn, offn + u * 2 + 1, none⟩) hbn).trans u1⟩)
  refine E_phase (n := 26) (Inv := fun L a v => ∃ v7 v8 v9 v20 v21 v22 v28 v29 v30, a = {
      tmps := #[.int .i64 d, .int .i64 e, .pointer (some ⟨gW, 0, none⟩), .pointer (some ⟨gK, 0, none⟩), undef, undef, .int .i64 0, v7, v8, v9,
        .pointer (some ⟨gW, 0, none⟩), .slice (some ⟨bn, offn, none⟩) ns.length cn, .int .i64 k, .pointer (some ⟨bn, offn + k * 2, none⟩), .agg #[.int .i64 (ndI ns k).1, .int .i64 (ndI ns k).2],
        .pointer (some ⟨gW, 0, none⟩), .slice (some ⟨bn, offn, none⟩) ns.length cn, .agg #[.slice (some ⟨bn, offn, none⟩) ns.length cn, vl], .int .i64 d, .int .i64 pd, v20, v21, v22,
        .pointer (some ⟨gW, 0, none⟩), .slice (some ⟨bn, offn, none⟩) ns.length cn, .agg #[.slice (some ⟨bn, offn, none⟩) ns.length cn, vl], .int .i64 e, .int .i64 pe, v28, v29, v30,
        undef, undef, undef, undef, undef, undef, undef, undef, undef], defers := [] } ∧
      Below w.heap.size w v ∧ (∀ j ∈ [0, 1, 2, 3, 4, 5, 6, 7, 8, 9, 13, 14, 15, 16, 17], tk L j = true) ∧
      Aft L 10 (v20 = .int .i64 t) ∧ Aft L 11 (v21 = .pointer (some ⟨bn, offn + t * 2, none⟩)) ∧ Aft L 12 (v22 = .agg #[.int .i64 (ndI ns t).1, .int .i64 (ndI ns t).2]) ∧
      Aft L 18 (v28 = .int .i64 u) ∧ Aft L 19 (v29 = .pointer (some ⟨bn, offn + u * 2, none⟩)) ∧ Aft L 20 (v30 = .agg #[.int .i64 (ndI ns u).1, .int .i64 (ndI ns u).2]) ∧
      One L 21 24 w.heap.size 47 #[.int .i64 0, .int .i64 0] #[.int .i64 (ndI ns k).1, .int .i64 (ndI ns k).2] v7 v ∧
      One L 22 25 w.heap.size 47 #[.int .i64 0, .int .i64 0] #[.int .i64 (ndI ns t).1, .int .i64 (ndI ns t).2] v8 v ∧
      One L 23 26 w.heap.size 47 #[.int .i64 0, .int .i64 0] #[.int .i64 (ndI ns u).1, .int .i64 (ndI ns u).2] v9 v ∧
      Apart2 L 21 22 v7 v8 ∧ Apart2 L 21 23 v7 v9 ∧ Apart2 L 22 23 v8 v9) (by decide) (by kernel_rfl) (by kernel_rfl) ?_ ?_ 12 _ _ _ rfl ?_ (by kernel_rfl) ?_
  · intro L a v hI i hi hr
    obtain ⟨v7, v8, v9, v20, v21, v22, v28, v29, v30, rfl, hb, hpre, f10, f11, f12, f18, f19, f20, o7, o8, o9, p78, p79, p89⟩ := hI
    have hun := ready_un hr
    have hsv := HS.out v hb
    rcases (show i = 10 ∨ i = 11 ∨ i = 12 ∨ i = 18 ∨ i = 19 ∨ i = 20 ∨ i = 21 ∨ i = 22 ∨ i = 23 ∨ i = 24 ∨ i = 25 ∨ i ∈ [0, 1, 2, 3, 4, 5, 6, 7, 8, 9, 13, 14, 15, 16, 17] by simp only [List.mem_cons, List.mem_nil_iff, or_false]; omega) with rfl | rfl | rfl | rfl | rfl | rfl | rfl | rfl | rfl | rfl | rfl | hm
    · -- 10
      refine wp_step rfl (fun K hK => ?_)
      rw [if_pos (by rfl)]
      go_simp
      go_at_call 45
      refine (HC.out _ hb).mono ?_
      rintro en w1 ⟨rfl, hb1⟩
      go_wp2_with fail
      have hbw := hb.trans (hb1.mono hb.size)
      exact ⟨HS.out _ hbw, _, _, _, _, _, _, _, _, _, rfl, hbw, preS hpre, Aft.new rfl, f11.keep (by decide), f12.keep (by decide), f18.keep (by decide), f19.keep (by decide), f20.keep (by decide), o7.step (by decide) (by decide) hb1, o8.step (by decide) (by decide) hb1, o9.step (by decide) (by decide) hb1, p78.step (by decide) (by decide), p79.step (by decide) (by decide), p89.step (by decide) (by decide)⟩
    · -- 11
      obtain rfl := f10 (ready_tk hr rfl (by kernel_rfl))
      refine wp_step rfl (fun K hK => ?_)
      rw [if_pos (by rfl)]
      go_simp
      exact hK _ _ ⟨hsv, _, _, _, _, _, _, _, _, _, rfl, hb, preS hpre, f10.keep (by decide), Aft.new rfl, f12.keep (by decide), f18.keep (by decide), f19.keep (by decide), f20.keep (by decide), o7.step (by decide) (by decide) (Below.refl _ _), o8.step (by decide) (by decide) (Below.refl _ _), o9.step (by decide) (by decide) (Below.refl _ _), p78.step (by decide) (by decide), p79.step (by decide) (by decide), p89.step (by decide) (by decide)⟩
    · -- 12
      obtain rfl := f11 (ready_tk hr rfl (by kernel_rfl))
      obtain ⟨c0, c1⟩ := HT.out v hb
      refine wp_step rfl (fun K hK => ?_)
      rw [if_pos (by rfl)]
      go_simp
      exact hK _ _ ⟨hsv, _, _, _, _, _, _, _, _, _, rfl, hb, preS hpre, f10.keep (by decide), f11.keep (by decide), Aft.new rfl, f18.keep (by decide), f19.keep (by decide), f20.keep (by decide), o7.step (by decide) (by decide) (Below.refl _ _), o8.step (by decide) (by decide) (Below.refl _ _), o9.step (by decide) (by decide) (Below.refl _ _), p78.step (by decide) (by decide), p79.step (by decide) (by decide), p89.step (by decide) (by decide)⟩
    · -- 18
      refine wp_step rfl (fun K hK => ?_)
      rw [if_pos (by rfl)]
      go_simp
      go_at_call 45
      refine (HD.out _ hb).mono ?_
      rintro en w1 ⟨rfl, hb1⟩
      go_wp2_with fail
      have hbw := hb.trans (hb1.mono hb.size)
      exact ⟨HS.out _ hbw, _, _, _, _, _, _, _, _, _, rfl, hbw, preS hpre, f10.keep (by decide), f11.keep (by decide), f12.keep (by decide), Aft.new rfl, f19.keep (by decide), f20.keep (by decide), o7.step (by decide) (by decide) hb1, o8.step (by decide) (by decide) hb1, o9.step (by decide) (by decide) hb1, p78.step (by decide) (by decide), p79.step (by decide) (by decide), p89.step (by decide) (by decide)⟩
    · -- 19
      obtain rfl := f18 (ready_tk hr rfl (by kernel_rfl))
      refine wp_step rfl (fun K hK => ?_)
      rw [if_pos (by rfl)]
      go_simp
      exact hK _ _ ⟨hsv, _, _, _, _, _, _, _, _, _, rfl, hb, preS hpre, f10.keep (by decide), f11.keep (by decide), f12.keep (by decide), f18.keep (by decide), Aft.new rfl, f20.keep (by decide), o7.step (by decide) (by decide) (Below.refl _ _), o8.step (by decide) (by decide) (Below.refl _ _), o9.step (by decide) (by decide) (Below.refl _ _), p78.step (by decide) (by decide), p79.step (by decide) (by decide), p89.step (by decide) (by decide)⟩
    · -- 20
      obtain rfl := f19 (ready_tk hr rfl (by kernel_rfl))
      obtain ⟨c0, c1⟩ := HU.out v hb
      refine wp_step rfl (fun K hK => ?_)
      rw [if_pos (by rfl)]
      go_simp
      exact hK _ _ ⟨hsv, _, _, _, _, _, _, _, _, _, rfl, hb, preS hpre, f10.keep (by decide), f11.keep (by decide), f12.keep (by decide), f18.keep (by decide), f19.keep (by decide), Aft.new rfl, o7.step (by decide) (by decide) (Below.refl _ _), o8.step (by decide) (by decide) (Below.refl _ _), o9.step (by decide) (by decide) (Below.refl _ _), p78.step (by decide) (by decide), p79.step (by decide) (by decide), p89.step (by decide) (by decide)⟩
    · -- 21
      refine wp_step rfl (fun K hK => ?_)
      rw [if_pos (by rfl)]
      go_simp
      have hb1 : Below v.heap.size v (v.alloc (.cells #[.int .i64 0, .int .i64 0] 47)) := (Below.refl _ _).alloc (Nat.le_refl _) _
      have hbw := hb.trans (hb1.mono hb.size)
      exact hK _ _ ⟨HS.out _ hbw, _, _, _, _, _, _, _, _, _, rfl, hbw, preS hpre, f10.keep (by decide), f11.keep (by decide), f12.keep (by decide), f18.keep (by decide), f19.keep (by decide), f20.keep (by decide), o7.lay hun (by decide) hb.size, o8.step (by decide) (by decide) hb1, o9.step (by decide) (by decide) hb1, Apart2.newL o8 (by decide), Apart2.newL o9 (by decide), p89.step (by decide) (by decide)⟩
    · -- 22
      refine wp_step rfl (fun K hK => ?_)
      rw [if_pos (by rfl)]
      go_simp
      have hb1 : Below v.heap.size v (v.alloc (.cells #[.int .i64 0, .int .i64 0] 47)) := (Below.refl _ _).alloc (Nat.le_refl _) _
      have hbw := hb.trans (hb1.mono hb.size)
      exact hK _ _ ⟨HS.out _ hbw, _, _, _, _, _, _, _, _, _, rfl, hbw, preS hpre, f10.keep (by decide), f11.keep (by decide), f12.keep (by decide), f18.keep (by decide), f19.keep (by decide), f20.keep (by decide), o7.step (by decide) (by decide) hb1, o8.lay hun (by decide) hb.size, o9.step (by decide) (by decide) hb1, Apart2.newR o7 (by decide), p79.step (by decide) (by decide), Apart2.newL o9 (by decide)⟩
    · -- 23
      refine wp_step rfl (fun K hK => ?_)
      rw [if_pos (by rfl)]
      go_simp
      have hb1 : Below v.heap.size v (v.alloc (.cells #[.int .i64 0, .int .i64 0] 47)) := (Below.refl _ _).alloc (Nat.le_refl _) _
      have hbw := hb.trans (hb1.mono hb.size)
      exact hK _ _ ⟨HS.out _ hbw, _, _, _, _, _, _, _, _, _, rfl, hbw, preS hpre, f10.keep (by decide), f11.keep (by decide), f12.keep (by decide), f18.keep (by decide), f19.keep (by decide), f20.keep (by decide), o7.step (by decide) (by decide) hb1, o8.step (by decide) (by decide) hb1, o9.lay hun (by decide) hb.size, p78.step (by decide) (by decide), Apart2.newR o7 (by decide), Apart2.newR o8 (by decide)⟩
    · -- 24
      have h21 := ready_tk (j := 21) hr rfl (by kernel_rfl)
      obtain ⟨g, rfl, hg, hB⟩ := o7.zero h21 hun
      obtain ⟨b_0, b_1, b_f0, b_f1⟩ := hB.b2
      refine wp_step rfl (fun K hK => ?_)
      rw [if_pos (by rfl)]
      go_simp
      have hbw := (hb.setCell (p := ⟨g, 0, none⟩) hg (.int .i64 (ndI ns k).1)).setCell (p := ⟨g, 1, none⟩) hg (.int .i64 (ndI ns k).2)
      exact hK _ _ ⟨HS.out _ hbw, _, _, _, _, _, _, _, _, _, rfl, hbw, preS hpre, f10.keep (by decide), f11.keep (by decide), f12.keep (by decide), f18.keep (by decide), f19.keep (by decide), f20.keep (by decide), o7.fill h21 hun rfl (by decide), o8.far (by decide) (by decide) (fun h => (p78 h21 h).symm) 0 1 _ _, o9.far (by decide) (by decide) (fun h => (p79 h21 h).symm) 0 1 _ _, p78.step (by decide) (by decide), p79.step (by decide) (by decide), p89.step (by decide) (by decide)⟩
    · -- 25
      have h22 := ready_tk (j := 22) hr rfl (by kernel_rfl)
      obtain ⟨g, rfl, hg, hB⟩ := o8.zero h22 hun
      obtain rfl := f12 (ready_tk hr rfl (by kernel_rfl))
      obtain ⟨b_0, b_1, b_f0, b_f1⟩ := hB.b2
      refine wp_step rfl (fun K hK => ?_)
      rw [if_pos (by rfl)]
      go_simp
      have hbw := (hb.setCell (p := ⟨g, 0, none⟩) hg (.int .i64 (ndI ns t).1)).setCell (p := ⟨g, 1, none⟩) hg (.int .i64 (ndI ns t).2)
      exact hK _ _ ⟨HS.out _ hbw, _, _, _, _, _, _, _, _, _, rfl, hbw, preS hpre, f10.keep (by decide), f11.keep (by decide), f12.keep (by decide), f18.keep (by decide), f19.keep (by decide), f20.keep (by decide), o7.far (by decide) (by decide) (fun h => p78 h h22) 0 1 _ _, o8.fill h22 hun rfl (by decide), o9.far (by decide) (by decide) (fun h => (p89 h22 h).symm) 0 1 _ _, p78.step (by decide) (by decide), p79.step (by decide) (by decide), p89.step (by decide) (by decide)⟩
    · rw [hpre i hm] at hun; cases hun
  · intro a v hI
    obtain ⟨v7, v8, v9, v20, v21, v22, v28, v29, v30, rfl, hb, hpre, f10, f11, f12, f18, f19, f20, o7, o8, o9, p78, p79, p89⟩ := hI
    obtain rfl := f20 (by kernel_rfl)
    obtain ⟨g9, rfl, hg9, hB⟩ := o9.zero (by kernel_rfl) (by kernel_rfl)
    obtain ⟨g7, rfl, hg7, hB7⟩ := o7.full (by kernel_rfl)
    obtain ⟨g8, rfl, hg8, hB8⟩ := o8.full (by kernel_rfl)
    have n7 : g7 ≠ g9 := fun h => p79 (by kernel_rfl) (by kernel_rfl) (by rw [h])
    have n8 : g8 ≠ g9 := fun h => p89 (by kernel_rfl) (by kernel_rfl) (by rw [h])
    obtain ⟨b_0, b_1, b_f0, b_f1⟩ := hB.b2
    refine E_step (fuel := 0) (n := 26) (i := 26) rfl (by kernel_rfl) (fun K hK => ?_)
    rw [if_pos (by rfl)]
    go_simp
    refine hK _ _ (fun h => absurd h (by decide)) (fun _ => ?_)
    clear hK K
    refine E_done (by kernel_rfl) ?_ _
    have hbw := (hb.setCell (p := ⟨g9, 0, none⟩) hg9 (.int .i64 (ndI ns u).1)).setCell (p := ⟨g9, 1, none⟩) hg9 (.int .i64 (ndI ns u).2)
    have hB9 : Blk ((v.setCell ⟨g9, 0, none⟩ (.int .i64 (ndI ns u).1)).setCell ⟨g9, 1, none⟩ (.int .i64 (ndI ns u).2)) g9 47 #[.int .i64 (ndI ns u).1, .int .i64 (ndI ns u).2] := by
      have := (hB.set_ 0 (.int .i64 (ndI ns u).1)).set_ 1 (.int .i64 (ndI ns u).2)
      simpa using this
    have hB7' := (hB7.far (p := ⟨g9, 0, none⟩) n7 (.int .i64 (ndI ns u).1)).far (p := ⟨g9, 1, none⟩) n7 (.int .i64 (ndI ns u).2)
    have hB8' := (hB8.far (p := ⟨g9, 0, none⟩) n8 (.int .i64 (ndI ns u).1)).far (p := ⟨g9, 1, none⟩) n8 (.int .i64 (ndI ns u).2)
    generalize ((v.setCell ⟨g9, 0, none⟩ (.int .i64 (ndI ns u).1)).setCell ⟨g9, 1, none⟩ (.int .i64 (ndI ns u).2)) = w3 at *
    clear hB hB7 hB8 b_0 b_1 b_f0 b_f1 hb o7 o8 o9 p78 p79 p89 f10 f11 f12 f18 f19 f20 hpre
    obtain ⟨b_0, b_1, b_f0, b_f1⟩ := hB7'.b2
    obtain ⟨c_0, c_1, c_f0, c_f1⟩ := hB8'.b2
    obtain ⟨f_0, f_1, f_f0, f_f1⟩ := hB9.b2
    by_cases hde : d = e
    · have e1 : ((d : Int) == (e : Int)) = true := by simp [hde]
      have HR : Hid (cmpD ns ls k d e = 0) := Lib.hid (by simp [cmpD, hde])
      go_wp2
      go_ret
      exact ⟨ret_int HR.out.symm, hbw⟩
    · have e1 : ((d : Int) == (e : Int)) = false := by simp; omega
      obtain ⟨x, hx⟩ : ∃ x, befB (ndI ns k).1 (ndI ns k).2 (ndI ns t).1 (ndI ns t).2 (ndI ns u).1 (ndI ns u).2 = x := ⟨_, rfl⟩
      have HR : Hid (cmpD ns ls k d e = if x then -1 else 1) := Lib.hid (by
        unfold cmpD bfD
        rw [if_neg hde, ht, hu, hx])
      go_wp2_with fail
      refine (iBefore_at (ndI ns k) (ndI ns t) (ndI ns u) x _ hx).mono ?_
      rintro en w4 ⟨rfl, hb4⟩
      have hbw4 := hbw.trans (hb4.mono hbw.size)
      cases x
      · go_wp2
        go_ret
        exact ⟨ret_int HR.out.symm, hbw4⟩
      · go_wp2
        go_ret
        exact ⟨ret_int HR.out.symm, hbw4⟩
  · intro j h1 h2
    have : j = 26 := by
      have h3 : j < 27 := h2
      omega
    subst this
    rfl
  · refine ⟨_, _, _, _, _, _, _, _, _, rfl, (Below.refl _ _).drew, by decide, Aft.no rfl, Aft.no rfl, Aft.no rfl, Aft.no rfl, Aft.no rfl, Aft.no rfl, One.start rfl rfl, One.start rfl rfl, One.start rfl rfl, Apart2.start rfl, Apart2.start rfl, Apart2.start rfl⟩
end Go.Proofs.YtbennlajjfkdpaaGreatDoor
