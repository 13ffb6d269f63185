/- part 42 -/
import Derived.Test.YtnjcpljhmhdhkaaGreatSPk39
import Derived.Deep.RegionHeld3
set_option linter.unusedSimpArgs false
set_option linter.unusedVariables false
namespace Go.Proofs.YtnjcpljhmhdhkaaGreat
open Go.RowKit
def runDp (a : Int) (n : Nat) : List Dp := (List.range n).map fun (i : Nat) => ⟨a + 3 * (i : Int), a + 3 * (i : Int) + 1, a + 3 * (i : Int) + 2⟩
theorem runDp_length (a : Int) (n : Nat) : (runDp a n).length = n := by simp [runDp]
def markDps (a : Int) (l : List Dp) (k : Nat) : List Dp := runDp a k ++ l.drop k
theorem markDps_length (a : Int) (l : List Dp) (k : Nat) (h : k ≤ l.length) : (markDps a l k).length = l.length := by simp [markDps, runDp_length]; omega
theorem markDps_zero (a : Int) (l : List Dp) : markDps a l 0 = l := by simp [markDps, runDp]
theorem markDps_all (a : Int) (l : List Dp) : markDps a l l.length = runDp a l.length := by simp [markDps]
theorem markDps_succ (a : Int) (l : List Dp) (k : Nat) (h : k < l.length) : markDps a l (k + 1) = (markDps a l k).set k ⟨a + 3 * k, a + 3 * k + 1, a + 3 * k + 2⟩ := by
  unfold markDps runDp
  rw [List.range_succ, List.map_append, List.set_append]
  simp only [List.map_cons, List.map_nil, List.length_map, List.length_range, Nat.lt_irrefl, if_false, Nat.sub_self, List.append_assoc, List.cons_append, List.nil_append]
  rw [List.drop_eq_getElem_cons h, List.set_cons_zero]
theorem runDp_get (a : Int) (n k : Nat) (h : k < (runDp a n).length) : (runDp a n)[k] = ⟨a + 3 * (k : Int), a + 3 * (k : Int) + 1, a + 3 * (k : Int) + 2⟩ := by simp [runDp]
theorem flat_setD : ∀ (l : List Dp) (k j : Nat) (u : Value) (f : Dp) (hk : k < l.length), j < 3 → (Dp.cs l[k]).set j u = Dp.cs f → (l.flatMap Dp.cs).set (k * 3 + j) u = (l.set k f).flatMap Dp.cs
  | [], k, _, _, _, h, _, _ => absurd h (by simp)
  | a :: l, 0, j, u, f, h, hj, he => by
    rw [List.set_cons_zero, List.flatMap_cons, List.flatMap_cons, ← he, List.set_append, if_pos (by simp [Dp.cs]; omega)]
    simp
  | a :: l, k + 1, j, u, f, h, hj, he => by
    have ih := flat_setD l k j u f (by simpa using h) hj he
    rw [List.set_cons_succ, List.flatMap_cons, List.flatMap_cons, ← ih, List.set_append, if_neg (by simp [Dp.cs]; omega)]
    have e : (k + 1) * 3 + j - (Dp.cs a).length = k * 3 + j := by simp [Dp.cs]; omega
    rw [e]
set_option maxHeartbeats 4000000 in
set_option maxRecDepth 100000 in
theorem markDepositS_any (base : Nat) (v : Value) (l : List Dp) (a : Int) (w : World) (h : OwnDp base w v l) (ha : 0 ≤ a) (hb : a + 3 * l.length ≤ 1000000000000) :
    Calls Tryz.prog 100 #[v, .int .i64 a] w fun e w' => e = .returned (.int .i64 (a + 3 * l.length)) ∧ OwnDp base w' v (runDp a l.length) ∧ w.grownBy w' v.ownBlock := by
  rcases hcase : h.2 with ⟨rfl, hn⟩ | ⟨g, cap, cur, rfl, hbg, hh, hnc, hcm, hsz, hxs⟩
  · have hz : l = [] := List.eq_nil_of_length_eq_zero hn
    subst hz
    clear hcase hn hb
    go_enter Tryz.func100, Tryz.ntmps100
    go_wp2
    go_loop [1, 5] (fun x i => i = .int .i64 0 ∧ x = .int .i64 a) (fun _ _ => 0)
    case atStart => exact ⟨rfl, rfl⟩
    case round =>
      obtain ⟨rfl, rfl⟩ := hrel
      go_wp2
      go_ret
      exact ⟨by simp, OwnDp.nil _ _, World.grownBy.refl _ _⟩
  · clear hcase hh hxs hsz
    have hml : l.length ≤ 1000000000000 := by omega
    have h0 : OwnDp base w (.slice (some ⟨g, 0, none⟩) l.length cap) (markDps a l 0) := by rw [markDps_zero]; exact h
    clear h
    go_enter Tryz.func100, Tryz.ntmps100
    go_wp2
    go_loopw [1, 5] (fun x i wr => ∃ k : Nat, k ≤ l.length ∧ i = .int .i64 k ∧ x = .int .i64 (a + 3 * k) ∧ OwnDp base wr (.slice (some ⟨g, 0, none⟩) l.length cap) (markDps a l k) ∧ w.grownBy wr (some g)) (fun _ i _ => l.length - (intOf i).toNat)
    case atStart => exact ⟨0, Nat.zero_le _, rfl, by simp, h0, World.grownBy.refl _ _⟩
    case round =>
      obtain ⟨k, hk, rfl, rfl, ho, hg⟩ := hrel
      clear h0
      have hml2 := markDps_length a l k hk
      by_cases hlt : k < l.length
      · have hkq : k < (markDps a l k).length := by omega
        have hrow : wr.ownsRow base 48 3 (.slice (some ⟨g, 0, none⟩) l.length cap) l.length ((markDps a l k).flatMap Dp.cs) := by rw [← hml2]; have := ho; unfold OwnDp at this; rw [hml2] at this ⊢; exact this
        have x0 := hrow.cellAt (k * 3 + 0) (by omega)
        have x1 := hrow.cellAt (k * 3 + 1) (by omega)
        have x2 := hrow.cellAt (k * 3 + 2) (by omega)
        rw [flat_get Dp.cs 3 (fun _ => rfl) _ k _ hkq (by omega)] at x0 x1 x2
        generalize hq : (markDps a l k)[k] = q at *
        simp only [Dp.cs, Nat.add_zero, List.getElem?_cons_zero, List.getElem?_cons_succ] at x0 x1 x2
        have f0 := hrow.frozenAt (k * 3)
        have f1 := hrow.frozenAt (k * 3 + 1)
        have f2 := hrow.frozenAt (k * 3 + 2)
        have s1 := (hrow.stored (k * 3 + 0) (.int .i64 (a + 3 * k))).1
        have s2 := (s1.stored (k * 3 + 1) (.int .i64 (a + 3 * k + 1))).1
        have s3 := (s2.stored (k * 3 + 2) (.int .i64 (a + 3 * k + 2))).1
        rw [flat_setD _ k 0 _ ⟨a + 3 * k, q.a, q.b⟩ hkq (by omega) (by rw [hq]; rfl),
          flat_setD _ k 1 _ ⟨a + 3 * k, a + 3 * k + 1, q.b⟩ (by rw [List.length_set]; exact hkq) (by omega) (by rw [List.getElem_set_self]; rfl),
          flat_setD _ k 2 _ ⟨a + 3 * k, a + 3 * k + 1, a + 3 * k + 2⟩ (by rw [List.length_set, List.length_set]; exact hkq) (by omega) (by rw [List.getElem_set_self]; rfl),
          List.set_set, List.set_set, ← markDps_succ a l k hlt, Nat.add_zero] at s3
        have hml3 := markDps_length a l (k + 1) hlt
        have HS : Hid (OwnDp base (((wr.setCell ⟨g, k * 3, none⟩ (.int .i64 (a + 3 * k))).setCell ⟨g, k * 3 + 1, none⟩ (.int .i64 (a + 3 * k + 1))).setCell ⟨g, k * 3 + 2, none⟩ (.int .i64 (a + 3 * k + 2))) (.slice (some ⟨g, 0, none⟩) l.length cap) (markDps a l (k + 1))) := Lib.hid (by unfold OwnDp; rw [hml3]; exact s3)
        have HG := Lib.hid (grownBy_set (grownBy_set (grownBy_set hg (k * 3) (.int .i64 (a + 3 * k))) (k * 3 + 1) (.int .i64 (a + 3 * k + 1))) (k * 3 + 2) (.int .i64 (a + 3 * k + 2)))
        have e2 : a + 3 * (k : Int) + 1 + 1 = a + 3 * (k : Int) + 2 := by omega
        clear s1 s2 s3 hrow ho hg hml2 hml3 hq hkq
        go_wp2
        try rw [e2]
        clear e2
        go_roundw
        case rel => exact ⟨k + 1, by omega, by go_num, by go_num, HS.out, HG.out⟩
        case measure => simp [intOf]; omega
      · have hkk : k = l.length := by omega
        subst hkk
        rw [markDps_all] at ho
        clear hml2
        go_wp2
        go_ret
        exact ⟨rfl, ho, hg⟩
set_option maxHeartbeats 4000000 in
set_option maxRecDepth 100000 in
theorem heldDepositS_ok (v : Value) (n : Nat) (a : Int) (w : World) (h : RDp w v (runDp a n)) (ha : 0 ≤ a) (hb : a + 3 * n ≤ 1000000000000) :
    Calls Tryz.prog 102 #[v, .int .i64 a] w fun e w' => e = .returned (.int .i64 (a + 3 * n)) ∧ w = w' := by
  obtain ⟨A, c, rfl, hc, hm, hcell⟩ := h.form
  clear h
  rw [runDp_length] at hc hm
  have hcell' : 0 < n → ∃ b off, A = some ⟨b, off, none⟩ ∧ b < w.heap.size ∧ ∀ k (hk : k < n), w.cell? ⟨b, off + k * 3, none⟩ = some (.int .i64 (a + 3 * (k : Int))) ∧ w.cell? ⟨b, off + k * 3 + 1, none⟩ = some (.int .i64 (a + 3 * (k : Int) + 1)) ∧ w.cell? ⟨b, off + k * 3 + 2, none⟩ = some (.int .i64 (a + 3 * (k : Int) + 1 + 1)) := by
    intro hn
    obtain ⟨b, off, h1, h2, h3⟩ := hcell (by rw [runDp_length]; exact hn)
    refine ⟨b, off, h1, h2, fun k hk => ?_⟩
    have := h3 k (by rw [runDp_length]; exact hk)
    rw [runDp_get] at this
    rw [show a + 3 * (k : Int) + 1 + 1 = a + 3 * (k : Int) + 2 by omega]
    exact this
  rw [runDp_length]
  clear hcell
  go_enter Tryz.func102, Tryz.ntmps102
  go_wp2
  go_loop [1, 5] (fun x i => ∃ k : Nat, k ≤ n ∧ i = .int .i64 k ∧ x = .int .i64 (a + 3 * k)) (fun _ i => n - (intOf i).toNat)
  case atStart => exact ⟨0, Nat.zero_le _, rfl, by simp⟩
  case round =>
    obtain ⟨k, hk, rfl, rfl⟩ := hrel
    by_cases hlt : k < n
    · obtain ⟨b, off, rfl, hbb, hcl⟩ := hcell' (by omega)
      obtain ⟨q0, q1, q2⟩ := hcl k hlt
      clear hcl hcell'
      go_wp2
      go_round
      case rel => exact ⟨k + 1, by omega, by go_num, by go_num⟩
      case measure => simp [intOf]; omega
    · have hkk : k = n := by omega
      subst hkk
      clear hcell'
      go_wp2
      go_ret
      exact ⟨rfl, rfl⟩
end Go.Proofs.YtnjcpljhmhdhkaaGreat

namespace Go.Proofs.YtnjcpljhmhdhkaaGreat
open Go.RowKit
def cntSt (S : St) : Nat := cntD S.D + S.cs.length + 3 * S.ds.length
def markSt (x : Int) (S : St) : St := ⟨markD x S.D, runI (x + cntD S.D) S.cs.length, runDp (x + cntD S.D + S.cs.length) S.ds.length, S.fund⟩
def markFs (x : Int) (D : Dr) (fs : List SF) : List SF := markT (x + 2 * D.fn.length + 2 * D.fl.length + 2 * D.nn.length + 2 * D.nl.length) fs
theorem StLe.cnt {S : St} (h : StLe S) : cntSt S ≤ 30000000 := by
  have := h.D.cnt
  have := h.cs
  have := h.ds
  unfold cntSt
  omega
theorem blksD_mark {a b c d e : Value} {D : Dr} {fs : List SF} {x : Int} (k : Nat) (h : blksD a b c d e (markFs x D fs) k) : blksD a b c d e fs k := by
  rcases h with h | h | h
  · exact .inl h
  · exact .inr (.inl h)
  · exact .inr (.inr (blksT_mark k h))
set_option maxHeartbeats 8000000 in
set_option maxRecDepth 100000 in
theorem markStudio_any (base : Nat) (va vb vc vd ve vf vg : Value) (S : St) (fs : List SF) (x : Int) (w : World) (h : OwnSt base w va vb vc vd ve vf vg S fs) (hx : 0 ≤ x) (hm : x + cntSt S ≤ 1000000000000) :
    Calls Tryz.prog 31 #[.agg #[va, vb, vc, vd, ve, vf, vg, .int .i64 S.fund], .int .i64 x] w fun e w' => e = .returned (.int .i64 (x + cntSt S)) ∧
      OwnSt base w' va vb vc vd ve vf vg (markSt x S) (markFs x S.D fs) ∧ Turns (blksSt va vb vc vd ve vf vg fs) w w' := by
  have HLT := Lib.hid h.lt
  have HDC := Lib.hid h.d_c
  have HDD := Lib.hid h.d_d
  have HCD := Lib.hid h.c_d
  have hD : (cntSt S : Int) = cntD S.D + S.cs.length + 3 * S.ds.length := by unfold cntSt; omega
  obtain ⟨m, hmm⟩ : ∃ m, cntD S.D = m := ⟨_, rfl⟩
  have HM := Lib.hid hmm
  rw [hmm] at hD
  have hE : x + (cntSt S : Int) = x + m + S.cs.length + 3 * S.ds.length := by omega
  rw [hE]
  have hm' : x + m + S.cs.length + 3 * S.ds.length ≤ 1000000000000 := by omega
  have hmark : markSt x S = ⟨markD x S.D, runI (x + m) S.cs.length, runDp (x + m + S.cs.length) S.ds.length, S.fund⟩ := by unfold markSt; rw [hmm]
  have HMK := Lib.hid hmark
  have HO := Lib.hid (h.alloc (.cells #[va, vb, vc, vd, ve, vf, vg, .int .i64 S.fund] 34))
  clear h hm hD hE hmm hmark
  go_enter Tryz.func31, Tryz.ntmps31
  go_wp2_with fail
  obtain ⟨w0, hw0⟩ : ∃ w0, w0 = w.alloc (.cells #[va, vb, vc, vd, ve, vf, vg, .int .i64 S.fund] 34) := ⟨_, rfl⟩
  have hX0 : Blk w0 w.heap.size 34 #[va, vb, vc, vd, ve, vf, vg, .int .i64 S.fund] := hw0 ▸ Blk.newAt rfl
  have hT0 : Turns (blksSt va vb vc vd ve vf vg fs) w w0 := hw0 ▸ Turns.ofBelow ((Below.refl _ _).alloc (Nat.le_refl _) _)
  rw [← hw0] at HO ⊢
  clear hw0
  have hnX : ¬ blksSt va vb vc vd ve vf vg fs w.heap.size := fun hk => by have := (HLT.out _ hk).2; omega
  have h0 := HO.out
  clear HO
  have hm1 : x + (cntD S.D : Int) ≤ 1000000000000 := by rw [HM.out]; omega
  refine (markDraft_any base _ _ _ _ _ S.D fs x _ h0.dr hx hm1).mono ?_
  rintro e w1 ⟨rfl, ho1, ht1⟩
  rw [HM.out]
  clear hm1
  have hX1 := hX0.turned ht1 (fun hk => hnX (.inl hk))
  have hC1 : OwnI base w1 vf S.cs := own_turned h0.cs ht1 (fun k hk hk' => HDC.out k hk' hk)
  have hS1 : OwnDp base w1 vg S.ds := own_turned h0.ds ht1 (fun k hk hk' => HDD.out k hk' hk)
  have hT1 := hT0.trans (ht1.mono (S' := blksSt va vb vc vd ve vf vg fs) (fun k hk => .inl hk))
  clear ht1 h0 hX0 hT0
  obtain ⟨y_0, y_1, y_2, y_3, y_4, y_5, y_6, y_7⟩ := hX1.c8
  go_wp2_with fail
  refine (markIntS_any base _ S.cs (x + m) _ hC1 (by omega) (by omega)).mono ?_
  rintro e w2 ⟨rfl, ho2, hg2⟩
  have ht2 : Turns (fun k => vf.ownBlock = some k) w1 w2 := Turns.ofGrown hg2 (fun k hk => hk)
  have hX2 := hX1.turned ht2 (fun hk => hnX (.inr (.inl hk)))
  have hF2 := ho1.turned ht2 (fun k hk hk' => HDC.out k (blksD_mark k hk) hk')
  have hS2 : OwnDp base w2 vg S.ds := own_turned hS1 ht2 (fun k hk hk' => HCD.out k hk' hk)
  have hT2 := hT1.trans (ht2.mono (S' := blksSt va vb vc vd ve vf vg fs) (fun k hk => .inr (.inl hk)))
  clear ht2 hg2 hX1 hC1 hS1 hT1 ho1 y_0 y_1 y_2 y_3 y_4 y_5 y_6 y_7
  obtain ⟨y_0, y_1, y_2, y_3, y_4, y_5, y_6, y_7⟩ := hX2.c8
  go_wp2_with fail
  refine (markDepositS_any base _ S.ds (x + m + S.cs.length) _ hS2 (by omega) (by omega)).mono ?_
  rintro e w3 ⟨rfl, ho3, hg3⟩
  have ht3 : Turns (fun k => vg.ownBlock = some k) w2 w3 := Turns.ofGrown hg3 (fun k hk => hk)
  have hF3 := hF2.turned ht3 (fun k hk hk' => HDD.out k (blksD_mark k hk) hk')
  have hC3 : OwnI base w3 vf (runI (x + m) S.cs.length) := own_turned ho2 ht3 (fun k hk hk' => HCD.out k hk hk')
  have hT3 := hT2.trans (ht3.mono (S' := blksSt va vb vc vd ve vf vg fs) (fun k hk => .inr (.inr hk)))
  have HF : Hid (OwnSt base w3 va vb vc vd ve vf vg (markSt x S) (markFs x S.D fs)) := Lib.hid (by rw [HMK.out]; exact ⟨hF3, hC3, ho3, fun k hk hk' => HDC.out k (blksD_mark k hk) hk', fun k hk hk' => HDD.out k (blksD_mark k hk) hk', HCD.out⟩)
  have HT := Lib.hid hT3
  clear ht3 hg3 hX2 hF2 hS2 hT2 hT3 ho2 ho3 hF3 hC3 y_0 y_1 y_2 y_3 y_4 y_5 y_6 y_7
  go_wp2
  go_ret
  exact ⟨rfl, HF.out, HT.out⟩
set_option maxHeartbeats 8000000 in
set_option maxRecDepth 100000 in
theorem heldStudio_ok (va vb vc vd ve vf vg : Value) (S : St) (x : Int) (w : World) (h : RSt w va vb vc vd ve vf vg (markSt x S)) (hx : 0 ≤ x) (hm : x + cntSt S ≤ 1000000000000) :
    Calls Tryz.prog 32 #[.agg #[va, vb, vc, vd, ve, vf, vg, .int .i64 S.fund], .int .i64 x] w fun e w' => e = .returned (.int .i64 (x + cntSt S)) ∧ Below w.heap.size w w' := by
  have hD : (cntSt S : Int) = cntD S.D + S.cs.length + 3 * S.ds.length := by unfold cntSt; omega
  obtain ⟨m, hmm⟩ : ∃ m, cntD S.D = m := ⟨_, rfl⟩
  have HM := Lib.hid hmm
  rw [hmm] at hD
  have hE : x + (cntSt S : Int) = x + m + S.cs.length + 3 * S.ds.length := by omega
  rw [hE]
  have hm' : x + m + S.cs.length + 3 * S.ds.length ≤ 1000000000000 := by omega
  have hmark : markSt x S = ⟨markD x S.D, runI (x + m) S.cs.length, runDp (x + m + S.cs.length) S.ds.length, S.fund⟩ := by unfold markSt; rw [hmm]
  rw [hmark] at h
  have c1 : ¬ x + (m : Int) < 0 := by omega
  have c2 : ¬ x + (m : Int) + S.cs.length < 0 := by omega
  have c3 : ¬ x + (m : Int) + S.cs.length + 3 * S.ds.length < 0 := by omega
  have h1 := h.dr
  have h2 := h.cs
  have h3 := h.ds
  clear hm hD hE hmm hmark h
  go_enter Tryz.func32, Tryz.ntmps32
  go_wp2_with fail
  have hm1 : x + (cntD S.D : Int) ≤ 1000000000000 := by rw [HM.out]; omega
  refine (heldDraft_ok _ _ _ _ _ S.D x _ (h1.below (by exact bel_)) hx hm1).mono ?_
  rintro e w1 ⟨rfl, hb1⟩
  rw [HM.out]
  have hz1 := hb1.size
  simp at hz1
  have hbw1 : Below w.heap.size w w1 := by exact bel_
  have hX1 : Blk w1 w.heap.size 34 #[va, vb, vc, vd, ve, vf, vg, .int .i64 S.fund] := Blk.below (Blk.newAt rfl) hb1 sz_
  clear hb1 hm1
  obtain ⟨y_0, y_1, y_2, y_3, y_4, y_5, y_6, y_7⟩ := hX1.c8
  go_wp2_with fail
  refine (held_ok _ S.cs.length (x + m) _ (h2.below hbw1) (by omega) (by omega)).mono ?_
  rintro e w' ⟨rfl, rfl⟩
  go_wp2_with fail
  refine (heldDepositS_ok _ S.ds.length (x + m + S.cs.length) _ (h3.below hbw1) (by omega) (by omega)).mono ?_
  rintro e w' ⟨rfl, rfl⟩
  go_wp2
  go_ret
  exact ⟨rfl, hbw1⟩
end Go.Proofs.YtnjcpljhmhdhkaaGreat

namespace Go.Proofs.YtnjcpljhmhdhkaaGreat
open Go.RowKit
set_option maxHeartbeats 16000000 in
set_option maxRecDepth 100000 in
theorem iCopySt_any (v0 v1 v2 v3 v4 v5 v6 : Value) (S : St) (w : World) (h : RSt w v0 v1 v2 v3 v4 v5 v6 S) (hle : StLe S) :
    Calls Tryz.prog 68 #[.agg #[v0, v1, v2, v3, v4, v5, v6, .int .i64 S.fund]] w (RetStu S w) := by
  have HLE := Lib.hid hle
  obtain ⟨w0, hw0⟩ : ∃ u, u = (w.alloc (.cells #[v0, v1, v2, v3, v4, v5, v6, .int .i64 S.fund] 34)).alloc (.cells #[.slice none 0 0, .slice none 0 0, .slice none 0 0, .slice none 0 0, .slice none 0 0, .slice none 0 0, .slice none 0 0, .int .i64 0] 34) := ⟨_, rfl⟩
  have hX0 : Blk w0 w.heap.size 34 #[v0, v1, v2, v3, v4, v5, v6, .int .i64 S.fund] := hw0 ▸ (Blk.newAt rfl).alloc _
  have hR0 : Blk w0 (w.heap.size + 1) 34 #[.slice none 0 0, .slice none 0 0, .slice none 0 0, .slice none 0 0, .slice none 0 0, .slice none 0 0, .slice none 0 0, .int .i64 0] := hw0 ▸ Blk.newAt (by simp)
  have hb0 : Below w.heap.size w w0 := hw0 ▸ ((Below.refl _ _).alloc (Nat.le_refl _) _).alloc (by simp) _
  have hs0 : w0.heap.size = w.heap.size + 1 + 1 := by rw [hw0]; simp
  have HW0 := Lib.hid hw0
  have hd := Lib.hid (h.below hb0)
  clear hle h hw0
  go_enter Tryz.func68, Tryz.ntmps68
  go_upto_region 1 with (fail)
  rw [← HW0.out]
  clear HW0
  obtain ⟨x_0, x_1, x_2, x_3, x_4, x_5, x_6, x_7, x_f0, x_f1, x_f2, x_f3, x_f4, x_f5, x_f6, x_f7⟩ := hX0.b8
  obtain ⟨r_0, r_1, r_2, r_3, r_4, r_5, r_6, r_7, r_f0, r_f1, r_f2, r_f3, r_f4, r_f5, r_f6, r_f7⟩ := hR0.b8
  have q0 : w.heap.size < w0.heap.size := by omega
  have q1 : w.heap.size + 1 < w0.heap.size := by omega
  have HS0 := Lib.hid hs0
  have HR0 := Lib.hid hR0
  clear hs0 hX0 hR0
  go_region_held3 (fun w' => w'.cell? ⟨w.heap.size, 0, none⟩ = some (v0) ∧ w'.cell? ⟨w.heap.size, 1, none⟩ = some (v1) ∧ w'.cell? ⟨w.heap.size, 2, none⟩ = some (v2) ∧ w'.cell? ⟨w.heap.size, 3, none⟩ = some (v3) ∧ w'.cell? ⟨w.heap.size, 4, none⟩ = some (v4) ∧ w'.cell? ⟨w.heap.size, 5, none⟩ = some (v5) ∧ w'.cell? ⟨w.heap.size, 6, none⟩ = some (v6) ∧ w'.cell? ⟨w.heap.size, 7, none⟩ = some (.int .i64 S.fund))
    (go_keep)
    (first | (go_at_call 80; refine Calls.mono (iCopyD_any _ _ _ _ _ S.D _ (hd.out.dr.below ?a1) HLE.out.D) ?_; (case a1 => exact bel_); rintro e w1 ⟨A0, ac0, A1, ac1, A2, ac2, A3, ac3, A4, ac4, fs, rfl, ho1, hb1⟩; (first | (with_reducible have hcf1 := bcell_drew hb1) | have hcf1 := bcell hb1); obtain ⟨hc1, hf1⟩ := hcf1; have hz1 := hb1.size; (try simp at hz1); (try have hp1_0 : w.heap.size < w1.heap.size := by omega); (try have hp1_1 : w.heap.size + 1 < w1.heap.size := by omega); (try have hp1_2 : w.heap.size + 1 + 1 < w1.heap.size := by omega); (try have hp1_3 : w.heap.size + 1 + 1 + 1 < w1.heap.size := by omega)) | (go_at_call 133; refine Calls.mono (iCopyInts_any _ S.cs _ (hd.out.cs.below ?a2) HLE.out.cs) ?_; (case a2 => exact bel_); rintro e w2 ⟨z5, rfl, ho2, hb2⟩; (obtain ⟨A5, ac5, rfl, _⟩ := ho2.reads.form); (first | (with_reducible have hcf2 := bcell_drew hb2) | have hcf2 := bcell hb2); obtain ⟨hc2, hf2⟩ := hcf2; have hz2 := hb2.size; (try simp at hz2); (try have hp2_0 : w.heap.size < w2.heap.size := by omega); (try have hp2_1 : w.heap.size + 1 < w2.heap.size := by omega); (try have hp2_2 : w.heap.size + 1 + 1 < w2.heap.size := by omega); (try have hp2_3 : w.heap.size + 1 + 1 + 1 < w2.heap.size := by omega)) | (go_at_call 134; refine Calls.mono (iCopyDeps_any _ S.ds _ (hd.out.ds.below ?a3) HLE.out.ds) ?_; (case a3 => exact bel_); rintro e w3 ⟨z6, rfl, ho3, hb3⟩; (obtain ⟨A6, ac6, rfl⟩ := OwnDp.form ho3); (first | (with_reducible have hcf3 := bcell_drew hb3) | have hcf3 := bcell hb3); obtain ⟨hc3, hf3⟩ := hcf3; have hz3 := hb3.size; (try simp at hz3); (try have hp3_0 : w.heap.size < w3.heap.size := by omega); (try have hp3_1 : w.heap.size + 1 < w3.heap.size := by omega); (try have hp3_2 : w.heap.size + 1 + 1 < w3.heap.size := by omega); (try have hp3_3 : w.heap.size + 1 + 1 + 1 < w3.heap.size := by omega)))
  have hs0 := HS0.out
  have k13 : Below w1.heap.size w1 w3 := by exact bel_
  have k23 : Below w2.heap.size w2 w3 := by exact bel_
  have k03 : Below w0.heap.size w0 w3 := by exact bel_
  have HST : Hid (OwnSt (w.heap.size + 1 + 1) w3 (.slice A0 S.D.fn.length ac0) (.slice A1 S.D.fl.length ac1) (.slice A2 S.D.nn.length ac2) (.slice A3 S.D.nl.length ac3) (.slice A4 S.D.ss.length ac4) (.slice A5 S.cs.length ac5) (.slice A6 S.ds.length ac6) S fs) := Lib.hid (by
    have hlt1 := ho1.lt
    have hlt2 := World.ownsRow.lt ho2
    have hlt3 := World.ownsRow.lt ho3
    try simp at hlt1
    try simp at hlt2
    try simp at hlt3
    refine ⟨(ho1.kept k13).mono ?_, (OwnI.kept ho2 k23).mono ?_, ho3.mono ?_, fun k h1 h2 => ?_, fun k h1 h2 => ?_, fun k h1 h2 => ?_⟩
    · exact sz_
    · exact sz_
    · exact sz_
    · have := hlt1 k h1; have := hlt2 k h2; omega
    · have := hlt1 k h1; have := hlt3 k h2; omega
    · have := hlt2 k h1; have := hlt3 k h2; omega)
  have HBW := Lib.hid (hb0.trans (k03.mono hb0.size))
  have n1 : w.heap.size + 1 < w3.heap.size := by have := k03.size; omega
  have hR3 := HR0.out.below k03 q1
  obtain ⟨t_0, t_1, t_2, t_3, t_4, t_5, t_6, t_7⟩ := hR3.c8
  clear hb0 hb1 hb2 hb3 ho1 ho2 ho3 k13 k23 k03
  go_wp2
  refine bodyPost_ret (v := .agg #[.slice A0 S.D.fn.length ac0, .slice A1 S.D.fl.length ac1, .slice A2 S.D.nn.length ac2, .slice A3 S.D.nl.length ac3, .slice A4 S.D.ss.length ac4, .slice A5 S.cs.length ac5, .slice A6 S.ds.length ac6, .int .i64 S.fund]) (by simp [results, Tryz.results68, go_sem, n1, t_0, t_1, t_2, t_3, t_4, t_5, t_6, t_7]) rfl ?_
  refine ⟨A0, ac0, A1, ac1, A2, ac2, A3, ac3, A4, ac4, A5, ac5, A6, ac6, fs, rfl, ?_, ?_⟩
  · refine OwnSt.mono (base := w.heap.size + 1 + 1) ?_ (by omega)
    repeat (first | (with_reducible exact HST.out) | (with_reducible refine OwnSt.setLow ?_ ?_ _))
    all_goals exact sz_
  · have hbw3 := HBW.out
    exact bel_
end Go.Proofs.YtnjcpljhmhdhkaaGreat
