/- part 36 -/
import Derived.Test.YtnjcpljhmhdhkaaGreatCPk35
set_option linter.unusedSimpArgs false
set_option linter.unusedVariables false
namespace Go.Proofs.YtnjcpljhmhdhkaaGreat
open Go.RowKit
def RetIB (L : List Int) (b : Bool) (w : World) (e : Ending) (w' : World) : Prop := ∃ v, e = .returned (.tuple #[v, .bool b]) ∧ OwnI w.heap.size w' v L ∧ Below w.heap.size w w'
theorem rep_snocI (k : Nat) : List.replicate k (-1 : Int) ++ [-1] = List.replicate (k + 1) (-1) := by rw [List.replicate_succ']
set_option maxHeartbeats 4000000 in
set_option maxRecDepth 100000 in
theorem sFree_any (n : Nat) (w : World) (h : n ≤ 40) :
    Calls Tryz.prog 181 #[.int .i64 n] w (RetI (List.replicate n (-1)) w) := by
  have hb0 : Below w.heap.size w (w.alloc (.cells #[] 3)) := by exact bel_
  have hO0 : OwnI w.heap.size (w.alloc (.cells #[] 3)) (.slice (some ⟨w.heap.size, 0, none⟩) 0 0) (List.replicate 0 (-1)) := OwnI.made rfl (Nat.le_refl _)
  go_enter Tryz.func181, Tryz.ntmps181
  go_wp2
  go_loopw [3, 4] (fun v x wr => ∃ k : Nat, k ≤ n ∧ x = .int .i64 k ∧ OwnI w.heap.size wr v (List.replicate k (-1)) ∧ Below w.heap.size w wr) (fun _ x _ => n - (intOf x).toNat)
  case atStart => exact ⟨0, Nat.zero_le _, rfl, hO0, hb0⟩
  case round =>
    clear hO0 hb0
    obtain ⟨k, hk, rfl, ho, hB⟩ := hrel
    have hsz := hB.size
    by_cases hlt : k < n
    · have hlt1 : (k : Int) < (n : Int) := by omega
      have hlen : (List.replicate k (-1 : Int)).length ≤ 40 := by simp; omega
      have HS := Lib.hid (rep_snocI k)
      generalize List.replicate k (-1 : Int) = G at *
      go_wp2_with (at_builtin; refine wpList_append_i rfl _ _ rfl w.heap.size _ G (-1) rfl wr.heap.size rfl (cell_new1 rfl) (ho.alloc _) (by omega) (by simp; omega) ?_)
      intro v2 w2 ho2 hg2 hw2
      have hb2 : Below w.heap.size w w2 := (hB.alloc hB.size (.cells #[.int .i64 (-1)] 3)).grown hg2 (by simp; omega) (fun q hq => by have := (ho.lt q hq).1; omega)
      clear hg2 hw2 ho hB
      go_wp2
      go_roundw
      case rel => exact ⟨k + 1, by omega, by go_num, by rw [← HS.out]; exact ho2, hb2⟩
      case measure => simp [intOf]; omega
    · have hkk : k = n := by omega
      subst hkk
      go_wp2
      go_ret
      exact ⟨_, rfl, ho, hB⟩
def noW (F : Nat) : List Int := List.replicate F (-1)
theorem noW_len (F : Nat) : (noW F).length = F := by simp [noW]
theorem noW_get {F k : Nat} (h : k < F) : (noW F).getD k 0 = -1 := by simp [noW, List.getD, h]
theorem noW_ok {F k : Nat} {x : Int} (h : k < F) : wishC (noW F) k x = true := wish_free h
structure SrA (w : World) (b F : Nat) (adj : Nat → Nat → Bool) (vg : Value) : Prop where
  tab : TabAt w b 0 F adj
  wish : RI w vg (noW F)
theorem SrA.below {w w' : World} {b F : Nat} {adj : Nat → Nat → Bool} {vg : Value} (h : SrA w b F adj vg) (hb : Below w.heap.size w w') : SrA w' b F adj vg := ⟨h.tab.below hb, h.wish.below hb⟩
set_option maxHeartbeats 16000000 in
set_option maxRecDepth 100000 in
theorem sSearch_at (F n b cT : Nat) (adj : Nat → Nat → Bool) (vg : Value) (hF : F ≤ 40) (hn : n ≤ 6) :
    ∀ (r : Nat) (hd : List Int) (vh : Value) (w : World), hd.length + r = F → SrA w b F adj vg → RI w vh hd →
      Calls Tryz.prog 180 #[.slice (some ⟨b, 0, none⟩) F cT, vg, .int .i64 n, vh] w (RetIB ((srch adj (noW F) n r hd).getD []) (srch adj (noW F) n r hd).isSome w) := by
  intro r
  obtain ⟨i0, hi, iz0, iz1, iz2⟩ := info_parts infoInt
  induction r with
  | zero =>
    intro hd vh w hl hA hH
    obtain ⟨Ah, ch, rfl, hch, hmh, _⟩ := hH.form
    unfold maxLen at hmh
    have HH := Lib.hid hH
    have HR : Hid (srch adj (noW F) n 0 hd = some hd) := Lib.hid rfl
    have e1 : ((hd.length : Int) == (F : Int)) = true := by rw [show hd.length = F by omega]; simp
    have hb0 : Below w.heap.size w (w.alloc (.cells #[] 3)) := by exact bel_
    clear hH hA
    go_enter Tryz.func180, Tryz.ntmps180
    go_wp2_with (at_builtin; refine wpList_append_rs rfl _ _ _ rfl w.heap.size 3 i0 (.int .i64 0) 1 8 Tryz.underlying31 hi iz0 iz1 iz2 rfl (by decide) (.slice (some ⟨w.heap.size, 0, none⟩) 0 0) _ 0 hd.length [] (hd.map vI) rfl rfl (owns_made0 (Nat.le_refl _) rfl) (RI.below HH.out hb0) (one_ints hd) (by omega) (by decide) (by simp) ?_)
    intro A2 c2 w4 ho4 hg4 _
    have hbw4 : Below w.heap.size w w4 := hb0.grown hg4 (by simp) (fun q hq => by cases hq; exact Nat.le_refl _)
    have HO : Hid (OwnI w.heap.size w4 (.slice A2 (0 + hd.length) c2) hd) := Lib.hid (by unfold OwnI; simpa using ho4)
    clear ho4 hg4
    go_wp2
    exact bodyPost_ret (v := .tuple #[.slice A2 (0 + hd.length) c2, .bool true]) (by simp [results, Tryz.results180, go_sem]) rfl ⟨_, by rw [HR.out]; rfl, by rw [HR.out]; exact HO.out, hbw4⟩
  | succ r ih =>
    intro hd vh w hl hA hH
    obtain ⟨Ah, ch, rfl, hch, hmh, hcellh⟩ := hH.form
    obtain ⟨Ag, cg, rfl, hcg, hmg, hcellg⟩ := hA.wish.form
    unfold maxLen at hmh hmg
    rw [noW_len] at hcg hmg hcellg hA ih ⊢
    obtain ⟨bg, og, rfl, hbg, hclg⟩ := hcellg (by omega)
    obtain ⟨k, hk⟩ : ∃ k, hd.length = k := ⟨_, rfl⟩
    have hkF : k < F := by omega
    have hx := hclg k hkF
    rw [noW_get hkF] at hx
    have HIH := Lib.hid ih
    have HA := Lib.hid hA
    have hHk : RI w (.slice Ah k ch) hd := by rw [← hk]; exact hH
    have HH := Lib.hid hHk
    have hTB := hA.tab.1
    have HT := Lib.hid hA.tab.2
    have HCH := Lib.hid hcellh
    have e1 : ((hd.length : Int) == (F : Int)) = false := by rw [hk]; exact beq_eq_false_iff_ne.2 (by omega)
    have HWY : Hid (∀ x : Int, wishC (noW F) k x = true) := Lib.hid (fun x => noW_ok hkF)
    have HFO := Lib.hid (fun (x : Nat) h => srF_ok (adj := adj) (gv := noW F) (n := n) (r := r) (hd := hd) (x := x) h)
    have HFG := Lib.hid (fun (x : Nat) h1 h2 => srF_go (adj := adj) (gv := noW F) (n := n) (r := r) (hd := hd) (x := x) h1 h2)
    have HHI := Lib.hid (fun (x : Nat) (L : List Int) hx hp h => srch_hit (adj := adj) (gv := noW F) (n := n) (r := r) (hd := hd) (L := L) (x := x) hx hp h)
    have HMI := Lib.hid (fun hp => srch_miss (adj := adj) (gv := noW F) (n := n) (r := r) (hd := hd) hp)
    have HOS := Lib.hid (fun (x : Int) (i : Nat) => okP_succ (adj := adj) (hd := hd) (k := k) (x := x) (i := i))
    have HOA : Hid (∀ x : Int, okP adj hd k x k = okC adj hd k x) := Lib.hid (fun _ => rfl)
    have HOZ : Hid (∀ x : Int, okP adj hd k x 0 = true) := Lib.hid (fun _ => rfl)
    rw [hk] at HFO HFG
    have HKK := Lib.hid hk
    have HLR := Lib.hid hl
    generalize srch adj (noW F) n (r + 1) hd = RR at *
    clear hA hH hHk ih hcellh hcellg hclg hl
    rw [hk]
    rw [hk] at e1 hch hmh HCH
    have ik1 : (0 : Int) ≤ (k : Int) := by omega
    have ik2 : (k : Int) < (F : Int) := by omega
    clear hk
    go_enter Tryz.func180, Tryz.ntmps180
    go_wp2
    go_loopw [11] (fun s wr => ∃ x : Nat, x ≤ n ∧ s = .int .i64 x ∧ Hid (∀ y, y < x → srF adj (noW F) n r hd y = none) ∧ Below w.heap.size w wr) (fun s _ => n - (intOf s).toNat)
    case atStart => exact ⟨0, Nat.zero_le _, rfl, Lib.hid (fun y hy => absurd hy (by omega)), Below.refl _ _⟩
    case round =>
      obtain ⟨x, hxn, rfl, HP, hB⟩ := hrel
      have hsz := hB.size
      have hbl : b < wr.heap.size := by omega
      have hbg' : bg < wr.heap.size := by omega
      have hx' := (hB.cell (p := ⟨bg, og + k, none⟩) hbg).trans hx
      by_cases hlt : x < n
      · have hlt1 : (x : Int) < (n : Int) := by omega
        have HB := Lib.hid hB
        clear hB
        go_wp2
        obtain ⟨wq, hwq⟩ : ∃ u, u = wr := ⟨_, rfl⟩
        rw [← hwq]
        go_loopw [12, 13] (fun s t w2 => ∃ i : Nat, i ≤ k ∧ t = .int .i64 i ∧ s = .bool (okP adj hd k x i) ∧ w2 = wr) (fun _ t _ => k - (intOf t).toNat)
        case atStart => exact ⟨0, Nat.zero_le _, rfl, by rw [HOZ.out], hwq⟩
        case round =>
          clear hwq wq
          obtain ⟨i, hik, rfl, rfl, rfl⟩ := hrel
          by_cases hil : i < k
          · have hil1 : (i : Int) < (k : Int) := by omega
            have ii1 : (0 : Int) ≤ (i : Int) := by omega
            have ii2 : (i : Int) < (F : Int) := by omega
            obtain ⟨bi, hbi, hc0, hcc⟩ := HT.out i (by omega)
            have hc1 := hcc k hkF
            obtain ⟨bh, oh, rfl, hbh, hch1⟩ := HCH.out (by omega)
            have hc2 := hch1 i hil
            have q0 := (HB.out.cell (p := ⟨b, 0 + i, none⟩) hTB).trans hc0
            have q1 := (HB.out.cell (p := ⟨bi, k, none⟩) hbi).trans hc1
            have q2 := (HB.out.cell (p := ⟨bh, oh + i, none⟩) hbh).trans hc2
            rw [Nat.zero_add] at q0
            have l1 : bi < wr.heap.size := by omega
            have l2 : bh < wr.heap.size := by omega
            have HS := Lib.hid (HOS.out x i)
            clear hc0 hcc hc1 hc2 hch1
            generalize adj i k = a at *
            generalize hd.getD i 0 = h at *
            generalize okP adj hd k x i = o at *
            cases o
            · go_wp2
              go_roundw
              case rel => exact ⟨i + 1, by omega, by go_num, by rw [HS.out]; rfl, by trivial⟩
              case measure => simp [intOf]; omega
            · cases a
              · go_wp2
                go_roundw
                case rel => exact ⟨i + 1, by omega, by go_num, by rw [HS.out]; rfl, by trivial⟩
                case measure => simp [intOf]; omega
              · by_cases he : h = (x : Int)
                · have e2 : (h == (x : Int)) = true := beq_iff_eq.2 he
                  rw [e2] at HS
                  clear he
                  go_wp2
                  go_roundw
                  case rel => exact ⟨i + 1, by omega, by go_num, by rw [HS.out]; rfl, by trivial⟩
                  case measure => simp [intOf]; omega
                · have e2 : (h == (x : Int)) = false := beq_eq_false_iff_ne.2 he
                  rw [e2] at HS
                  clear he
                  go_wp2
                  go_roundw
                  case rel => exact ⟨i + 1, by omega, by go_num, by rw [HS.out]; rfl, by trivial⟩
                  case measure => simp [intOf]; omega
          · have hii : i = k := by omega
            subst hii
            rw [HOA.out]
            have HFO1 := Lib.hid (HFO.out x)
            have HFG1 := Lib.hid (HFG.out x (HWY.out x))
            generalize okC adj hd i (x : Int) = o at *
            cases o
            · have HX := Lib.hid (HFO1.out rfl)
              have HP2 := Lib.hid (next_none HP.out HX.out)
              go_wp2
              go_roundw
              case rel => exact ⟨x + 1, by omega, by go_num, HP2, HB.out⟩
              case measure => simp [intOf]; omega
            · have HX := Lib.hid (HFG1.out rfl)
              have hb0 : Below wr.heap.size wr (wr.alloc (.cells #[] 3)) := by exact bel_
              go_wp2_with (at_builtin; refine wpList_append_rs rfl _ _ _ rfl wr.heap.size 3 i0 (.int .i64 0) 1 8 Tryz.underlying31 hi iz0 iz1 iz2 rfl (by decide) (.slice (some ⟨wr.heap.size, 0, none⟩) 0 0) (.slice Ah i ch) 0 hd.length [] (hd.map vI) rfl rfl (owns_made0 (Nat.le_refl _) rfl) (RI.below HH.out (HB.out.trans (hb0.mono (by omega)))) (one_ints hd) (by have := HKK.out; omega) (by decide) (by simp) ?_)
              intro A2 c2 w4 ho4 hg4 _
              have hb4 : Below wr.heap.size wr w4 := hb0.grown hg4 (by simp) (fun q hq => by cases hq; exact Nat.le_refl _)
              have ho4' : OwnI wr.heap.size w4 (.slice A2 hd.length c2) hd := by unfold OwnI; simpa using ho4
              have hz4 := hb4.size
              clear ho4 hg4 hb0
              go_wp2_with (at_builtin; refine wpList_append_i rfl _ _ rfl wr.heap.size (.slice A2 hd.length c2) hd (x : Int) rfl w4.heap.size rfl (cell_new1 rfl) (ho4'.alloc _) (by have := HKK.out; omega) (by simp; omega) ?_)
              intro v5 w5 ho5 hg5 _
              have hb5 : Below wr.heap.size wr w5 := (hb4.alloc hz4 (.cells #[.int .i64 x] 3)).grown hg5 (by simp; omega) (fun q hq => by have := (ho4'.lt q hq).1; omega)
              have hz5 := hb5.size
              have hbw5 := HB.out.trans (hb5.mono HB.out.size)
              have HC := Lib.hid (HIH.out (hd ++ [(x : Int)]) v5 w5 (by have := HLR.out; simp; omega) (HA.out.below hbw5) ho5.reads)
              have HBW := Lib.hid hbw5
              clear ho4' hg5 hb4 ho5 hbw5 hb5
              go_wp2_with fail
              refine HC.out.mono ?_
              rw [← HX.out]
              rintro e w6 ⟨v6, rfl, ho6, hb6⟩
              have HB6 := Lib.hid (HBW.out.trans (hb6.mono HBW.out.size))
              have HO6 := Lib.hid (OwnI.mono ho6 (HBW.out.size))
              clear ho6 hb6 HC
              obtain ⟨oo, hoo⟩ : ∃ o, srF adj (noW F) n r hd x = o := ⟨_, rfl⟩
              rw [hoo] at HO6 ⊢
              cases oo with
              | none =>
                have HP2 := Lib.hid (next_none HP.out hoo)
                clear hoo
                go_wp2
                go_roundw
                case rel => exact ⟨x + 1, by omega, by go_num, HP2, HB6.out⟩
                case measure => simp [intOf]; omega
              | some L =>
                have HR := Lib.hid (HHI.out x L hlt HP.out hoo)
                clear hoo
                go_wp2
                exact bodyPost_ret (v := .tuple #[v6, .bool true]) (by simp [results, Tryz.results180, go_sem]) rfl ⟨_, by rw [HR.out]; rfl, by rw [HR.out]; exact HO6.out, HB6.out⟩
      · have hxx : x = n := by omega
        subst hxx
        have HR := Lib.hid (HMI.out HP.out)
        have HO : Hid (OwnI w.heap.size (wr.alloc (.cells #[] 3)) (.slice (some ⟨wr.heap.size, 0, none⟩) 0 0) []) := Lib.hid (OwnI.made rfl (by omega))
        have HBB := Lib.hid (hB.alloc hB.size (.cells #[] 3))
        clear hB
        go_wp2
        exact bodyPost_ret (v := .tuple #[.slice (some ⟨wr.heap.size, 0, none⟩) 0 0, .bool false]) (by simp [results, Tryz.results180, go_sem]) rfl ⟨_, by rw [HR.out]; rfl, by rw [HR.out]; exact HO.out, HBB.out⟩
end Go.Proofs.YtnjcpljhmhdhkaaGreat

namespace Go.Proofs.YtnjcpljhmhdhkaaGreat
open Go.RowKit
def Tw (bC gO : Nat) (k : Nat) : Prop := k = bC ∨ k = gO
structure Fx (bC gO : Nat) (w : World) (g o : Nat) (v : Value) : Prop where
  lt : g < w.heap.size
  nc : g ≠ bC
  no : g ≠ gO
  at_ : w.cell? ⟨g, o, none⟩ = some v
theorem Fx.turned {bC gO : Nat} {w w' : World} {g o : Nat} {v : Value} (h : Fx bC gO w g o v) (ht : Turns (Tw bC gO) w w') : Fx bC gO w' g o v :=
  ⟨Nat.lt_of_lt_of_le h.lt ht.size, h.nc, h.no, (cell_of_block (ht.block g h.lt (fun e => e.elim h.nc h.no))).trans h.at_⟩
set_option maxHeartbeats 4000000 in
set_option maxRecDepth 100000 in
theorem iTell_at (v : Value) (L : List Int) (gO : Nat) (w : World) (h : RI w v L) (hle : L.length ≤ 40) (hO : Blk w gO 31 #[.slice none 0 0]) :
    Calls Tryz.prog 237 #[v, .pointer (some ⟨gO, 0, none⟩)] w fun e w' => e = .returned (.bool true) ∧ ∃ u, Blk w' gO 31 #[u] ∧ OwnI w.heap.size w' u L ∧ w.grownBy w' (some gO) := by
  have hOl := hO.lt
  have HO := Lib.hid hO
  clear hO
  go_enter Tryz.func237, Tryz.ntmps237
  go_wp2_with fail
  refine (iCopyInts_any v L _ h (by omega)).mono ?_
  rintro e w1 ⟨u, rfl, ho1, hb1⟩
  obtain ⟨Au, cu, rfl⟩ := OwnE.form (t := 3) (enc := vI) ho1
  have hO1 := HO.out.below hb1 hOl
  have hO1l := hO1.lt
  have q0 : w1.cell? ⟨gO, 0, none⟩ = some (.slice none 0 0) := hO1.cell 0
  have q1 : w1.frozen? ⟨gO, 0, none⟩ = false := hO1.frozen 0
  have HB := Lib.hid (hO1.set_ 0 (.slice Au L.length cu))
  have HL := Lib.hid (OwnI.far ho1 (grown_set (grown_refl w1 (some gO)) 0 (.slice Au L.length cu)) (fun k hk => by cases hk; exact hOl))
  have HG := Lib.hid (grown_set (g := gO) (grown_bel (grown_refl w (some gO)) hb1) 0 (.slice Au L.length cu))
  clear ho1 hb1 hO1 h
  go_wp2
  go_ret
  exact ⟨rfl, _, HB.out, HL.out, HG.out⟩
structure PutI (bC gO gC gT gN gW gA gP bW oW cW bA oA cA F n : Nat) (near : Nat → Nat) (w : World) : Prop where
  C : Fx bC gO w gC 0 (.slice (some ⟨bC, 0, none⟩) F F)
  T : Fx bC gO w gT 0 (.func (.func 237) #[] #[.pointer (some ⟨gO, 0, none⟩)])
  N : Fx bC gO w gN 0 (.int .i64 n)
  W : Fx bC gO w gW 0 (.slice (some ⟨bW, oW, none⟩) F cW)
  A : Fx bC gO w gA 0 (.slice (some ⟨bA, oA, none⟩) F cA)
  P : Fx bC gO w gP 0 (.func (.func 257) #[] #[.pointer (some ⟨gC, 0, none⟩), .pointer (some ⟨gT, 0, none⟩), .pointer (some ⟨gN, 0, none⟩), .pointer (some ⟨gW, 0, none⟩), .pointer (some ⟨gA, 0, none⟩), .pointer (some ⟨gP, 0, none⟩)])
  w_ : ∀ k, k < F → Fx bC gO w bW (oW + k) (.int .i64 (-1))
  a_ : ∀ k, k < F → Fx bC gO w bA (oA + k) (.int .i64 (near k : Nat))
theorem PutI.turned {bC gO gC gT gN gW gA gP bW oW cW bA oA cA F n : Nat} {near : Nat → Nat} {w w' : World} (h : PutI bC gO gC gT gN gW gA gP bW oW cW bA oA cA F n near w) (ht : Turns (Tw bC gO) w w') :
    PutI bC gO gC gT gN gW gA gP bW oW cW bA oA cA F n near w' :=
  ⟨h.C.turned ht, h.T.turned ht, h.N.turned ht, h.W.turned ht, h.A.turned ht, h.P.turned ht, fun k hk => (h.w_ k hk).turned ht, fun k hk => (h.a_ k hk).turned ht⟩
def PutQ (base bC gO F : Nat) (hd : List Int) (o : Option (List Int)) (w : World) (e : Ending) (w' : World) : Prop :=
  ∃ b : Bool, e = .returned (.bool b) ∧ Turns (Tw bC gO) w w' ∧ (∃ cs, OwnI base w' (.slice (some ⟨bC, 0, none⟩) F F) cs ∧ cs.take hd.length = hd) ∧
    ((b = false ∧ o = none ∧ Blk w' gO 31 #[.slice none 0 0]) ∨ (b = true ∧ ∃ L u, o = some L ∧ Blk w' gO 31 #[u] ∧ OwnI w.heap.size w' u L))
theorem take_get {cs hd : List Int} (h : cs.take hd.length = hd) {i : Nat} (hi : i < hd.length) : cs.getD i 0 = hd.getD i 0 := by
  rw [← h, List.getD_eq_getElem?_getD, List.getD_eq_getElem?_getD, List.getElem?_take]
  rw [if_pos hi]
theorem take_set {cs hd : List Int} (h : cs.take hd.length = hd) (hl : hd.length < cs.length) (x : Int) : (cs.set hd.length x).take (hd ++ [x]).length = hd ++ [x] := by
  rw [List.length_append, List.length_singleton, List.take_succ_eq_append_getElem (by simpa using hl)]
  rw [List.take_set_of_le (Nat.le_refl _), h]
  simp
theorem take_less {cs hd : List Int} {x : Int} (h : cs.take (hd ++ [x]).length = hd ++ [x]) : cs.take hd.length = hd := by
  have e := congrArg (List.take hd.length) h
  rw [List.take_take, List.length_append, List.length_singleton, Nat.min_eq_left (by omega), List.take_left'] at e
  · exact e
  · rfl
set_option maxHeartbeats 16000000 in
set_option maxRecDepth 100000 in
theorem iPut_at (base bC gO gC gT gN gW gA gP bW oW cW bA oA cA F n : Nat) (near : Nat → Nat) (adj : Nat → Nat → Bool) (hadj : ∀ g f, g < F → f < F → (near f).testBit g = adj g f) (hlt : ∀ f, f < F → near f < 2 ^ 40) (hF : F ≤ 40) (hn : n ≤ 6) (hCO : bC ≠ gO) :
    ∀ (r : Nat) (hd cs : List Int) (z : Int) (w : World), z = hd.length → hd.length + r = F → PutI bC gO gC gT gN gW gA gP bW oW cW bA oA cA F n near w → OwnI base w (.slice (some ⟨bC, 0, none⟩) F F) cs → cs.take hd.length = hd → Blk w gO 31 #[.slice none 0 0] →
      Calls Tryz.prog 257 #[.int .i64 z, .pointer (some ⟨gC, 0, none⟩), .pointer (some ⟨gT, 0, none⟩), .pointer (some ⟨gN, 0, none⟩), .pointer (some ⟨gW, 0, none⟩), .pointer (some ⟨gA, 0, none⟩), .pointer (some ⟨gP, 0, none⟩)] w
        (PutQ base bC gO F hd (srch adj (noW F) n r hd) w) := by
  intro r
  induction r with
  | zero =>
    intro hd cs z w hz hl hP hC hcs hO
    subst hz
    have hlc : cs.length = F := by have := OwnE.len (t := 3) (enc := vI) hC; omega
    have hcd : cs = hd := by
      rw [show hd.length = cs.length by omega, List.take_length] at hcs
      exact hcs
    subst hcd
    have HR : Hid (srch adj (noW F) n 0 cs = some cs) := Lib.hid rfl
    have e1 : ((cs.length : Int) == (F : Int)) = true := by rw [hlc]; simp
    have c0 := hP.C.at_
    have c1 := hP.T.at_
    have l0 := hP.C.lt
    have l1 := hP.T.lt
    have HT := Lib.hid (iTell_at _ cs gO w hC.reads (by omega) hO)
    have HC := Lib.hid hC
    clear hP hO hC hadj hlt hcs
    go_enter Tryz.func257, Tryz.ntmps257
    go_wp2_with fail
    refine HT.out.mono ?_
    rintro e w1 ⟨rfl, u, hO1, ho1, hg1⟩
    have HC1 := Lib.hid (own_turned (S := fun k => k = gO) HC.out (Turns.ofGrown hg1 (fun k hk => by cases hk; rfl)) (fun k hk e => by cases hk; exact hCO e))
    have HQ : Hid (Turns (Tw bC gO) w w1) := Lib.hid (Turns.ofGrown hg1 (fun k hk => by cases hk; exact .inr rfl))
    have HO1 := Lib.hid hO1
    have Ho1 := Lib.hid ho1
    clear hO1 ho1 hg1
    go_wp2
    go_ret
    exact ⟨true, rfl, HQ.out, ⟨cs, HC1.out, List.take_length⟩, .inr ⟨rfl, cs, u, HR.out, HO1.out, Ho1.out⟩⟩
  | succ r ih =>
    intro hd cs z w hz hl hP hC hcs hO
    obtain ⟨k, hk⟩ : ∃ k, hd.length = k := ⟨_, rfl⟩
    have hkF : k < F := by omega
    have e1 : ((k : Int) == (F : Int)) = false := beq_eq_false_iff_ne.2 (by omega)
    have HFO := Lib.hid (fun (x : Nat) h => srF_ok (adj := adj) (gv := noW F) (n := n) (r := r) (hd := hd) (x := x) h)
    have HFG := Lib.hid (fun (x : Nat) h1 h2 => srF_go (adj := adj) (gv := noW F) (n := n) (r := r) (hd := hd) (x := x) h1 h2)
    have HHI := Lib.hid (fun (x : Nat) (L : List Int) hx hp h => srch_hit (adj := adj) (gv := noW F) (n := n) (r := r) (hd := hd) (L := L) (x := x) hx hp h)
    have HMI := Lib.hid (fun hp => srch_miss (adj := adj) (gv := noW F) (n := n) (r := r) (hd := hd) hp)
    have HOS := Lib.hid (fun (x : Int) (i : Nat) => okP_succ (adj := adj) (hd := hd) (k := k) (x := x) (i := i))
    have HOA : Hid (∀ x : Int, okP adj hd k x k = okC adj hd k x) := Lib.hid (fun _ => rfl)
    have HOZ : Hid (∀ x : Int, okP adj hd k x 0 = true) := Lib.hid (fun _ => rfl)
    have HWY : Hid (∀ x : Int, wishC (noW F) k x = true) := Lib.hid (fun x => noW_ok hkF)
    have HTG := Lib.hid (fun (cs : List Int) (h : cs.take hd.length = hd) (i : Nat) (hi : i < hd.length) => take_get h hi)
    have HTS := Lib.hid (fun (cs : List Int) (h : cs.take hd.length = hd) (hl : hd.length < cs.length) (x : Int) => take_set h hl x)
    have HTL := Lib.hid (fun (cs : List Int) (x : Int) (h : cs.take (hd ++ [x]).length = hd ++ [x]) => take_less h)
    have HLX : Hid (∀ x : Int, (hd ++ [x]).length = k + 1) := Lib.hid (fun x => by simp [hk])
    have HIH := Lib.hid ih
    have HLR : Hid (∀ x : Int, (hd ++ [x]).length + r = F) := Lib.hid (fun x => by simp; omega)
    have HP := Lib.hid hP
    have HAD := Lib.hid (fun i (hi : i < F) => hadj i k hi hkF)
    have hnk := hlt k hkF
    have HKK := Lib.hid hk
    unfold PutQ
    rw [hk] at HFO HFG HTG HTS HTL
    rw [hz, hk]
    generalize srch adj (noW F) n (r + 1) hd = RR at *
    have hcs' : cs.take k = hd := by rw [← hk]; exact hcs
    clear hP ih hl hcs hadj hlt hz
    have ik1 : (0 : Int) ≤ (k : Int) := by omega
    have ik2 : (k : Int) < (F : Int) := by omega
    have c0 := HP.out.C.at_
    have l0 := HP.out.C.lt
    go_enter Tryz.func257, Tryz.ntmps257
    go_wp2
    clear c0 l0
    go_loopw [9] (fun s wr => ∃ x : Nat, x ≤ n ∧ s = .int .i64 x ∧ Hid (∀ y, y < x → srF adj (noW F) n r hd y = none) ∧ Turns (Tw bC gO) w wr ∧ (∃ cs, OwnI base wr (.slice (some ⟨bC, 0, none⟩) F F) cs ∧ Hid (cs.take k = hd)) ∧ Blk wr gO 31 #[.slice none 0 0]) (fun s _ => n - (intOf s).toNat)
    case atStart => exact ⟨0, Nat.zero_le _, rfl, Lib.hid (fun y hy => absurd hy (by omega)), Turns.refl _ _, ⟨cs, hC, Lib.hid hcs'⟩, hO⟩
    case round =>
      clear hC hO hcs'
      obtain ⟨x, hxn, rfl, HPR, ht, ⟨ds, hC, HCS⟩, hO⟩ := hrel
      have hPr := HP.out.turned ht
      have c0 := hPr.C.at_
      have c2 := hPr.N.at_
      have c3 := hPr.W.at_
      have c4 := hPr.A.at_
      have c5 := hPr.P.at_
      have l0 := hPr.C.lt
      have l2 := hPr.N.lt
      have l3 := hPr.W.lt
      have l4 := hPr.A.lt
      have l5 := hPr.P.lt
      have w1 := (hPr.w_ k hkF).at_
      have w2 := (hPr.w_ k hkF).lt
      have a1 := (hPr.a_ k hkF).at_
      have a2 := (hPr.a_ k hkF).lt
      have hlc : ds.length = F := by have := OwnE.len (t := 3) (enc := vI) hC; omega
      have hCl := (OwnI.lt hC bC rfl).2
      by_cases hlt : x < n
      · have hlt1 : (x : Int) < (n : Int) := by omega
        have HCC := Lib.hid hC
        have HOO := Lib.hid hO
        have HTT := Lib.hid ht
        have HPP := Lib.hid hPr
        clear hC hO ht hPr
        go_wp2
        obtain ⟨wq, hwq⟩ : ∃ u, u = wr := ⟨_, rfl⟩
        rw [← hwq]
        go_loopw [10, 11] (fun s t w2 => ∃ i : Nat, i ≤ k ∧ t = .int .i64 i ∧ s = .bool (okP adj hd k x i) ∧ w2 = wr) (fun _ t _ => k - (intOf t).toNat)
        case atStart => exact ⟨0, Nat.zero_le _, rfl, by rw [HOZ.out], hwq⟩
        case round =>
          clear hwq wq
          obtain ⟨i, hik, rfl, rfl, rfl⟩ := hrel
          by_cases hil : i < k
          · have hil1 : (i : Int) < (k : Int) := by omega
            have ii1 : (0 : Int) ≤ (i : Int) := by omega
            have ii2 : (i : Int) < (F : Int) := by omega
            have x0 := OwnE.cell (t := 3) (enc := vI) HCC.out 0 (q := i) (by omega)
            rw [HTG.out ds HCS.out i hil] at x0
            have x0' : wr.cell? ⟨bC, i, none⟩ = some (.int .i64 (hd.getD i 0)) := x0
            have bt := bit_test (s := near k) (k := i) (by omega)
            rw [HAD.out i (by omega)] at bt
            have h64 : i < 64 := by omega
            have HS := Lib.hid (HOS.out x i)
            clear x0
            generalize adj i k = a at *
            generalize hd.getD i 0 = h at *
            generalize okP adj hd k x i = o at *
            generalize near k = nk at *
            cases o
            · clear bt
              go_wp2
              go_roundw
              case rel => exact ⟨i + 1, by omega, by go_num, by rw [HS.out]; rfl, by trivial⟩
              case measure => simp [intOf]; omega
            · cases a
              · have bt' : bits .and .i64 ((nk : Int) / 2 ^ i) 1 = 0 := bt
                clear bt
                go_wp2
                go_roundw
                case rel => exact ⟨i + 1, by omega, by go_num, by rw [HS.out]; rfl, by trivial⟩
                case measure => simp [intOf]; omega
              · have bt' : bits .and .i64 ((nk : Int) / 2 ^ i) 1 = 1 := bt
                clear bt
                by_cases he : h = (x : Int)
                · have e2 : (h == (x : Int)) = true := beq_iff_eq.2 he
                  have e3 : (h != (x : Int)) = false := by rw [bne, e2]; rfl
                  rw [e2] at HS
                  clear he
                  go_wp2
                  go_roundw
                  case rel => exact ⟨i + 1, by omega, by go_num, by rw [HS.out]; rfl, by trivial⟩
                  case measure => simp [intOf]; omega
                · have e2 : (h == (x : Int)) = false := beq_eq_false_iff_ne.2 he
                  have e3 : (h != (x : Int)) = true := by rw [bne, e2]; rfl
                  rw [e2] at HS
                  clear he
                  go_wp2
                  go_roundw
                  case rel => exact ⟨i + 1, by omega, by go_num, by rw [HS.out]; rfl, by trivial⟩
                  case measure => simp [intOf]; omega
          · have hii : i = k := by omega
            subst hii
            rw [HOA.out]
            have HFO1 := Lib.hid (HFO.out x)
            have HFG1 := Lib.hid (HFG.out x (HWY.out x))
            generalize okC adj hd i (x : Int) = o at *
            cases o
            · have HX := Lib.hid (HFO1.out rfl)
              have HP2 := Lib.hid (next_none HPR.out HX.out)
              go_wp2
              go_roundw
              case rel => exact ⟨x + 1, by omega, by go_num, HP2, HTT.out, ⟨ds, HCC.out, HCS⟩, HOO.out⟩
              case measure => simp [intOf]; omega
            · have HX := Lib.hid (HFG1.out rfl)
              have hC2 := own_set HCC.out i x
              have ht2 : Turns (Tw bC gO) wr (wr.setCell ⟨bC, i, none⟩ (.int .i64 x)) := Turns.ofGrown (grown_set (g := bC) (grown_refl wr (some bC)) i (.int .i64 x)) (fun k hk => by cases hk; exact .inl rfl)
              have hO2 : Blk (wr.setCell ⟨bC, i, none⟩ (.int .i64 x)) gO 31 #[.slice none 0 0] := HOO.out.far (p := ⟨bC, i, none⟩) (show gO ≠ bC from fun e => hCO e.symm) _
              have hP2 := HPP.out.turned ht2
              have HCALL := Lib.hid (HIH.out (hd ++ [(x : Int)]) (ds.set i x) ((i : Int) + 1) (wr.setCell ⟨bC, i, none⟩ (.int .i64 x)) (by rw [HLX.out]; omega) (HLR.out _) hP2 hC2 (HTS.out ds HCS.out (by omega) x) hO2)
              have HT2 := Lib.hid (HTT.out.trans ht2)
              have fz := OwnE.frz (t := 3) (enc := vI) HCC.out i
              have xz := OwnE.cell (t := 3) (enc := vI) HCC.out 0 (q := i) (by omega)
              obtain ⟨zz, hzz⟩ : ∃ z, wr.cell? ⟨bC, i, none⟩ = some z := ⟨_, xz⟩
              have d5 : ¬ gP = bC := HPP.out.P.nc
              clear hC2 ht2 hO2 hP2 xz
              go_wp2_with fail
              refine HCALL.out.mono ?_
              rintro e w5 ⟨b, rfl, ht5, ⟨es, hC5, hes⟩, h5⟩
              have HES := Lib.hid (HTL.out es x hes)
              have HT5 := Lib.hid (HT2.out.trans ht5)
              rcases h5 with ⟨rfl, hn5, hO5⟩ | ⟨rfl, L, u, hL5, hO5, hu5⟩
              · have HP3 := Lib.hid (next_none HPR.out (HX.out.trans hn5))
                have HC5 := Lib.hid hC5
                have HO5 := Lib.hid hO5
                clear hC5 hO5 ht5 hes HCALL
                go_wp2
                go_roundw
                case rel => exact ⟨x + 1, by omega, by go_num, HP3, HT5.out, ⟨es, HC5.out, HES⟩, HO5.out⟩
                case measure => simp [intOf]; omega
              · have HR := Lib.hid (HHI.out x L hlt HPR.out (HX.out.trans hL5))
                have HC5 := Lib.hid hC5
                have HO5 := Lib.hid hO5
                have HU5 := Lib.hid (OwnI.mono hu5 (show w.heap.size ≤ (wr.setCell ⟨bC, i, none⟩ (.int .i64 x)).heap.size from HT2.out.size))
                clear hC5 hO5 ht5 hes hu5 HCALL
                go_wp2
                go_ret
                exact ⟨true, rfl, HT5.out, ⟨es, HC5.out, HES.out⟩, .inr ⟨rfl, L, u, HR.out, HO5.out, HU5.out⟩⟩
      · have hxx : x = n := by omega
        subst hxx
        have HR := Lib.hid (HMI.out HPR.out)
        have HQ : Hid (PutQ base bC gO F hd RR w (.returned (.bool false)) wr) := Lib.hid ⟨false, rfl, ht, ⟨ds, hC, by have := HCS.out; rw [HKK.out]; exact this⟩, .inl ⟨rfl, HR.out, hO⟩⟩
        clear hC hO ht hPr
        go_wp2
        go_ret
        have := HQ.out
        unfold PutQ at this
        rw [HKK.out] at this
        exact this
end Go.Proofs.YtnjcpljhmhdhkaaGreat
