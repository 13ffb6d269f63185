/-
  A code that is too long.
-/
import Derived.Test.YtnpdincjekelaaaDeg
import Derived.Test.YtnpdincjekelaaaDPk0
import Derived.Test.YtnpdincjekelaaaAdd
import Derived.Test.YtnpdincjekelaaaLast
import Derived.Test.YtnpdincjekelaaaQG
import Derived.Test.YtnpdincjekelaaaWinP
import Derived.Deep.RegionHeld3
set_option linter.unusedSimpArgs false
set_option linter.unusedVariables false
namespace Go.Proofs.Ytnpdincjekelaaa
open Go.RowKit

attribute [local go_sem ↓] run_mn2 run_mx2

/-- Two groups put together. -/
def joinG (a b x : Int) : Int := if x = mx2 a b then mn2 a b else x

/-- Among the first j. -/
def mgK (a b : Int) (g : List Int) (j : Nat) : List Int := (g.take j).map (joinG a b) ++ g.drop j

theorem mgK_zero (a b : Int) (g : List Int) : mgK a b g 0 = g := by simp [mgK]
theorem mgK_all (a b : Int) (g : List Int) : mgK a b g g.length = g.map (joinG a b) := by simp [mgK]
theorem mgK_len (a b : Int) (g : List Int) (j : Nat) : (mgK a b g j).length = g.length := by
  simp [mgK]; omega
theorem mgK_get (a b : Int) (g : List Int) (j : Nat) (h : j < g.length) : (mgK a b g j).getD j 0 = g.getD j 0 := by
  unfold mgK
  rw [List.getD, List.getElem?_append_right (by simp; omega)]
  simp [List.getD, show min j g.length = j by omega]
theorem mgK_succ (a b : Int) (g : List Int) (j : Nat) (h : j < g.length) : mgK a b g (j + 1) = (mgK a b g j).set j (joinG a b (g.getD j 0)) := by
  unfold mgK
  rw [List.set_append, if_neg (by simp; omega), List.take_succ_eq_append_getElem h, List.drop_eq_getElem_cons h]
  have e : ((g.take j).map (joinG a b)).length = j := by simp; omega
  rw [e, Nat.sub_self, List.set_cons_zero, List.map_append, List.map_cons, List.map_nil, List.append_assoc, List.singleton_append, show g.getD j 0 = g[j] by simp [List.getD, h]]
theorem mgK_yes {a b : Int} {g : List Int} {j : Nat} (h : j < g.length) (he : g.getD j 0 = mx2 a b) : mgK a b g (j + 1) = (mgK a b g j).set j (mn2 a b) := by
  rw [mgK_succ a b g j h, joinG, if_pos he]
theorem set_same : ∀ (l : List Int) (j : Nat) (h : j < l.length), l.set j (l.getD j 0) = l
  | x :: l, 0, _ => rfl
  | x :: l, j + 1, h => by
    have := set_same l j (by simpa using h)
    simp only [List.getD_cons_succ, List.set_cons_succ, this]
theorem mgK_no {a b : Int} {g : List Int} {j : Nat} (h : j < g.length) (he : ¬ g.getD j 0 = mx2 a b) : mgK a b g (j + 1) = mgK a b g j := by
  rw [mgK_succ a b g j h, joinG, if_neg he, ← mgK_get a b g j h]
  exact set_same _ _ (by rw [mgK_len]; exact h)

def pstep (g : List Int) (l : Pr) : List Int := g.map (joinG (g.getD l.1.toNat 0) (g.getD l.2.toNat 0))

/-- The groups behind the first k leads. -/
def partsK (n : Nat) (ls : List Pr) (k : Nat) : List Int := (ls.take k).foldl pstep (natI (List.range n))

theorem foldl_pstep_len : ∀ (l : List Pr) (g : List Int), (l.foldl pstep g).length = g.length
  | [], g => rfl
  | p :: l, g => by rw [List.foldl_cons, foldl_pstep_len l]; simp [pstep]
theorem partsK_len (n : Nat) (ls : List Pr) (k : Nat) : (partsK n ls k).length = n := by
  unfold partsK
  rw [foldl_pstep_len]; simp [natI]
theorem partsK_zero (n : Nat) (ls : List Pr) : partsK n ls 0 = natI (List.range n) := rfl
theorem partsK_succ (n : Nat) (ls : List Pr) (k : Nat) (h : k < ls.length) (p q : Nat) (hp : (ndI ls k).1 = p) (hq : (ndI ls k).2 = q) :
    partsK n ls (k + 1) = (partsK n ls k).map (joinG ((partsK n ls k).getD p 0) ((partsK n ls k).getD q 0)) := by
  unfold partsK
  rw [List.take_succ_eq_append_getElem h, List.foldl_append, List.foldl_cons, List.foldl_nil, pstep]
  have e : ls[k] = ndI ls k := (ndI_nat ls k h).symm
  rw [e, hp, hq, Int.toNat_natCast, Int.toNat_natCast]

theorem natI_snoc (k : Nat) : natI (List.range (k + 1)) = natI (List.range k) ++ [(k : Int)] := by simp [natI, List.range_succ]

set_option maxHeartbeats 8000000 in
set_option maxRecDepth 100000 in
theorem sParts_any (vn vl : Value) (ns ls : List Pr) (w : World) (hn : RP w vn ns) (hl : RP w vl ls) (hm : ls.length ≤ 20) (hn12 : ns.length ≤ 12) (hn0 : 0 < ns.length) (hld : ∀ j : Nat, j < ls.length → leadB ns (ndI ls j) = true) :
    Calls Try.prog 127 #[.agg #[vn, vl]] w (RetI (partsK ns.length ls ls.length) w) := by
  obtain ⟨An, cn, rfl, hcn, hmn, _⟩ := hn.formI
  obtain ⟨Al, cl, rfl, hcl, hml, hcell⟩ := hl.formI
  unfold maxLen at hmn hml
  obtain ⟨i0, hi, iz0, iz1, iz2⟩ := info_parts infoInt
  have HLD := Lib.hid hld
  have HCELL := Lib.hid hcell
  clear hld hcell
  go_enter Try.func127, Try.ntmps127
  go_wp2
  go_loopw [3, 4] (fun v i wr => ∃ k : Nat, k ≤ ns.length ∧ i = .int .i64 k ∧ OwnI (w.heap.size + 1) wr v (natI (List.range k)) ∧ Blk wr w.heap.size 27 #[.slice An ns.length cn, .slice Al ls.length cl] ∧ Below w.heap.size w wr) (fun _ i _ => ns.length - (intOf i).toNat)
  case atStart => exact ⟨0, Nat.zero_le _, rfl, OwnI.made (by simp) (by simp), (Blk.newAt rfl).alloc _, by (repeat' (first | (with_reducible exact Below.refl _ _) | (with_reducible assumption) | (with_reducible refine Below.drew ?_) | (with_reducible refine below_drewN ?_ _) | (with_reducible refine Below.alloc ?_ ?_ _) | (with_reducible refine Below.setCell ?_ ?_ _) | (with_reducible refine Below.step (by assumption) ?_ ?_))); all_goals (first | omega | (simp; done) | (simp; omega))⟩
  case round =>
    obtain ⟨k, hk, rfl, ho, hW, hbl⟩ := hrel
    have hsz := hW.lt
    (have a_0 := hW.cell 0); (have a_1 := hW.cell 1); simp only [List.getElem?_toArray, List.getElem?_cons_succ, List.getElem?_cons_zero] at a_0 a_1
    obtain ⟨A1, c1, hv1⟩ := ho.form
    rw [natI_length, List.length_range] at hv1
    subst hv1
    by_cases hlt : k < ns.length
    · have HS := Lib.hid (natI_snoc k)
      have HGL : Hid ((natI (List.range k)).length = k) := Lib.hid (by simp [natI])
      generalize natI (List.range k) = G at *
      go_wp2_with (at_builtin; refine wpList_append_own _ rfl _ _ 30 rfl (w.heap.size + 1) 3 i0 (.int .i64 0) 1 8 Try.underlying30 hi iz0 iz1 iz2 rfl (by decide) _ _ _ rfl (World.ownsRow.alloc ho _) ⟨wr.heap.size, 0, none⟩ 1 1 [.int .i64 _] rfl rfl (cell_one_new _ _ _) (by intro u hu; simp at hu; subst hu; rfl) (by rw [HGL.out]; unfold maxLen; omega) (by rw [HGL.out]; omega) (by simp; omega) ?_)
      intro v2 w2 hown2 hg2 hne2
      have hb2 := (hbl.alloc (show w.heap.size ≤ wr.heap.size by omega) (.cells #[.int .i64 (k : Int)] 3)).grown hg2 (by simp; omega) (fun k hk => by have := (ho.lt k hk).1; omega)
      have hW2 : Blk w2 w.heap.size 27 #[.slice An ns.length cn, .slice Al ls.length cl] := (hg2.block _ (by simp; omega) (fun e => by have := (ho.lt _ e.symm).1; omega)).trans (hW.alloc _)
      have ho2 := Lib.hid (OwnI.snoc hown2)
      clear hg2 hne2 hown2 ho hW hbl a_0 a_1
      go_wp2
      go_roundw
      case rel => exact ⟨k + 1, by omega, by go_num, by rw [HS.out]; exact ho2.out, hW2, hb2⟩
      case measure => simp [intOf]; omega
    · have hkk : k = ns.length := by omega
      subst hkk
      rcases hcase : ho.2 with ⟨e0, e1⟩ | ⟨gb, cap, cur, e0, hbg, hrest⟩
      · rw [natI_length, List.length_range] at e1; omega
      clear hcase hrest
      injection e0 with e0 e1 e2
      subst e0 e2
      clear e1
      have hgz := (ho.lt gb rfl).2
      have hne : ¬ gb = w.heap.size := by omega
      have ho' := Lib.hid (show OwnI (w.heap.size + 1) wr (.slice (some ⟨gb, 0, none⟩) ns.length c1) (partsK ns.length ls 0) from ho)
      clear ho hlt hk
      go_wp2
      go_loopw [5] (fun i wr => ∃ k : Nat, k ≤ ls.length ∧ i = .int .i64 k ∧ OwnI (w.heap.size + 1) wr (.slice (some ⟨gb, 0, none⟩) ns.length c1) (partsK ns.length ls k) ∧ Blk wr w.heap.size 27 #[.slice An ns.length cn, .slice Al ls.length cl] ∧ Below w.heap.size w wr ∧ gb < wr.heap.size) (fun i _ => ls.length - (intOf i).toNat)
      case atStart => exact ⟨0, Nat.zero_le _, rfl, ho'.out, hW, hbl, hgz⟩
      case round =>
        clear ho' hW hbl hgz hsz a_0 a_1
        obtain ⟨k, hk, rfl, ho, hW, hbl, hgz⟩ := hrel
        have hsz := hW.lt
        (have a_0 := hW.cell 0); (have a_1 := hW.cell 1); simp only [List.getElem?_toArray, List.getElem?_cons_succ, List.getElem?_cons_zero] at a_0 a_1
        by_cases hlt : k < ls.length
        · obtain ⟨b, off, rfl, hb, hcl⟩ := HCELL.out (by omega)
          obtain ⟨k0, k1⟩ := hcl k hlt
          have q0 := (hbl.cell (p := ⟨b, off + k * 2, none⟩) hb).trans k0
          have q1 := (hbl.cell (p := ⟨b, off + k * 2 + 1, none⟩) hb).trans k1
          obtain ⟨h1, h2, h3, _⟩ := leadB_iff.1 (HLD.out k hlt)
          obtain ⟨p, hp⟩ : ∃ p : Nat, (ndI ls k).1 = p := ⟨(ndI ls k).1.toNat, by omega⟩
          obtain ⟨q, hq⟩ : ∃ q : Nat, (ndI ls k).2 = q := ⟨(ndI ls k).2.toNat, by omega⟩
          have HS := Lib.hid (partsK_succ ns.length ls k hlt p q hp hq)
          have HGL := Lib.hid (partsK_len ns.length ls k)
          rw [hp] at q0 h1 h2
          rw [hq] at q1 h2 h3
          have hpn : p < ns.length := by omega
          have hqn : q < ns.length := by omega
          generalize partsK ns.length ls k = G at *
          have x0 := ho.cell (q := p) (by rw [HGL.out]; exact hpn)
          have x1 := ho.cell (q := q) (by rw [HGL.out]; exact hqn)
          obtain ⟨a, ha⟩ : ∃ a, G.getD p 0 = a := ⟨_, rfl⟩
          obtain ⟨c, hc⟩ : ∃ c, G.getD q 0 = c := ⟨_, rfl⟩
          rw [ha] at x0 HS
          rw [hc] at x1 HS
          have ip1 : (0 : Int) ≤ (p : Int) := by omega
          have ip2 : (p : Int) < (ns.length : Int) := by omega
          have iq1 : (0 : Int) ≤ (q : Int) := by omega
          have iq2 : (q : Int) < (ns.length : Int) := by omega
          have ho' := Lib.hid (show OwnI (w.heap.size + 1) wr (.slice (some ⟨gb, 0, none⟩) ns.length c1) (mgK a c G 0) by rw [mgK_zero]; exact ho)
          clear hcl k0 k1 hp hq ha hc ho h1 h2 h3
          go_wp2
          go_loopw [8] (fun x wr => ∃ j : Nat, j ≤ ns.length ∧ x = .int .i64 j ∧ OwnI (w.heap.size + 1) wr (.slice (some ⟨gb, 0, none⟩) ns.length c1) (mgK a c G j) ∧ Blk wr w.heap.size 27 #[.slice An ns.length cn, .slice (some ⟨b, off, none⟩) ls.length cl] ∧ Below w.heap.size w wr ∧ gb < wr.heap.size) (fun x _ => ns.length - (intOf x).toNat)
          case atStart => exact ⟨0, Nat.zero_le _, rfl, ho'.out, hW, hbl, hgz⟩
          case round =>
            clear ho' hW hbl hgz hsz a_0 a_1 q0 q1 x0 x1
            obtain ⟨j, hj, rfl, ho, hW, hbl, hgz⟩ := hrel
            have hsz := hW.lt
            (have a_0 := hW.cell 0); (have a_1 := hW.cell 1); simp only [List.getElem?_toArray, List.getElem?_cons_succ, List.getElem?_cons_zero] at a_0 a_1
            by_cases hlj : j < ns.length
            · have hjg : j < G.length := by rw [HGL.out]; exact hlj
              have x0 := ho.cell (q := j) (by rw [mgK_len]; exact hjg)
              rw [mgK_get a c G j hjg] at x0
              have HY := Lib.hid (fun he => mgK_yes (a := a) (b := c) hjg he)
              have HN := Lib.hid (fun he => mgK_no (a := a) (b := c) hjg he)
              generalize G.getD j 0 = x at *
              by_cases he : x = mx2 a c
              · have e1 : (x == mx2 a c) = true := beq_iff_eq.2 he
                have fp := ho.frz j
                have HO := Lib.hid (show OwnI (w.heap.size + 1) (wr.setCell ⟨gb, j, none⟩ (.int .i64 (mn2 a c))) (.slice (some ⟨gb, 0, none⟩) ns.length c1) (mgK a c G (j + 1)) by rw [HY.out he]; exact ho.set_ j _)
                have HB2 := Lib.hid (hbl.setCell (p := ⟨gb, j, none⟩) (show w.heap.size ≤ gb by omega) (.int .i64 (mn2 a c)))
                have HW2 := Lib.hid (hW.far (p := ⟨gb, j, none⟩) (Ne.symm hne) (.int .i64 (mn2 a c)))
                clear ho hW hbl he a_0 a_1
                go_wp2
                go_roundw
                case rel => exact ⟨j + 1, by omega, by go_num, HO.out, HW2.out, HB2.out, by simpa using hgz⟩
                case measure => simp [intOf]; omega
              · have e1 : (x == mx2 a c) = false := beq_eq_false_iff_ne.2 he
                have HO := Lib.hid (show OwnI (w.heap.size + 1) wr (.slice (some ⟨gb, 0, none⟩) ns.length c1) (mgK a c G (j + 1)) by rw [HN.out he]; exact ho)
                clear ho he
                go_wp2
                go_roundw
                case rel => exact ⟨j + 1, by omega, by go_num, HO.out, hW, hbl, hgz⟩
                case measure => simp [intOf]; omega
            · have hjj : j = ns.length := by omega
              subst hjj
              have HO := Lib.hid (show OwnI (w.heap.size + 1) wr (.slice (some ⟨gb, 0, none⟩) ns.length c1) (partsK ns.length ls (k + 1)) by
                rw [HS.out, ← mgK_all]; rw [HGL.out]; exact ho)
              clear ho
              go_wp2
              go_roundw
              case rel => exact ⟨k + 1, by omega, by go_num, HO.out, hW, hbl, hgz⟩
              case measure => simp [intOf]; omega
        · have hkk : k = ls.length := by omega
          subst hkk
          have HO := Lib.hid ho
          clear ho
          go_wp2
          go_ret
          exact ⟨_, rfl, HO.out.mono (by omega), hbl⟩

/-- The window is valid, has leads, and hangs together. -/
noncomputable def wholeB (ns ls : List Pr) : Bool := winB ns ls && (decide (0 < ls.length) && (partsK ns.length ls ls.length).all (· == 0))

theorem whole_win {ns ls : List Pr} (h : wholeB ns ls = true) : WinOk ns ls ∧ 0 < ls.length := by
  unfold wholeB at h
  rw [Bool.and_eq_true, Bool.and_eq_true] at h
  exact ⟨winB_true.1 h.1, by simpa using h.2.1⟩

set_option maxHeartbeats 4000000 in
set_option maxRecDepth 100000 in
theorem sWhole_any (vn vl : Value) (ns ls : List Pr) (w : World) (hn : RP w vn ns) (hl : RP w vl ls) :
    Calls Try.prog 126 #[.agg #[vn, vl]] w fun e w' => e = .returned (.bool (wholeB ns ls)) ∧ Below w.heap.size w w' := by
  obtain ⟨An, cn, rfl, hcn, hmn, _⟩ := hn.formI
  obtain ⟨Al, cl, rfl, hcl, hml, _⟩ := hl.formI
  unfold maxLen at hmn hml
  have hb0 : Below w.heap.size w (w.alloc (.cells #[.slice An ns.length cn, .slice Al ls.length cl] 27)) := by (repeat' (first | (with_reducible exact Below.refl _ _) | (with_reducible assumption) | (with_reducible refine Below.drew ?_) | (with_reducible refine below_drewN ?_ _) | (with_reducible refine Below.alloc ?_ ?_ _) | (with_reducible refine Below.setCell ?_ ?_ _) | (with_reducible refine Below.step (by assumption) ?_ ?_))); all_goals (first | omega | (simp; done) | (simp; omega))
  cases hw : winB ns ls
  · have HR : Hid (wholeB ns ls = false) := Lib.hid (by simp [wholeB, hw])
    go_enter Try.func126, Try.ntmps126
    go_wp2_with fail
    refine (sWinOk_at _ _ ns ls _ _ (hn.below hb0) (hl.below hb0) hw).mono ?_
    rintro e w1 ⟨rfl, hb1⟩; (first | (with_reducible have hcf1 := bcell_drew hb1) | have hcf1 := bcell hb1); obtain ⟨hc1, hf1⟩ := hcf1; have hz1 := hb1.size; (try simp at hz1); (try have hp1_0 : w.heap.size < w1.heap.size := by omega); (try have hp1_1 : w.heap.size + 1 < w1.heap.size := by omega); (try have hp1_2 : w.heap.size + 1 + 1 < w1.heap.size := by omega); (try have hp1_3 : w.heap.size + 1 + 1 + 1 < w1.heap.size := by omega)
    go_wp2
    go_ret
    exact ⟨ret_bool HR.out.symm, by (repeat' (first | (with_reducible exact Below.refl _ _) | (with_reducible assumption) | (with_reducible refine Below.drew ?_) | (with_reducible refine below_drewN ?_ _) | (with_reducible refine Below.alloc ?_ ?_ _) | (with_reducible refine Below.setCell ?_ ?_ _) | (with_reducible refine Below.step (by assumption) ?_ ?_))); all_goals (first | omega | (simp; done) | (simp; omega))⟩
  · by_cases h0 : ls.length = 0
    · have HR : Hid (wholeB ns ls = false) := Lib.hid (by simp [wholeB, hw, h0])
      have e1 : ((ls.length : Int) == 0) = true := by simp [h0]
      clear h0
      go_enter Try.func126, Try.ntmps126
      go_wp2_with fail
      refine (sWinOk_at _ _ ns ls _ _ (hn.below hb0) (hl.below hb0) hw).mono ?_
      rintro e w1 ⟨rfl, hb1⟩; (first | (with_reducible have hcf1 := bcell_drew hb1) | have hcf1 := bcell hb1); obtain ⟨hc1, hf1⟩ := hcf1; have hz1 := hb1.size; (try simp at hz1); (try have hp1_0 : w.heap.size < w1.heap.size := by omega); (try have hp1_1 : w.heap.size + 1 < w1.heap.size := by omega); (try have hp1_2 : w.heap.size + 1 + 1 < w1.heap.size := by omega); (try have hp1_3 : w.heap.size + 1 + 1 + 1 < w1.heap.size := by omega)
      go_wp2
      go_ret
      exact ⟨ret_bool HR.out.symm, by (repeat' (first | (with_reducible exact Below.refl _ _) | (with_reducible assumption) | (with_reducible refine Below.drew ?_) | (with_reducible refine below_drewN ?_ _) | (with_reducible refine Below.alloc ?_ ?_ _) | (with_reducible refine Below.setCell ?_ ?_ _) | (with_reducible refine Below.step (by assumption) ?_ ?_))); all_goals (first | omega | (simp; done) | (simp; omega))⟩
    · have hok := winB_true.1 hw
      have HR : Hid (wholeB ns ls = (partsK ns.length ls ls.length).all (· == 0)) := Lib.hid (by simp [wholeB, hw]; omega)
      have e1 : ((ls.length : Int) == 0) = false := by simp [h0]
      have HOK := Lib.hid hok
      clear hok h0
      go_enter Try.func126, Try.ntmps126
      go_wp2_with fail
      refine (sWinOk_at _ _ ns ls _ _ (hn.below hb0) (hl.below hb0) hw).mono ?_
      rintro e w1 ⟨rfl, hb1⟩
      have hbw1 : Below w.heap.size w w1 := by (repeat' (first | (with_reducible exact Below.refl _ _) | (with_reducible assumption) | (with_reducible refine Below.drew ?_) | (with_reducible refine below_drewN ?_ _) | (with_reducible refine Below.alloc ?_ ?_ _) | (with_reducible refine Below.setCell ?_ ?_ _) | (with_reducible refine Below.step (by assumption) ?_ ?_))); all_goals (first | omega | (simp; done) | (simp; omega))
      have hW1 : Blk w1 w.heap.size 27 #[.slice An ns.length cn, .slice Al ls.length cl] := (Blk.newAt rfl).below hb1 (by simp)
      have hsz := hW1.lt
      (have a_0 := hW1.cell 0); (have a_1 := hW1.cell 1); simp only [List.getElem?_toArray, List.getElem?_cons_succ, List.getElem?_cons_zero] at a_0 a_1
      clear hb1
      go_wp2_with fail
      refine (sParts_any _ _ ns ls _ (hn.below hbw1) (hl.below hbw1) HOK.out.2.2.1 HOK.out.2.1 HOK.out.1 (fun j hj => (HOK.out.2.2.2.2.2 j hj).1)).mono ?_
      rintro e w2 ⟨v, rfl, ho2, hb2⟩
      have hbw2 := hbw1.trans (hb2.mono hbw1.size)
      have HGL := Lib.hid (partsK_len ns.length ls ls.length)
      obtain ⟨A, c, rfl, hc, hm, hcell⟩ := ho2.reads.form
      generalize partsK ns.length ls ls.length = G at *
      unfold maxLen at hm
      clear hb2 ho2 hW1 a_0 a_1 hsz hbw1 hw
      go_wp2
      go_loop [4] (fun i => ∃ k : Nat, k ≤ G.length ∧ i = .int .i64 k ∧ (G.take k).all (· == 0) = true) (fun i => G.length - (intOf i).toNat)
      case atStart => exact ⟨0, Nat.zero_le _, rfl, by simp⟩
      case round =>
        obtain ⟨k, hk, rfl, hall⟩ := hrel
        by_cases hlt : k < G.length
        · obtain ⟨b, off, rfl, hb, hcl⟩ := hcell (by omega)
          have hck := hcl k hlt
          clear hcl hcell
          have hts : (G.take (k + 1)).all (· == 0) = (G.getD k 0 == 0) := by
            rw [List.take_succ_eq_append_getElem hlt, List.all_append, hall]
            simp [List.getD, List.getElem?_eq_getElem hlt]
          have hex : (G.getD k 0 == 0) = false → G.all (· == 0) = false := by
            intro h0
            rw [List.all_eq_false]
            exact ⟨G[k], List.getElem_mem hlt, by simpa [List.getD, List.getElem?_eq_getElem hlt] using h0⟩
          generalize hx : G.getD k 0 = x at *
          have HTS := Lib.hid hts
          have HEX := Lib.hid hex
          clear hts hex hall hx
          by_cases hq : x = 0
          · have HQ : Hid ((x == 0) = true) := Lib.hid (by simp [hq])
            have e2 : (x != 0) = false := by simp [hq]
            clear hq
            go_wp2
            go_round
            case rel => exact ⟨k + 1, by omega, by go_num, by rw [HTS.out]; exact HQ.out⟩
            case measure => simp [intOf]; omega
          · have HQ : Hid ((x == 0) = false) := Lib.hid (by simp [hq])
            have e2 : (x != 0) = true := by simp [hq]
            clear hq
            go_wp2
            go_ret
            exact ⟨ret_bool (by rw [HR.out]; exact (HEX.out HQ.out).symm), hbw2⟩
        · have hkk : G.length ≤ k := by omega
          rw [List.take_of_length_le hkk] at hall
          have HA := Lib.hid hall
          clear hall hcell
          go_wp2
          go_ret
          exact ⟨ret_bool (by rw [HR.out]; exact HA.out.symm), hbw2⟩

theorem sWhole_at (vn vl : Value) (ns ls : List Pr) (b : Bool) (w : World) (hn : RP w vn ns) (hl : RP w vl ls) (hb : wholeB ns ls = b) :
    Calls Try.prog 126 #[.agg #[vn, vl]] w fun e w' => e = .returned (.bool b) ∧ Below w.heap.size w w' := by
  subst hb; exact sWhole_any vn vl ns ls w hn hl

end Go.Proofs.Ytnpdincjekelaaa

namespace Go.Proofs.Ytnpdincjekelaaa
open Go.RowKit

theorem win_step {ns ls : List Pr} (h : WinOk ns ls) (k a b : Int) : WinOk (stepN ns ls k a b) (stepL ns ls k a b) := by
  unfold stepN stepL
  by_cases h1 : k = 1
  · rw [if_neg (by omega), if_pos h1]; exact win_addL h a b
  · by_cases h2 : k = 2
    · rw [if_neg (by omega), if_neg h1, if_pos h2]; exact win_dropL h a
    · by_cases h3 : k = 3
      · rw [if_pos h3, if_neg h1, if_neg h2, if_pos h3]
        unfold joinN joinL
        by_cases hj : joinB ns ls a = true
        · rw [if_pos hj, if_pos hj]
          unfold joinB at hj
          rw [Bool.and_eq_true] at hj
          exact winB_true.1 hj.2
        · rw [if_neg hj, if_neg hj]; exact h
      · rw [if_neg h3, if_neg h1, if_neg h2, if_neg h3]; exact h

theorem sameWB_iff {a b c d : List Pr} : sameWB a b c d = true ↔ a = c ∧ b = d := by simp [sameWB]

theorem okFrom_cons {nn nl N L : List Pr} {s : Sp} {r : List Sp} : okFrom nn nl N L (s :: r) = true ↔ (s.ns = N ∧ s.ls = L) ∧ stepB N L s.k s.a s.b = true ∧ okFrom nn nl (stepN N L s.k s.a s.b) (stepL N L s.k s.a s.b) r = true := by
  rw [okFrom, Bool.and_eq_true, Bool.and_eq_true, sameWB_iff]

theorem okFrom_snoc : ∀ (ss : List Sp) (nn nl N L : List Pr) (s : Sp), okFrom nn nl N L (ss ++ [s]) = true ↔ okFrom s.ns s.ls N L ss = true ∧ stepB s.ns s.ls s.k s.a s.b = true ∧ nn = stepN s.ns s.ls s.k s.a s.b ∧ nl = stepL s.ns s.ls s.k s.a s.b
  | [], nn, nl, N, L, s => by
    rw [List.nil_append, okFrom_cons, okFrom, okFrom, sameWB_iff, sameWB_iff]
    constructor
    · rintro ⟨⟨rfl, rfl⟩, h1, h2, h3⟩; exact ⟨⟨rfl, rfl⟩, h1, h2, h3⟩
    · rintro ⟨⟨rfl, rfl⟩, h1, h2, h3⟩; exact ⟨⟨rfl, rfl⟩, h1, h2, h3⟩
  | t :: ss, nn, nl, N, L, s => by
    rw [List.cons_append, okFrom_cons, okFrom_cons, okFrom_snoc ss]
    constructor
    · rintro ⟨h1, h2, h3, h4⟩; exact ⟨⟨h1, h2, h3⟩, h4⟩
    · rintro ⟨⟨h1, h2, h3⟩, h4⟩; exact ⟨h1, h2, h3, h4⟩

theorem okD_iff {D : Dr} : okD D = true ↔ WinOk D.fn D.fl ∧ D.ss.length ≤ 40 ∧ okFrom D.nn D.nl D.fn D.fl D.ss = true := by
  unfold okD
  rw [Bool.and_eq_true, Bool.and_eq_true, winB_true, decide_eq_true_eq]

theorem okFrom_win : ∀ (ss : List Sp) (nn nl N L : List Pr), WinOk N L → okFrom nn nl N L ss = true → WinOk nn nl ∧ ∀ k (hk : k < ss.length), WinOk ss[k].ns ss[k].ls
  | [], nn, nl, N, L, h, h1 => by
    rw [okFrom, sameWB_iff] at h1
    obtain ⟨rfl, rfl⟩ := h1
    exact ⟨h, fun k hk => absurd hk (by simp)⟩
  | s :: r, nn, nl, N, L, h, h1 => by
    obtain ⟨⟨h2, h3⟩, h4, h5⟩ := okFrom_cons.1 h1
    obtain ⟨h6, h7⟩ := okFrom_win r nn nl _ _ (win_step h s.k s.a s.b) h5
    refine ⟨h6, fun k hk => ?_⟩
    cases k with
    | zero => rw [← h2, ← h3] at h; exact h
    | succ k => exact h7 k (by simpa using hk)

theorem sumT_le : ∀ (ss : List Sp), (∀ k (hk : k < ss.length), WinOk ss[k].ns ss[k].ls) → sumT ss ≤ 32 * ss.length
  | [], _ => by simp [sumT]
  | s :: r, h => by
    have h0 := h 0 (by simp)
    have h1 := sumT_le r (fun k hk => h (k + 1) (by simp; omega))
    have h2 := h0.2.1
    have h3 := h0.2.2.1
    simp at h2 h3
    simp only [sumT, List.length_cons]
    omega

/-- A draft in order is small. -/
theorem okD_le {D : Dr} (h : okD D = true) : DrLe D := by
  obtain ⟨h1, h2, h3⟩ := okD_iff.1 h
  obtain ⟨h4, h5⟩ := okFrom_win D.ss _ _ _ _ h1 h3
  have h6 := sumT_le D.ss h5
  have a1 := h1.2.1
  have a2 := h1.2.2.1
  have a3 := h4.2.1
  have a4 := h4.2.2.1
  exact ⟨by omega, by omega, by omega, by omega, by omega, fun k hk => by have := (h5 k hk).2.1; have := (h5 k hk).2.2.1; omega, by omega⟩

theorem okD_now {D : Dr} (h : okD D = true) : WinOk D.nn D.nl := by
  obtain ⟨h1, h2, h3⟩ := okD_iff.1 h
  exact (okFrom_win D.ss _ _ _ _ h1 h3).1

theorem okD_new {ns ls : List Pr} (h : WinOk ns ls) : okD ⟨ns, ls, ns, ls, []⟩ = true := by
  rw [okD_iff]
  exact ⟨h, by simp, by rw [okFrom, sameWB_iff]; exact ⟨rfl, rfl⟩⟩

theorem okD_do {D : Dr} (h : okD D = true) (k a b : Int) : okD (doStepD D k a b) = true := by
  by_cases hc : doStepB D k a b = true
  · rw [doStep_yes hc]
    unfold doStepB at hc
    rw [Bool.and_eq_true, Bool.and_eq_true, decide_eq_true_eq] at hc
    obtain ⟨h1, h2, h3⟩ := okD_iff.1 h
    rw [okD_iff]
    refine ⟨h1, by simp; omega, ?_⟩
    rw [okFrom_snoc]
    exact ⟨h3, hc.2.2, rfl, rfl⟩
  · rw [doStep_no (by simpa using hc)]; exact h

theorem do_len (D : Dr) (k a b : Int) : (doStepD D k a b).ss.length ≤ D.ss.length + 1 := by
  by_cases hc : doStepB D k a b = true
  · rw [doStep_yes hc]; simp
  · rw [doStep_no (by simpa using hc)]; omega

theorem okD_undo {D : Dr} (h : okD D = true) : okD (undoStepD D) = true := by
  by_cases h0 : D.ss.length = 0
  · rw [(undoStep_no (.inr h0)).1]; exact h
  · obtain ⟨k, hk⟩ : ∃ k, D.ss.length = k + 1 := ⟨D.ss.length - 1, by omega⟩
    have hkl : k < D.ss.length := by omega
    rw [(undoStep_yes h hk D.ss[k] (List.getElem?_eq_getElem hkl)).1]
    obtain ⟨h1, h2, h3⟩ := okD_iff.1 h
    have e : D.ss = D.ss.take k ++ [D.ss[k]] := by
      rw [← List.take_succ_eq_append_getElem hkl, List.take_of_length_le (by omega)]
    rw [e, okFrom_snoc] at h3
    rw [okD_iff]
    exact ⟨h1, by simp; omega, h3.1⟩

theorem undo_first (D : Dr) : (undoStepD D).fn = D.fn ∧ (undoStepD D).fl = D.fl := by
  by_cases hc : okD D = true ∧ 0 < D.ss.length
  · obtain ⟨h1, h2⟩ := hc
    obtain ⟨k, hk⟩ : ∃ k, D.ss.length = k + 1 := ⟨D.ss.length - 1, by omega⟩
    have hkl : k < D.ss.length := by omega
    rw [(undoStep_yes h1 hk D.ss[k] (List.getElem?_eq_getElem hkl)).1]
    exact ⟨rfl, rfl⟩
  · rw [(undoStep_no (by rcases Bool.eq_false_or_eq_true (okD D) with h | h; exact .inr (by have : ¬ 0 < D.ss.length := fun h' => hc ⟨h, h'⟩; omega); exact .inl h)).1]
    exact ⟨rfl, rfl⟩

theorem undo_len {D : Dr} (h : okD D = true) : (undoStepD D).ss.length = D.ss.length - 1 := by
  by_cases h0 : D.ss.length = 0
  · rw [(undoStep_no (.inr h0)).1]; omega
  · obtain ⟨k, hk⟩ : ∃ k, D.ss.length = k + 1 := ⟨D.ss.length - 1, by omega⟩
    have hkl : k < D.ss.length := by omega
    rw [(undoStep_yes h hk D.ss[k] (List.getElem?_eq_getElem hkl)).1]
    simp; omega

theorem okD_none {D : Dr} (h : okD D = true) (h0 : D.ss.length = 0) : D.nn = D.fn ∧ D.nl = D.fl := by
  obtain ⟨h1, h2, h3⟩ := okD_iff.1 h
  have e : D.ss = [] := List.eq_nil_of_length_eq_zero h0
  rw [e, okFrom, sameWB_iff] at h3
  exact h3

/-- Undone k times. -/
noncomputable def undoK (D : Dr) : Nat → Dr
  | 0 => D
  | k + 1 => undoStepD (undoK D k)

theorem undoK_ok {D : Dr} (h : okD D = true) : ∀ k, okD (undoK D k) = true ∧ (undoK D k).ss.length = D.ss.length - k ∧ (undoK D k).fn = D.fn ∧ (undoK D k).fl = D.fl
  | 0 => ⟨h, rfl, rfl, rfl⟩
  | k + 1 => by
    obtain ⟨h1, h2, h3, h4⟩ := undoK_ok h k
    refine ⟨okD_undo h1, ?_, ?_, ?_⟩
    · show (undoStepD (undoK D k)).ss.length = _
      rw [undo_len h1, h2]; omega
    · show (undoStepD (undoK D k)).fn = _
      rw [(undo_first _).1, h3]
    · show (undoStepD (undoK D k)).fl = _
      rw [(undo_first _).2, h4]

theorem undoK_all {D : Dr} (h : okD D = true) : (undoK D D.ss.length).nn = D.fn ∧ (undoK D D.ss.length).nl = D.fl := by
  obtain ⟨h1, h2, h3, h4⟩ := undoK_ok h D.ss.length
  have := okD_none h1 (by omega)
  rw [h3, h4] at this
  exact this

theorem do_can {D : Dr} (h : okD D = true) (hl : D.ss.length < 40) (k a b : Int) : doStepB D k a b = stepB D.nn D.nl k a b := by
  unfold doStepB
  rw [h, decide_eq_true hl, Bool.true_and, Bool.true_and]

/-- A step done, and undone. -/
theorem do_undo {D : Dr} (h : okD D = true) {k a b : Int} (hc : doStepB D k a b = true) :
    undoStepB (doStepD D k a b) = true ∧ (doStepD D k a b).nn = stepN D.nn D.nl k a b ∧ (doStepD D k a b).nl = stepL D.nn D.nl k a b ∧ (doStepD D k a b).ss.length = D.ss.length + 1 ∧
    (undoStepD (doStepD D k a b)).nn = D.nn ∧ (undoStepD (doStepD D k a b)).nl = D.nl ∧ (undoStepD (doStepD D k a b)).ss.length = D.ss.length := by
  have hok := okD_do h k a b
  rw [doStep_yes hc] at hok ⊢
  have hu := undoStep_yes (D := ⟨D.fn, D.fl, stepN D.nn D.nl k a b, stepL D.nn D.nl k a b, D.ss ++ [⟨k, a, b, D.nn, D.nl⟩]⟩) (k := D.ss.length) hok (by simp) ⟨k, a, b, D.nn, D.nl⟩ (by simp)
  rw [hu.1]
  exact ⟨hu.2, rfl, rfl, by simp, rfl, rfl, by simp⟩

end Go.Proofs.Ytnpdincjekelaaa

namespace Go.Proofs.Ytnpdincjekelaaa
open Go.RowKit

attribute [local go_sem ↓] run_eqNode run_neNode run_mn2 run_mx2

def splCn (ns : List Pr) (x y : Int) : List Pr := ns ++ [(x, y)]
def splCl (ns ls : List Pr) (k : Nat) : List Pr := (ls ++ [((ndI ls k).2, (ns.length : Int))]).set k ((ndI ls k).1, (ns.length : Int))
noncomputable def splB (ns ls : List Pr) (k : Nat) (x y : Int) : Bool := betwP (ndI ns (ndI ls k).1) (ndI ns (ndI ls k).2) (x, y) && winB (splCn ns x y) (splCl ns ls k)
noncomputable def splN (ns ls : List Pr) (k : Nat) (x y : Int) : List Pr := if splB ns ls k x y then splCn ns x y else ns
noncomputable def splL (ns ls : List Pr) (k : Nat) (x y : Int) : List Pr := if splB ns ls k x y then splCl ns ls k else ls

theorem spl_yes {ns ls : List Pr} {k : Nat} {x y : Int} (h : splB ns ls k x y = true) : splN ns ls k x y = splCn ns x y ∧ splL ns ls k x y = splCl ns ls k := by simp [splN, splL, h]
theorem spl_no {ns ls : List Pr} {k : Nat} {x y : Int} (h : splB ns ls k x y = false) : splN ns ls k x y = ns ∧ splL ns ls k x y = ls := by simp [splN, splL, h]

theorem win_spl {ns ls : List Pr} (h : WinOk ns ls) (k : Nat) (x y : Int) : WinOk (splN ns ls k x y) (splL ns ls k x y) := by
  cases hb : splB ns ls k x y
  · rw [(spl_no hb).1, (spl_no hb).2]; exact h
  · rw [(spl_yes hb).1, (spl_yes hb).2]
    unfold splB at hb
    rw [Bool.and_eq_true] at hb
    exact winB_true.1 hb.2

theorem splL_len (ns ls : List Pr) (k : Nat) (x y : Int) : ls.length ≤ (splL ns ls k x y).length := by
  cases hb : splB ns ls k x y
  · rw [(spl_no hb).2]; omega
  · rw [(spl_yes hb).2]; simp [splCl]

theorem flat_set2 : ∀ (l : List (Int × Int)) (k : Nat) (y : Int) (hk : k < l.length), (l.set k (l[k].1, y)).flatMap prc = (l.flatMap prc).set (k * 2 + 1) (.int .i64 y)
  | [], k, y, h => absurd h (by simp)
  | a :: l, 0, y, h => by simp [prc]
  | a :: l, k + 1, y, h => by
    have ih := flat_set2 l k y (by simpa using h)
    have e : (k + 1) * 2 + 1 = (k * 2 + 1) + 1 + 1 := by omega
    rw [List.set_cons_succ, List.flatMap_cons, List.flatMap_cons, e]
    simp only [List.getElem_cons_succ]
    rw [ih]
    simp [prc]

theorem OwnP.set2 {t : TypeId} {base : Nat} {w : World} {g n cap : Nat} {G : List (Int × Int)} (h : OwnP t base w (.slice (some ⟨g, 0, none⟩) n cap) G) {q : Nat} (hq : q < G.length) (y : Int) :
    OwnP t base (w.setCell ⟨g, q * 2 + 1, none⟩ (.int .i64 y)) (.slice (some ⟨g, 0, none⟩) n cap) (G.set q (G[q].1, y)) := by
  have e := h.len
  subst e
  have ho : w.ownsRow base t 2 (.slice (some ⟨g, 0, none⟩) G.length cap) G.length (G.flatMap prc) := h
  have := (ho.stored (q * 2 + 1) (.int .i64 y)).1
  unfold OwnP
  rw [List.length_set, flat_set2 G q y hq]
  exact this

/-- A window under way in its box T. -/
structure SpSt (w : World) (vn vl : Value) (x y : Int) (T : Nat) (An : Option Addr) (cn : Nat) (Al : Option Addr) (cl : Nat) (N L : List Pr) (wr : World) : Prop where
  A : Blk wr w.heap.size 27 #[vn, vl]
  P : Blk wr (w.heap.size + 1) 76 #[.int .i64 x, .int .i64 y]
  R : Blk wr (w.heap.size + 1 + 1) 27 #[.slice none 0 0, .slice none 0 0]
  T_ : Blk wr T 27 #[.slice An N.length cn, .slice Al L.length cl]
  own : OwnW (w.heap.size + 1 + 1 + 1) wr (.slice An N.length cn) (.slice Al L.length cl) N L
  lt : w.heap.size + 1 + 1 < T
  far : ∀ b, blksW (.slice An N.length cn) (.slice Al L.length cl) b → ¬ b = T
  blw : Below w.heap.size w wr

section
variable {w : World} {vn vl : Value} {x y : Int} {T : Nat} {An : Option Addr} {cn : Nat} {Al : Option Addr} {cl : Nat} {N L : List Pr} {wr w' : World}

theorem SpSt.below (h : SpSt w vn vl x y T An cn Al cl N L wr) (hb : Below wr.heap.size wr w') : SpSt w vn vl x y T An cn Al cl N L w' :=
  ⟨h.A.below hb h.A.lt, h.P.below hb h.P.lt, h.R.below hb h.R.lt, h.T_.below hb h.T_.lt, h.own.kept hb, h.lt, h.far, h.blw.trans (hb.mono h.blw.size)⟩
theorem SpSt.alloc (h : SpSt w vn vl x y T An cn Al cl N L wr) (o : Obj) : SpSt w vn vl x y T An cn Al cl N L (wr.alloc o) := h.below ((Below.refl _ _).alloc (Nat.le_refl _) o)
theorem SpSt.drew (h : SpSt w vn vl x y T An cn Al cl N L wr) : SpSt w vn vl x y T An cn Al cl N L wr.drew := h.below (Below.refl _ _).drew

/-- The state but for the box, behind a growth of one of its rows. -/
theorem SpSt.putN (h : SpSt w vn vl x y T An cn Al cl N L wr) {A' : Option Addr} {c' n : Nat} {N' : List Pr} (hn : n = N'.length) (ho : OwnP 76 (w.heap.size + 1 + 1 + 1) w' (.slice A' n c') N')
    (hg : wr.grownBy w' (Value.slice An N.length cn).ownBlock) (hv : (Value.slice A' n c').ownBlock = (Value.slice An N.length cn).ownBlock ∨ (Value.slice A' n c').ownBlock = some wr.heap.size) :
    SpSt w vn vl x y T A' c' Al cl N' L (w'.setCell ⟨T, 0, none⟩ (.slice A' n c')) := by
  subst hn
  have hT := h.T_.lt
  have hlt := h.own.lt
  have hrow : ∀ k, (Value.slice An N.length cn).ownBlock = some k → w.heap.size + 1 + 1 + 1 ≤ k ∧ ¬ k = T := fun k hk => ⟨(hlt k (.inl hk)).1, h.far k (.inl hk)⟩
  have hnew : ∀ k, (Value.slice A' N'.length c').ownBlock = some k → (w.heap.size + 1 + 1 + 1 ≤ k ∧ ¬ k = T) ∧ ¬ (Value.slice Al L.length cl).ownBlock = some k := fun k hk => by
    rcases hv with hv | hv
    · exact ⟨hrow k (hv ▸ hk), fun e => h.own.2.2 k (hv ▸ hk) e⟩
    · rw [hv] at hk; cases hk
      exact ⟨by have := h.lt; omega, fun e => by have := (hlt _ (.inr e)).2; omega⟩
  have hl' := h.own.2.1.apart hg (fun k hk hk2 => h.own.2.2 k hk2 hk)
  have how : OwnW (w.heap.size + 1 + 1 + 1) w' (.slice A' N'.length c') (.slice Al L.length cl) N' L := ⟨ho, hl', fun k hk hk2 => (hnew k hk).2 hk2⟩
  have hlT := h.lt
  refine ⟨(h.A.grownR hg (fun k hk => by have := (hrow k hk).1; omega)).far (p := ⟨T, 0, none⟩) (show w.heap.size ≠ T by omega) _, (h.P.grownR hg (fun k hk => by have := (hrow k hk).1; omega)).far (p := ⟨T, 0, none⟩) (show w.heap.size + 1 ≠ T by omega) _,
    (h.R.grownR hg (fun k hk => by have := (hrow k hk).1; omega)).far (p := ⟨T, 0, none⟩) (show w.heap.size + 1 + 1 ≠ T by omega) _, (h.T_.grownR hg (fun k hk => (hrow k hk).2)).set_ 0 _,
    how.setFar (p := ⟨T, 0, none⟩) (fun hk => ?_) _, hlT, fun b hb => ?_, (h.blw.grown hg h.blw.size (fun k hk => by have := (hrow k hk).1; omega)).setCell (p := ⟨T, 0, none⟩) (show w.heap.size ≤ T by omega) _⟩
  · rcases hk with hk | hk
    · exact (hnew T hk).1.2 rfl
    · exact h.far T (.inr hk) rfl
  · rcases hb with hb | hb
    · exact (hnew b hb).1.2
    · exact h.far b (.inr hb)

theorem SpSt.putL (h : SpSt w vn vl x y T An cn Al cl N L wr) {A' : Option Addr} {c' n : Nat} {L' : List Pr} (hn : n = L'.length) (ho : OwnP 39 (w.heap.size + 1 + 1 + 1) w' (.slice A' n c') L')
    (hg : wr.grownBy w' (Value.slice Al L.length cl).ownBlock) (hv : (Value.slice A' n c').ownBlock = (Value.slice Al L.length cl).ownBlock ∨ (Value.slice A' n c').ownBlock = some wr.heap.size) :
    SpSt w vn vl x y T An cn A' c' N L' (w'.setCell ⟨T, 1, none⟩ (.slice A' n c')) := by
  subst hn
  have hT := h.T_.lt
  have hlt := h.own.lt
  have hrow : ∀ k, (Value.slice Al L.length cl).ownBlock = some k → w.heap.size + 1 + 1 + 1 ≤ k ∧ ¬ k = T := fun k hk => ⟨(hlt k (.inr hk)).1, h.far k (.inr hk)⟩
  have hnew : ∀ k, (Value.slice A' L'.length c').ownBlock = some k → (w.heap.size + 1 + 1 + 1 ≤ k ∧ ¬ k = T) ∧ ¬ (Value.slice An N.length cn).ownBlock = some k := fun k hk => by
    rcases hv with hv | hv
    · exact ⟨hrow k (hv ▸ hk), fun e => h.own.2.2 k e (hv ▸ hk)⟩
    · rw [hv] at hk; cases hk
      exact ⟨by have := h.lt; omega, fun e => by have := (hlt _ (.inl e)).2; omega⟩
  have hl' := h.own.1.apart hg (fun k hk hk2 => h.own.2.2 k hk hk2)
  have how : OwnW (w.heap.size + 1 + 1 + 1) w' (.slice An N.length cn) (.slice A' L'.length c') N L' := ⟨hl', ho, fun k hk hk2 => (hnew k hk2).2 hk⟩
  have hlT := h.lt
  refine ⟨(h.A.grownR hg (fun k hk => by have := (hrow k hk).1; omega)).far (p := ⟨T, 1, none⟩) (show w.heap.size ≠ T by omega) _, (h.P.grownR hg (fun k hk => by have := (hrow k hk).1; omega)).far (p := ⟨T, 1, none⟩) (show w.heap.size + 1 ≠ T by omega) _,
    (h.R.grownR hg (fun k hk => by have := (hrow k hk).1; omega)).far (p := ⟨T, 1, none⟩) (show w.heap.size + 1 + 1 ≠ T by omega) _, (h.T_.grownR hg (fun k hk => (hrow k hk).2)).set_ 1 _,
    how.setFar (p := ⟨T, 1, none⟩) (fun hk => ?_) _, hlT, fun b hb => ?_, (h.blw.grown hg h.blw.size (fun k hk => by have := (hrow k hk).1; omega)).setCell (p := ⟨T, 1, none⟩) (show w.heap.size ≤ T by omega) _⟩
  · rcases hk with hk | hk
    · exact h.far T (.inl hk) rfl
    · exact (hnew T hk).1.2 rfl
  · rcases hb with hb | hb
    · exact h.far b (.inl hb)
    · exact (hnew b hb).1.2

/-- A lead's end is turned. -/
theorem SpSt.setTo {g : Nat} (h : SpSt w vn vl x y T An cn (some ⟨g, 0, none⟩) cl N L wr) {q : Nat} (hq : q < L.length) (z : Int) :
    SpSt w vn vl x y T An cn (some ⟨g, 0, none⟩) cl N (L.set q (L[q].1, z)) (wr.setCell ⟨g, q * 2 + 1, none⟩ (.int .i64 z)) := by
  have hlt := h.own.lt
  have hg := hlt g (.inr rfl)
  have hgT := h.far g (.inr rfl)
  have hlT := h.lt
  have hl := h.own.2.1.set2 hq z
  refine ⟨h.A.far (p := ⟨g, q * 2 + 1, none⟩) (show w.heap.size ≠ g by omega) _, h.P.far (p := ⟨g, q * 2 + 1, none⟩) (show w.heap.size + 1 ≠ g by omega) _, h.R.far (p := ⟨g, q * 2 + 1, none⟩) (show w.heap.size + 1 + 1 ≠ g by omega) _,
    by rw [List.length_set]; exact h.T_.far (p := ⟨g, q * 2 + 1, none⟩) (fun e => hgT e.symm) _,
    ⟨h.own.1.apart (set_grown wr ⟨g, q * 2 + 1, none⟩ _) (fun k hk hk2 => by cases hk2; exact h.own.2.2 g hk rfl), by rw [List.length_set]; exact hl, h.own.2.2⟩, hlT, h.far, h.blw.setCell (p := ⟨g, q * 2 + 1, none⟩) (show w.heap.size ≤ g by omega) _⟩

/-- The window is returned. -/
theorem SpSt.fin (h : SpSt w vn vl x y T An cn Al cl N L wr) (u0 u1 : Value) :
    OwnW w.heap.size ((wr.setCell ⟨w.heap.size + 1 + 1, 0, none⟩ u0).setCell ⟨w.heap.size + 1 + 1, 1, none⟩ u1) (.slice An N.length cn) (.slice Al L.length cl) N L ∧
    Below w.heap.size w ((wr.setCell ⟨w.heap.size + 1 + 1, 0, none⟩ u0).setCell ⟨w.heap.size + 1 + 1, 1, none⟩ u1) :=
  ⟨((h.own.setLow (p := ⟨w.heap.size + 1 + 1, 0, none⟩) (show w.heap.size + 1 + 1 < w.heap.size + 1 + 1 + 1 by omega) u0).setLow (p := ⟨w.heap.size + 1 + 1, 1, none⟩) (show w.heap.size + 1 + 1 < w.heap.size + 1 + 1 + 1 by omega) u1).mono (by omega),
    (h.blw.setCell (p := ⟨w.heap.size + 1 + 1, 0, none⟩) (show w.heap.size ≤ w.heap.size + 1 + 1 by omega) u0).setCell (p := ⟨w.heap.size + 1 + 1, 1, none⟩) (show w.heap.size ≤ w.heap.size + 1 + 1 by omega) u1⟩
end

theorem sBetw_at (a b c : Pr) (x : Bool) (w : World) (h : betwP a b c = x) :
    Calls Try.prog 116 #[.agg #[.int .i64 a.1, .int .i64 a.2], .agg #[.int .i64 b.1, .int .i64 b.2], .agg #[.int .i64 c.1, .int .i64 c.2]] w
      fun e w' => e = .returned (.bool x) ∧ Below w.heap.size w w' := by
  subst h; exact sBetween_any _ _ _ _ _ _ w

end Go.Proofs.Ytnpdincjekelaaa

namespace Go.Proofs.Ytnpdincjekelaaa
open Go.RowKit

attribute [local go_sem ↓] run_eqNode run_neNode run_mn2 run_mx2

set_option maxHeartbeats 16000000 in
set_option maxRecDepth 100000 in
theorem sSplit_any (vn vl : Value) (ns ls : List Pr) (k : Nat) (x y : Int) (w : World) (hn : RP w vn ns) (hl : RP w vl ls) (hw : WinOk ns ls) (hk : k < ls.length) :
    Calls Try.prog 124 #[.agg #[vn, vl], .int .i64 k, .agg #[.int .i64 x, .int .i64 y]] w (RetWB (splN ns ls k x y) (splL ns ls k x y) (splB ns ls k x y) w) := by
  obtain ⟨i0, hi, iz0, iz1, iz2⟩ := info_parts infoNode
  obtain ⟨j0, hj, jz0, jz1, jz2⟩ := info_parts infoLead
  obtain ⟨An, cn, rfl, hcn, hmn, hcelln⟩ := hn.formI
  obtain ⟨Al, cl, rfl, hcl, hml, hcelll⟩ := hl.formI
  unfold maxLen at hmn hml
  have hok := winB_true.2 hw
  have hn12 := hw.2.1
  have hn1 := hw.1
  have hl20 := hw.2.2.1
  obtain ⟨p1, p2, p3, _⟩ := leadB_iff.1 (hw.2.2.2.2.2 k hk).1
  obtain ⟨p, hp⟩ : ∃ p : Nat, (ndI ls k).1 = p := ⟨(ndI ls k).1.toNat, by omega⟩
  obtain ⟨q, hq⟩ : ∃ q : Nat, (ndI ls k).2 = q := ⟨(ndI ls k).2.toNat, by omega⟩
  obtain ⟨bn, offn, rfl, hbn, hccn⟩ := hcelln (by omega)
  obtain ⟨bl, offl, rfl, hbl, hccl⟩ := hcelll (by omega)
  obtain ⟨l0, l1⟩ := hccl k hk
  obtain ⟨a0, a1⟩ := hccn p (by omega)
  obtain ⟨b0, b1⟩ := hccn q (by omega)
  rw [hp] at l0
  rw [hq] at l1
  have ip0 : (0 : Int) ≤ (p : Int) := by omega
  have ip1 : (p : Int) < (ns.length : Int) := by omega
  have iq0 : (0 : Int) ≤ (q : Int) := by omega
  have iq1 : (q : Int) < (ns.length : Int) := by omega
  have ik0 : (0 : Int) ≤ (k : Int) := by omega
  have ik1 : (k : Int) < (ls.length : Int) := by omega
  have hin : inB (k : Int) 0 ((ls.length : Int) - 1) = true := inB_true.2 ⟨by omega, by omega⟩
  obtain ⟨bw, hbw⟩ : ∃ bw, betwP (ndI ns (p : Int)) (ndI ns (q : Int)) (x, y) = bw := ⟨_, rfl⟩
  have HB : Hid (splB ns ls k x y = (bw && winB (splCn ns x y) (splCl ns ls k))) := Lib.hid (by unfold splB; rw [hp, hq, hbw])
  have HL : Hid (splCl ns ls k = (ls ++ [((q : Int), (ns.length : Int))]).set k ((p : Int), (ns.length : Int))) := Lib.hid (by unfold splCl; rw [hp, hq])
  have HP : Hid (ndI ls k = ((p : Int), (q : Int))) := Lib.hid (by rw [← hp, ← hq])
  obtain ⟨bb, hbb⟩ : ∃ bb, splB ns ls k x y = bb := ⟨_, rfl⟩
  obtain ⟨NN, hNN⟩ : ∃ NN, splN ns ls k x y = NN := ⟨_, rfl⟩
  obtain ⟨LL, hLL⟩ : ∃ LL, splL ns ls k x y = LL := ⟨_, rfl⟩
  rw [hbb, hNN, hLL]
  have HBB := Lib.hid hbb
  have HNN := Lib.hid hNN
  have HLL := Lib.hid hLL
  have HBW := Lib.hid hbw
  have HW := Lib.hid hw
  clear hw hbb hNN hLL hcelln hcelll hccl hccn hp hq p1 p2 p3 hbw
  go_enter Try.func124, Try.ntmps124
  go_wp2_with fail
  refine (sCopy_any _ _ ns ls _ (hn.below (by (repeat' (first | (with_reducible exact Below.refl _ _) | (with_reducible assumption) | (with_reducible refine Below.drew ?_) | (with_reducible refine below_drewN ?_ _) | (with_reducible refine Below.alloc ?_ ?_ _) | (with_reducible refine Below.setCell ?_ ?_ _) | (with_reducible refine Below.step (by assumption) ?_ ?_))); all_goals (first | omega | (simp; done) | (simp; omega)))) (hl.below (by (repeat' (first | (with_reducible exact Below.refl _ _) | (with_reducible assumption) | (with_reducible refine Below.drew ?_) | (with_reducible refine below_drewN ?_ _) | (with_reducible refine Below.alloc ?_ ?_ _) | (with_reducible refine Below.setCell ?_ ?_ _) | (with_reducible refine Below.step (by assumption) ?_ ?_))); all_goals (first | omega | (simp; done) | (simp; omega)))) (by omega) (by omega)).mono ?_
  rintro e w1 ⟨A1, c1, B1, d1, rfl, ho1, hb1⟩
  have hz1 := hb1.size
  simp at hz1
  have ho1' : OwnW (w.heap.size + 1 + 1 + 1) w1 (.slice A1 ns.length c1) (.slice B1 ls.length d1) ns ls := by simpa using ho1
  have hlt1 := ho1.lt
  have HST : Hid (SpSt w (.slice (some ⟨bn, offn, none⟩) ns.length cn) (.slice (some ⟨bl, offl, none⟩) ls.length cl) x y w1.heap.size A1 c1 B1 d1 ns ls (w1.alloc (.cells #[.slice A1 ns.length c1, .slice B1 ls.length d1] 27))) := Lib.hid
    ⟨(Blk.below (((Blk.newAt rfl).alloc _).alloc _) hb1 (by first | omega | (simp; done) | (simp; omega))).alloc _, (Blk.below ((Blk.newAt (by simp)).alloc _) hb1 (by first | omega | (simp; done) | (simp; omega))).alloc _, (Blk.below (Blk.newAt (by simp)) hb1 (by first | omega | (simp; done) | (simp; omega))).alloc _, Blk.newAt rfl, ho1'.alloc _, by omega,
      fun b hb e => by have := (hlt1 b hb).2; omega, by (repeat' (first | (with_reducible exact Below.refl _ _) | (with_reducible assumption) | (with_reducible refine Below.drew ?_) | (with_reducible refine below_drewN ?_ _) | (with_reducible refine Below.alloc ?_ ?_ _) | (with_reducible refine Below.setCell ?_ ?_ _) | (with_reducible refine Below.step (by assumption) ?_ ?_))); all_goals (first | omega | (simp; done) | (simp; omega))⟩
  clear hb1 ho1 ho1' hlt1
  obtain ⟨wb, hwb⟩ : ∃ wb, wb = w1.alloc (.cells #[.slice A1 ns.length c1, .slice B1 ls.length d1] 27) := ⟨_, rfl⟩
  have hT0 : w1.heap.size < wb.heap.size := by rw [hwb]; simp
  have hZT : w.heap.size + 1 + 1 < w1.heap.size := HST.out.lt
  go_upto_region 2 with (fail)
  rw [← hwb] at HST ⊢
  generalize w1.heap.size = T at *
  clear hwb
  have hbwb := HST.out.blw
  have hsb := hbwb.size
  have hA := HST.out.A
  have hPp := HST.out.P
  have hT := HST.out.T_
  have hnb := hn.below hbwb
  have hlb := hl.below hbwb
  (have a_0 := hA.cell 0); (have a_1 := hA.cell 1); simp only [List.getElem?_toArray, List.getElem?_cons_succ, List.getElem?_cons_zero] at a_0 a_1
  (have n_0 := hPp.cell 0); (have n_1 := hPp.cell 1); simp only [List.getElem?_toArray, List.getElem?_cons_succ, List.getElem?_cons_zero] at n_0 n_1
  have zz0 : w.heap.size < wb.heap.size := by omega
  have zz1 : w.heap.size + 1 < wb.heap.size := by omega
  have nbn : bn < wb.heap.size := by omega
  have nbl : bl < wb.heap.size := by omega
  have m0 := (hbwb.cell (p := ⟨bl, offl + k * 2, none⟩) hbl).trans l0
  have m1 := (hbwb.cell (p := ⟨bl, offl + k * 2 + 1, none⟩) hbl).trans l1
  have s0 := (hbwb.cell (p := ⟨bn, offn + p * 2, none⟩) hbn).trans a0
  have s1 := (hbwb.cell (p := ⟨bn, offn + p * 2 + 1, none⟩) hbn).trans a1
  have t0 := (hbwb.cell (p := ⟨bn, offn + q * 2, none⟩) hbn).trans b0
  have t1 := (hbwb.cell (p := ⟨bn, offn + q * 2 + 1, none⟩) hbn).trans b1
  have HX := HBW.out
  (refine wp_region_quietG (by kernel_rfl) (by kernel_rfl) (fun hG => ?_))
  repeat (go_big_quiet_step (first | (go_at_call 59; exact quietG (sWinOk_at _ _ ns ls true _ (RS.grw _ hnb) (RS.grw _ hlb) hok)) | (go_at_call 91; exact quietS (l01In_at _ _ _ true _ hin)) | (go_at_call 116; exact quietG (sBetw_at (ndI ns (p : Int)) (ndI ns (q : Int)) (x, y) bw _ HBW.out))))
  (refine wpQuiet_nil ?_); (clear hG); (rintro w3 ⟨⟨_, hb3⟩, rfl⟩); (try dsimp only); (first | (with_reducible have hcf3 := bcell_drew hb3) | have hcf3 := bcell hb3); obtain ⟨hc3, hf3⟩ := hcf3; have hz3 := hb3.size; (try simp at hz3); (try have hp3_0 : w.heap.size < w3.heap.size := by omega); (try have hp3_1 : w.heap.size + 1 < w3.heap.size := by omega); (try have hp3_2 : w.heap.size + 1 + 1 < w3.heap.size := by omega); (try have hp3_3 : w.heap.size + 1 + 1 + 1 < w3.heap.size := by omega)
  cases bw
  · have hno : splB ns ls k x y = false := by rw [HB.out]; rfl
    have e1 : false = bb := by rw [← HBB.out]; exact hno.symm
    have e2 : ns = NN := by rw [← HNN.out]; exact (spl_no hno).1.symm
    have e3 : ls = LL := by rw [← HLL.out]; exact (spl_no hno).2.symm
    subst e1 e2 e3
    have HS3 := Lib.hid (HST.out.below hb3)
    have hR3 := HS3.out.R
    have hT3 := HS3.out.T_
    (have r_0 := hR3.cell 0); (have r_1 := hR3.cell 1); simp only [List.getElem?_toArray, List.getElem?_cons_succ, List.getElem?_cons_zero] at r_0 r_1; (have r_f0 := hR3.frozen 0); (have r_f1 := hR3.frozen 1)
    (have t_0 := hT3.cell 0); (have t_1 := hT3.cell 1); simp only [List.getElem?_toArray, List.getElem?_cons_succ, List.getElem?_cons_zero] at t_0 t_1
    have hRl := hR3.lt
    have hTl := hT3.lt
    have HF := Lib.hid (fun u0 u1 => HS3.out.fin u0 u1)
    clear HST HS3 hR3 hT3 hA hPp hT hb3 hc3 hf3 HX HBW HBB HNN HLL HB HL HP hno m0 m1 s0 s1 t0 t1 a_0 a_1 n_0 n_1 hnb hlb hbwb
    go_wp2
    exact bodyPost_ret (v := .tuple #[.agg #[.slice A1 ns.length c1, .slice B1 ls.length d1], .bool false]) (by simp [results, Try.results124, go_sem, r_0, r_1, hRl]) rfl (RetWB.mk rfl rfl rfl (HF.out _ _).1 (HF.out _ _).2)
  · have HS3 := Lib.hid (HST.out.below hb3)
    have hs3 := hb3.size
    have q0 : T < w3.heap.size := by omega
    clear HST hA hPp hT hb3 hc3 hf3 HX HBW m0 m1 s0 s1 t0 t1 a_0 a_1 n_0 n_1 hnb hlb hbwb
    have hA := HS3.out.A
    have hP := HS3.out.P
    have hT := HS3.out.T_
    (have a_0 := hA.cell 0); (have a_1 := hA.cell 1); simp only [List.getElem?_toArray, List.getElem?_cons_succ, List.getElem?_cons_zero] at a_0 a_1
    (have n_0 := hP.cell 0); (have n_1 := hP.cell 1); simp only [List.getElem?_toArray, List.getElem?_cons_succ, List.getElem?_cons_zero] at n_0 n_1
    (have t_0 := hT.cell 0); (have t_1 := hT.cell 1); simp only [List.getElem?_toArray, List.getElem?_cons_succ, List.getElem?_cons_zero] at t_0 t_1
    have hAl := hA.lt
    have hPl := hP.lt
    have HSA := Lib.hid (HS3.out.alloc (.cells #[.int .i64 x, .int .i64 y] 76))
    go_wp2_with (at_builtin; refine wpList_append_pairs rfl _ _ _ rfl (w.heap.size + 1 + 1 + 1) 76 i0 Try.underlying24 hi iz0 iz1 iz2 (.slice A1 ns.length c1) _ ns [(x, y)] rfl rfl HSA.out.own.1 (RP_lit (by simp) rfl rfl rfl (by simp [maxLen])) (by simp; omega) (by simp; omega) ?_)
    intro A4 c4 w4 ho4 hg4 ha4
    have HS4 := Lib.hid (HSA.out.putN (N' := ns ++ [(x, y)]) (n := ns.length + 1) (by simp) ho4 hg4 (by simpa using ha4))
    have hT4 := HSA.out.T_.grownR hg4 (fun k hk e => HSA.out.far k (.inl hk) e)
    have hT4l := hT4.lt
    clear hA hP hT hAl hPl a_0 a_1 n_0 n_1 t_0 t_1 hg4 ha4 ho4 HSA HS3
    (have t_0 := hT4.cell 0); (have t_1 := hT4.cell 1); simp only [List.getElem?_toArray, List.getElem?_cons_succ, List.getElem?_cons_zero] at t_0 t_1; (have t_f0 := hT4.frozen 0); (have t_f1 := hT4.frozen 1)
    obtain ⟨w5, hw5⟩ : ∃ v, v = w4.setCell ⟨T, 0, none⟩ (.slice A4 (ns.length + 1) c4) := ⟨_, rfl⟩
    rw [← hw5] at HS4
    have hT5 := HS4.out.T_
    have hA5 := HS4.out.A
    have hlen : (ns ++ [(x, y)]).length = ns.length + 1 := by simp
    have HLN := Lib.hid hlen
    clear hlen hT4
    go_upto_region 6 with (fail)
    try rw [← hw5]
    clear hw5 t_0 t_1 t_f0 t_f1
    have m1 := (HS4.out.blw.cell (p := ⟨bl, offl + k * 2 + 1, none⟩) hbl).trans l1
    refine region_D (n := 13) (S := fun w' => w'.cell? ⟨w.heap.size, 1, none⟩ = some (.slice (some ⟨bl, offl, none⟩) ls.length cl) ∧ w'.cell? ⟨T, 1, none⟩ = some (.slice B1 ls.length d1) ∧ w'.cell? ⟨bl, offl + k * 2 + 1, none⟩ = some (.int .i64 (q : Int))) (by kernel_rfl) ⟨hA5.cell 1, hT5.cell 1, m1⟩ (fun hS => ?_)
    clear hA5 hT5 m1
    (refine D_take (i := 0) (v := ?_) rfl rfl (by kernel_rfl) (by kernel_rfl) (by kernel_rfl) (by kernel_rfl) (fun _ _ _ h => h) (Or.inl ⟨by rfl, ?_⟩) (by assumption) ?_); rotate_left; (focus (intro w' hSw; (try dsimp only at hSw); go_simp; (try with_reducible rfl))); (try simp only [Act.put, List.setIfInBounds_toArray, List.set_cons_zero, List.set_cons_succ])
    (refine D_take (i := 1) (v := ?_) rfl rfl (by kernel_rfl) (by kernel_rfl) (by kernel_rfl) (by kernel_rfl) (fun _ _ _ h => h) (Or.inl ⟨by rfl, ?_⟩) (by assumption) ?_); rotate_left; (focus (intro w' hSw; (try dsimp only at hSw); go_simp; (try with_reducible rfl))); (try simp only [Act.put, List.setIfInBounds_toArray, List.set_cons_zero, List.set_cons_succ])
    (refine D_take (i := 2) (v := ?_) rfl rfl (by kernel_rfl) (by kernel_rfl) (by kernel_rfl) (by kernel_rfl) (fun _ _ _ h => h) (Or.inl ⟨by rfl, ?_⟩) (by assumption) ?_); rotate_left; (focus (intro w' hSw; (try dsimp only at hSw); go_simp; (try with_reducible rfl))); (try simp only [Act.put, List.setIfInBounds_toArray, List.set_cons_zero, List.set_cons_succ])
    (refine D_take (i := 3) (v := ?_) rfl rfl (by kernel_rfl) (by kernel_rfl) (by kernel_rfl) (by kernel_rfl) (fun _ _ _ h => h) (Or.inl ⟨by rfl, ?_⟩) (by assumption) ?_); rotate_left; (focus (intro w' hSw; (try dsimp only at hSw); go_simp; (try with_reducible rfl))); (try simp only [Act.put, List.setIfInBounds_toArray, List.set_cons_zero, List.set_cons_succ])
    (refine D_take (i := 4) (v := ?_) rfl rfl (by kernel_rfl) (by kernel_rfl) (by kernel_rfl) (by kernel_rfl) (fun _ _ _ h => h) (Or.inl ⟨by rfl, ?_⟩) (by assumption) ?_); rotate_left; (focus (intro w' hSw; (try dsimp only at hSw); go_simp; (try with_reducible rfl))); (try simp only [Act.put, List.setIfInBounds_toArray, List.set_cons_zero, List.set_cons_succ])
    (refine D_take (i := 5) (v := ?_) rfl rfl (by kernel_rfl) (by kernel_rfl) (by kernel_rfl) (by kernel_rfl) (fun _ _ _ h => h) (Or.inl ⟨by rfl, ?_⟩) (by assumption) ?_); rotate_left; (focus (intro w' hSw; (try dsimp only at hSw); go_simp; (try with_reducible rfl))); (try simp only [Act.put, List.setIfInBounds_toArray, List.set_cons_zero, List.set_cons_succ])
    (refine D_take (i := 6) (v := ?_) rfl rfl (by kernel_rfl) (by kernel_rfl) (by kernel_rfl) (by kernel_rfl) (fun _ _ _ h => h) (Or.inl ⟨by rfl, ?_⟩) (by assumption) ?_); rotate_left; (focus (intro w' hSw; (try dsimp only at hSw); go_simp; (try with_reducible rfl))); (try simp only [Act.put, List.setIfInBounds_toArray, List.set_cons_zero, List.set_cons_succ])
    (refine D_take (i := 7) (v := ?_) rfl rfl (by kernel_rfl) (by kernel_rfl) (by kernel_rfl) (by kernel_rfl) (fun _ _ _ h => h) (Or.inl ⟨by rfl, ?_⟩) (by assumption) ?_); rotate_left; (focus (intro w' hSw; (try dsimp only at hSw); go_simp; (try with_reducible rfl))); (try simp only [Act.put, List.setIfInBounds_toArray, List.set_cons_zero, List.set_cons_succ])
    (refine D_take (i := 8) (v := ?_) rfl rfl (by kernel_rfl) (by kernel_rfl) (by kernel_rfl) (by kernel_rfl) (fun _ _ _ h => h) (Or.inl ⟨by rfl, ?_⟩) (by assumption) ?_); rotate_left; (focus (intro w' hSw; (try dsimp only at hSw); go_simp; (try with_reducible rfl))); (try simp only [Act.put, List.setIfInBounds_toArray, List.set_cons_zero, List.set_cons_succ])
    (refine D_take (i := 9) (v := ?_) rfl rfl (by kernel_rfl) (by kernel_rfl) (by kernel_rfl) (by kernel_rfl) (fun _ _ _ h => h) (Or.inl ⟨by rfl, ?_⟩) (by assumption) ?_); rotate_left; (focus (intro w' hSw; (try dsimp only at hSw); go_simp; (try with_reducible rfl))); (try simp only [Act.put, List.setIfInBounds_toArray, List.set_cons_zero, List.set_cons_succ])
    (refine D_step (i := 10) rfl (by kernel_rfl) (fun K hK => ?_)); (rw [if_pos (by rfl)])
    go_simp
    have HSB := Lib.hid ((HS4.out.alloc (.cells #[.int .i64 (q : Int), .int .i64 (ns.length : Int)] 39)).drew)
    have mB := (HSB.out.blw.cell (p := ⟨bl, offl + k * 2 + 1, none⟩) hbl).trans l1
    refine hK _ _ (fun _ => ⟨HSB.out.A.cell 1, HSB.out.T_.cell 1, mB⟩) (fun hS' => ?_)
    have hS2 := hS' (by decide)
    clear hK K hS hS' mB
    (try simp only [Act.put, List.setIfInBounds_toArray, List.set_cons_zero, List.set_cons_succ])
    (refine D_step (i := 11) rfl (by kernel_rfl) (fun K hK => ?_))
    refine step_append_pairs rfl _ _ _ rfl (w.heap.size + 1 + 1 + 1) 39 j0 Try.underlying25 hj jz0 jz1 jz2 (.slice B1 ls.length d1) _ ls [((q : Int), (ns.length : Int))] rfl rfl HSB.out.own.2.1 (RP_litD (by simp) rfl rfl rfl (by simp [maxLen])) (by simp; omega) (by have := HSB.out.T_.lt; have := HSB.out.lt; omega) ?_
    intro A6 c6 w6 ho6 hg6 ha6
    have HS6 := Lib.hid (HSB.out.putL (L' := ls ++ [((q : Int), (ns.length : Int))]) (n := ls.length + 1) (by simp) (by simpa using ho6) hg6 (by simpa using ha6))
    have hT6 := HSB.out.T_.grownR hg6 (fun k hk e => HSB.out.far k (.inr hk) e)
    have hA6 := HSB.out.A.grownR hg6 (fun k hk e => by have := (HSB.out.own.lt k (.inr hk)).1; omega)
    have hb6 := HSB.out.blw.grown hg6 HSB.out.blw.size (fun k hk => by have := (HSB.out.own.lt k (.inr hk)).1; omega)
    have m6 := (hb6.cell (p := ⟨bl, offl + k * 2 + 1, none⟩) hbl).trans l1
    refine hK _ _ (fun _ => ⟨hA6.cell 1, hT6.cell 1, m6⟩) (fun hS' => ?_)
    have hS3 := hS' (by decide)
    clear hK K hS2 hS' m6 hA6 hb6 hg6 ha6 ho6 HSB HS4
    (try simp only [Act.put, List.setIfInBounds_toArray, List.set_cons_zero, List.set_cons_succ])
    (refine D_take (i := 12) (v := ?_) rfl rfl (by kernel_rfl) (by kernel_rfl) (by kernel_rfl) (by kernel_rfl) (fun _ _ _ h => h) (Or.inl ⟨by rfl, ?_⟩) (by assumption) ?_); rotate_left; (focus (intro w' hSw; (try dsimp only at hSw); go_simp; (try with_reducible rfl))); (try simp only [Act.put, List.setIfInBounds_toArray, List.set_cons_zero, List.set_cons_succ])
    have hT6l := hT6.lt
    (have t_0 := hT6.cell 0); (have t_1 := hT6.cell 1); simp only [List.getElem?_toArray, List.getElem?_cons_succ, List.getElem?_cons_zero] at t_0 t_1; (have t_f0 := hT6.frozen 0); (have t_f1 := hT6.frozen 1)
    (refine D_step (i := 13) rfl (by kernel_rfl) (fun K hK => ?_)); (rw [if_pos (by rfl)])
    go_simp
    refine hK _ _ (fun h => absurd rfl h) (fun _ => ?_)
    clear hK K hS3
    (try simp only [Act.put, List.setIfInBounds_toArray, List.set_cons_zero, List.set_cons_succ])
    refine D_done (by kernel_rfl) ?_ _
    obtain ⟨w7, hw7⟩ : ∃ v, v = w6.setCell ⟨T, 1, none⟩ (.slice A6 (ls.length + 1) c6) := ⟨_, rfl⟩
    rw [← hw7] at HS6
    try rw [← hw7]
    clear hw7 t_0 t_1 t_f0 t_f1 hT6 hT6l
    have HLL2 : Hid ((ls ++ [((q : Int), (ns.length : Int))]).length = ls.length + 1) := Lib.hid (by simp)
    have hk1 : k < (ls ++ [((q : Int), (ns.length : Int))]).length := by rw [HLL2.out]; omega
    have HGK : Hid ((ls ++ [((q : Int), (ns.length : Int))]).set k ((ls ++ [((q : Int), (ns.length : Int))])[k].1, (ns.length : Int)) = splCl ns ls k) := Lib.hid (by
      rw [HL.out]
      have e : (ls ++ [((q : Int), (ns.length : Int))])[k].1 = (p : Int) := by
        rw [List.getElem_append_left hk]
        have := HP.out
        rw [ndI_nat ls k hk] at this
        rw [this]
      rw [e])
    have HLN7 : Hid ((ns ++ [(x, y)]).length = ns.length + 1) := Lib.hid (by simp)
    have HYN : Hid (splB ns ls k x y = true → splCn ns x y = NN) := Lib.hid (fun h => (spl_yes h).1.symm.trans HNN.out)
    have HYL : Hid (splB ns ls k x y = true → splCl ns ls k = LL) := Lib.hid (fun h => (spl_yes h).2.symm.trans HLL.out)
    have hNe : ns ++ [(x, y)] = splCn ns x y := rfl
    rw [hNe] at HS6 HLN7
    clear hNe
    generalize splCn ns x y = N7 at *
    generalize ls ++ [((q : Int), (ns.length : Int))] = L7 at *
    have hHS := HS6.out.own.2.1
    rcases hcase : hHS.2 with ⟨e0, e1⟩ | ⟨gb, cap, cur, e0, hbg, hrest⟩
    · rw [HLL2.out] at e1; omega
    clear hcase hrest
    injection e0 with e0 e1 e2
    subst e0 e2
    clear e1 cur hHS
    have hT7 := HS6.out.T_
    (have t_0 := hT7.cell 0); (have t_1 := hT7.cell 1); simp only [List.getElem?_toArray, List.getElem?_cons_succ, List.getElem?_cons_zero] at t_0 t_1
    have x7 := (HS6.out.own.2.1.cell hk1).2
    have f7 := HS6.out.own.2.1.frz (k * 2 + 1)
    have HS8 := Lib.hid (HS6.out.setTo hk1 (ns.length : Int))
    rw [HGK.out] at HS8
    have il1 : (k : Int) < (L7.length : Int) := by omega
    have HL8 : Hid ((splCl ns ls k).length = L7.length) := Lib.hid (by rw [HL.out]; simp)
    generalize splCl ns ls k = L8 at *
    obtain ⟨w8, hw8⟩ : ∃ v, v = w7.setCell ⟨gb, k * 2 + 1, none⟩ (.int .i64 (ns.length : Int)) := ⟨_, rfl⟩
    rw [← hw8] at HS8
    go_upto_region 8 with (fail)
    try rw [← hw8]
    clear hw8 t_0 t_1 x7 f7 HS6 hT7 HL HGK
    have hT8 := HS8.out.T_
    have hT8l := hT8.lt
    (have t_0 := hT8.cell 0); (have t_1 := hT8.cell 1); simp only [List.getElem?_toArray, List.getElem?_cons_succ, List.getElem?_cons_zero] at t_0 t_1
    obtain ⟨bw, hbw⟩ : ∃ bw, winB N7 L8 = bw := ⟨_, rfl⟩
    rw [hbw] at HB
    go_wp2_with fail
    refine (sWinOk_at _ _ N7 L8 bw _ HS8.out.own.1.reads HS8.out.own.2.1.reads hbw).mono ?_
    rintro e w9 ⟨rfl, hb9⟩
    have HS9 := Lib.hid (HS8.out.below hb9)
    have hs9 := hb9.size
    have q9 : T < w9.heap.size := by omega
    clear HS8 hT8 t_0 t_1 hb9 hbw
    have hA9 := HS9.out.A
    have hR9 := HS9.out.R
    have hT9 := HS9.out.T_
    (have a_0 := hA9.cell 0); (have a_1 := hA9.cell 1); simp only [List.getElem?_toArray, List.getElem?_cons_succ, List.getElem?_cons_zero] at a_0 a_1
    (have t_0 := hT9.cell 0); (have t_1 := hT9.cell 1); simp only [List.getElem?_toArray, List.getElem?_cons_succ, List.getElem?_cons_zero] at t_0 t_1
    have hA9l := hA9.lt
    have hR9l := hR9.lt
    cases bw
    · have hno : splB ns ls k x y = false := by rw [HB.out]; rfl
      have e1 : false = bb := by rw [← HBB.out]; exact hno.symm
      have e2 : ns = NN := by rw [← HNN.out]; exact (spl_no hno).1.symm
      have e3 : ls = LL := by rw [← HLL.out]; exact (spl_no hno).2.symm
      subst e1 e2 e3
      clear HBB HNN HLL HB hno
      go_wp2_with fail
      refine (sCopy_any _ _ ns ls _ (hn.below HS9.out.blw) (hl.below HS9.out.blw) (by omega) (by omega)).mono ?_
      rintro e w10 ⟨A9, c9, B9, d9, rfl, ho10, hb10⟩
      have hR10 := hR9.below hb10 hR9l
      have hbw10 := HS9.out.blw.trans (hb10.mono HS9.out.blw.size)
      have hltb : w.heap.size + 1 + 1 < w9.heap.size := hR9l
      have HO := Lib.hid (((ho10.setLow (p := ⟨w.heap.size + 1 + 1, 0, none⟩) hltb (.slice A9 ns.length c9)).setLow (p := ⟨w.heap.size + 1 + 1, 1, none⟩) hltb (.slice B9 ls.length d9)).mono (show w.heap.size ≤ _ by omega))
      have HBL := Lib.hid ((hbw10.setCell (p := ⟨w.heap.size + 1 + 1, 0, none⟩) (show w.heap.size ≤ w.heap.size + 1 + 1 by omega) (.slice A9 ns.length c9)).setCell (p := ⟨w.heap.size + 1 + 1, 1, none⟩) (show w.heap.size ≤ w.heap.size + 1 + 1 by omega) (.slice B9 ls.length d9))
      (have r_0 := hR10.cell 0); (have r_1 := hR10.cell 1); simp only [List.getElem?_toArray, List.getElem?_cons_succ, List.getElem?_cons_zero] at r_0 r_1; (have r_f0 := hR10.frozen 0); (have r_f1 := hR10.frozen 1)
      have hR10l := hR10.lt
      clear hR10 hbw10 hA9 hR9 hT9 a_0 a_1 t_0 t_1 ho10 hb10 HS9
      go_wp2
      exact bodyPost_ret (v := .tuple #[.agg #[.slice A9 ns.length c9, .slice B9 ls.length d9], .bool false]) (by simp [results, Try.results124, go_sem, r_0, r_1, hR10l]) rfl (RetWB.mk rfl rfl rfl HO.out HBL.out)
    · have hyes : splB ns ls k x y = true := by rw [HB.out]; rfl
      have e1 : true = bb := by rw [← HBB.out]; exact hyes.symm
      have HE2 : Hid (N7 = NN) := Lib.hid (HYN.out hyes)
      have HE3 : Hid (L8 = LL) := Lib.hid (HYL.out hyes)
      subst e1
      clear HBB HNN HLL HB hyes
      have HF := Lib.hid (fun u0 u1 => HS9.out.fin u0 u1)
      (have r_0 := hR9.cell 0); (have r_1 := hR9.cell 1); simp only [List.getElem?_toArray, List.getElem?_cons_succ, List.getElem?_cons_zero] at r_0 r_1; (have r_f0 := hR9.frozen 0); (have r_f1 := hR9.frozen 1)
      clear HS9 hA9 hR9 hT9
      go_wp2
      exact bodyPost_ret (v := .tuple #[.agg #[.slice A4 N7.length c4, .slice (some ⟨gb, 0, none⟩) L8.length c6], .bool true]) (by simp [results, Try.results124, go_sem, r_0, r_1, hR9l]) rfl (by rw [← HE2.out, ← HE3.out]; exact RetWB.mk rfl rfl rfl (HF.out _ _).1 (HF.out _ _).2)

end Go.Proofs.Ytnpdincjekelaaa

namespace Go.Proofs.Ytnpdincjekelaaa
open Go.RowKit
section
variable {P : Program} {md : Region.Mode} {ops : Array Oper} {Q : Exit → Act → World → Prop} {S : World → Prop}

/-- Every order of what is left; S holds as long as number n is not listed. -/
def anyE (P : Program) (md : Region.Mode) (ops : Array Oper) (Q : Exit → Act → World → Prop) (S : World → Prop) (n : Nat) : Nat → Array Bool → Act → World → Prop
  | 0, listed, a, w => Region.ready md ops listed = [] ∧ Q .normal a w
  | fuel + 1, listed, a, w =>
    (Region.ready md ops listed = [] → Q .normal a w) ∧
    ∀ i ∈ Region.ready md ops listed, wpOp P ops Q i (fun a' w' => ((listed.setIfInBounds i true).getD n true = false → S w') ∧ anyE P md ops Q S n fuel (listed.setIfInBounds i true) a' w') a w

theorem any_of_E {n : Nat} : ∀ (fuel : Nat) (listed : Array Bool) (a : Act) (w : World), anyE P md ops Q S n fuel listed a w → wpAny P md ops Q fuel listed a w
  | 0, _, _, _, h => h
  | fuel + 1, _, _, _, h => ⟨h.1, fun i hi => wpOp_mono (fun a' w' h' => any_of_E fuel _ a' w' h'.2) (h.2 i hi)⟩

/-- Number i first, for which n waits. -/
theorem E_first {n i : Nat} {oi on : Oper} {v : Value} (hi : ops[i]? = some oi) (hon : ops[n]? = some on) (hwait : ∃ e ∈ on.after, Region.binds md e = true ∧ e.on = i) (hsel : ∀ (j : Nat) (o : Oper) cs b, ops[j]? = some o → o.op ≠ .select cs b)
    (hQ : ∀ c a w, Q (.panic c) (a.put oi.dst v) w → Q (.panic c) a w) :
    ∀ (fuel : Nat) (listed : Array Bool) (a : Act) (w : World),
      (∀ j oj, ops[j]? = some oj → j ≠ i → listed.getD j true = false → (∀ e ∈ oj.after, Region.binds md e = true → e.on ≠ i) → oi.apart ops oj = true) →
      i ∈ Region.ready md ops listed → listed.getD n true = false → YieldsIf P ops S oi v a → S w →
      anyE P md ops Q S n fuel (listed.setIfInBounds i true) (a.put oi.dst v) w → anyE P md ops Q S n (fuel + 1) listed a w := by
  intro fuel
  induction fuel with
  | zero =>
    intro listed a w _ hr hn hy hS H
    refine ⟨fun h => (by rw [h] at hr; cases hr), fun j hj => ?_⟩
    by_cases hji : j = i
    · subst hji
      exact hy.wpOp hi hS ⟨fun _ => hS, H⟩
    · have := ready_mono hj hji
      rw [H.1] at this
      cases this
  | succ fuel ih =>
    intro listed a w hfree hr hn hy hS H
    refine ⟨fun h => (by rw [h] at hr; cases hr), fun j hj => ?_⟩
    by_cases hji : j = i
    · subst hji
      exact hy.wpOp hi hS ⟨fun _ => hS, H⟩
    · have h1 := H.2 j (ready_mono hj hji)
      obtain ⟨hjun, oj, hoj, hall⟩ := mem_ready.1 hj
      have hnot : ∀ e ∈ oj.after, Region.binds md e = true → e.on ≠ i := fun e he hb heq => by
        have g1 := hall e he hb
        have g0 := (mem_ready.1 hr).1
        rw [heq] at g1
        rcases Nat.lt_or_ge i listed.size with h' | h'
        · simp [h'] at g0 g1; rw [g0] at g1; cases g1
        · simp [Array.getElem?_eq_none h'] at g1
      have hjn : j ≠ n := by
        rintro rfl
        rw [hon] at hoj
        cases hoj
        obtain ⟨e, he, hb, heq⟩ := hwait
        exact hnot e he hb heq
      have hin : i ≠ n := by
        rintro rfl
        rw [hon] at hi
        cases hi
        obtain ⟨e, he, hb, heq⟩ := hwait
        obtain ⟨h0, o', ho', hall'⟩ := mem_ready.1 hr
        rw [hon] at ho'
        cases ho'
        have g1 := hall' e he hb
        rw [heq] at g1
        rcases Nat.lt_or_ge i listed.size with h' | h'
        · simp [h'] at h0 g1; rw [h0] at g1; cases g1
        · simp [Array.getElem?_eq_none h'] at g1
      have h2 := wpOp_putIf hoj (hfree j oj hoj hji hjun hnot) (fun cs b => hsel i oi cs b hi) (fun cs b => hsel j oj cs b hoj) hQ hy h1
      have hfree' : ∀ k ok, ops[k]? = some ok → k ≠ i → (listed.setIfInBounds j true).getD k true = false →
          (∀ e ∈ ok.after, Region.binds md e = true → e.on ≠ i) → oi.apart ops ok = true := fun k ok hk hki hun hno => by
        refine hfree k ok hk hki ?_ hno
        by_cases hjk : j = k
        · subst hjk; exact hjun
        · rw [getD_set_ne true hjk] at hun; exact hun
      have hnf : ((listed.setIfInBounds i true).setIfInBounds j true).getD n true = false := by rw [getD_set_ne true hjn, getD_set_ne true hin]; exact hn
      refine wpOp_mono (fun a' w' h3 => ⟨fun _ => h3.2.1 hnf, ih (listed.setIfInBounds j true) a' w' hfree' (ready_mono hr (Ne.symm hji)) (by rw [getD_set_ne true hjn]; exact hn) h3.1 (h3.2.1 hnf) ?_⟩) h2
      rw [Array.setIfInBounds_comm _ _ hji]
      exact h3.2.2

/-- Number i first, whatever the world. -/
theorem E_first0 {n i : Nat} {oi : Oper} {v : Value} (hi : ops[i]? = some oi) (hin : i ≠ n) (hsel : ∀ (j : Nat) (o : Oper) cs b, ops[j]? = some o → o.op ≠ .select cs b)
    (hQ : ∀ c a w, Q (.panic c) (a.put oi.dst v) w → Q (.panic c) a w) :
    ∀ (fuel : Nat) (listed : Array Bool) (a : Act) (w : World),
      (∀ j oj, ops[j]? = some oj → j ≠ i → listed.getD j true = false → (∀ e ∈ oj.after, Region.binds md e = true → e.on ≠ i) → oi.apart ops oj = true) →
      i ∈ Region.ready md ops listed → YieldsIf P ops (fun _ => True) oi v a → (listed.getD n true = false → S w) →
      anyE P md ops Q S n fuel (listed.setIfInBounds i true) (a.put oi.dst v) w → anyE P md ops Q S n (fuel + 1) listed a w := by
  intro fuel
  induction fuel with
  | zero =>
    intro listed a w _ hr hy hS H
    refine ⟨fun h => (by rw [h] at hr; cases hr), fun j hj => ?_⟩
    by_cases hji : j = i
    · subst hji
      exact hy.wpOp hi trivial ⟨fun h => hS (by rw [getD_set_ne true hin] at h; exact h), H⟩
    · have := ready_mono hj hji
      rw [H.1] at this
      cases this
  | succ fuel ih =>
    intro listed a w hfree hr hy hS H
    refine ⟨fun h => (by rw [h] at hr; cases hr), fun j hj => ?_⟩
    by_cases hji : j = i
    · subst hji
      exact hy.wpOp hi trivial ⟨fun h => hS (by rw [getD_set_ne true hin] at h; exact h), H⟩
    · have h1 := H.2 j (ready_mono hj hji)
      obtain ⟨hjun, oj, hoj, hall⟩ := mem_ready.1 hj
      have hnot : ∀ e ∈ oj.after, Region.binds md e = true → e.on ≠ i := fun e he hb heq => by
        have g1 := hall e he hb
        have g0 := (mem_ready.1 hr).1
        rw [heq] at g1
        rcases Nat.lt_or_ge i listed.size with h' | h'
        · simp [h'] at g0 g1; rw [g0] at g1; cases g1
        · simp [Array.getElem?_eq_none h'] at g1
      have h2 := wpOp_putIf hoj (hfree j oj hoj hji hjun hnot) (fun cs b => hsel i oi cs b hi) (fun cs b => hsel j oj cs b hoj) hQ hy h1
      have hfree' : ∀ k ok, ops[k]? = some ok → k ≠ i → (listed.setIfInBounds j true).getD k true = false →
          (∀ e ∈ ok.after, Region.binds md e = true → e.on ≠ i) → oi.apart ops ok = true := fun k ok hk hki hun hno => by
        refine hfree k ok hk hki ?_ hno
        by_cases hjk : j = k
        · subst hjk; exact hjun
        · rw [getD_set_ne true hjk] at hun; exact hun
      have hcomm : ((listed.setIfInBounds i true).setIfInBounds j true) = ((listed.setIfInBounds j true).setIfInBounds i true) := Array.setIfInBounds_comm _ _ (Ne.symm hji)
      refine wpOp_mono (fun a' w' h3 => ?_) h2
      have hs : (listed.setIfInBounds j true).getD n true = false → S w' := fun hf => h3.2.1 (by rw [hcomm, getD_set_ne true hin]; exact hf)
      refine ⟨hs, ih (listed.setIfInBounds j true) a' w' hfree' (ready_mono hr (Ne.symm hji)) h3.1 hs ?_⟩
      rw [← hcomm]
      exact h3.2.2

theorem E_take {n i : Nat} {oi on : Oper} {v : Value} {fuel : Nat} {listed : Array Bool} {a : Act} {w : World} (hi' : (ops.toList.drop i).head? = some oi) (hon' : (ops.toList.drop n).head? = some on) (hwait : (on.after.any fun e => Region.binds md e && e.on == i) = true)
    (hs : Region.noSelect ops = true) (hf : Region.free md ops listed i = true) (hr : (Region.ready md ops listed).contains i = true) (hn : listed.getD n true = false)
    (hQ : ∀ c a w, Q (.panic c) (a.put oi.dst v) w → Q (.panic c) a w) (hy : YieldsIf P ops S oi v a) (hS : S w)
    (h : anyE P md ops Q S n fuel (listed.setIfInBounds i true) (a.put oi.dst v) w) : anyE P md ops Q S n (fuel + 1) listed a w := by
  have hi := op_of_head hi'
  have hon := op_of_head hon'
  refine E_first hi hon ?_ (Region.noSelect_spec hs) hQ fuel listed a w (Region.free_spec hi hf) (by simpa using hr) hn hy hS h
  rw [Array.any_eq_true] at hwait
  obtain ⟨k, hk, h⟩ := hwait
  rw [Bool.and_eq_true] at h
  exact ⟨on.after[k], Array.getElem_mem hk, h.1, by simpa using h.2⟩

theorem E_take0 {n i : Nat} {oi : Oper} {v : Value} {fuel : Nat} {listed : Array Bool} {a : Act} {w : World} (hi' : (ops.toList.drop i).head? = some oi) (hin : i ≠ n)
    (hs : Region.noSelect ops = true) (hf : Region.free md ops listed i = true) (hr : (Region.ready md ops listed).contains i = true)
    (hQ : ∀ c a w, Q (.panic c) (a.put oi.dst v) w → Q (.panic c) a w) (hy : YieldsIf P ops (fun _ => True) oi v a) (hS : S w)
    (h : anyE P md ops Q S n fuel (listed.setIfInBounds i true) (a.put oi.dst v) w) : anyE P md ops Q S n (fuel + 1) listed a w :=
  E_first0 (op_of_head hi') hin (Region.noSelect_spec hs) hQ fuel listed a w (Region.free_spec (op_of_head hi') hf) (by simpa using hr) hy (fun _ => hS) h

theorem E_step {n i : Nat} {o : Oper} {fuel : Nat} {listed : Array Bool} {a : Act} {w : World} (ho' : (ops.toList.drop i).head? = some o) (hr : Region.ready md ops listed = [i])
    (h : ∀ K' : Act → World → Prop, (∀ a w, ((listed.setIfInBounds i true).getD n true = false → S w) → (((listed.setIfInBounds i true).getD n true = false → S w) → anyE P md ops Q S n fuel (listed.setIfInBounds i true) a w) → K' a w) → if Region.wanted o (yielded ops a.tmps) = true then Oper.wp P o a w K' Q else K' (a.put o.dst undef) w) :
    anyE P md ops Q S n (fuel + 1) listed a w := by
  have ho := op_of_head ho'
  refine ⟨fun h0 => (by rw [hr] at h0; cases h0), fun j hj => ?_⟩
  rw [hr, List.mem_singleton] at hj
  subst hj
  exact wpOp_step ho (fun K' hK => h K' (fun a w hS hW => hK a w ⟨hS, hW hS⟩))

theorem E_done {n : Nat} {listed : Array Bool} {a : Act} {w : World} (hr : Region.ready md ops listed = []) (h : Q .normal a w) : ∀ fuel, anyE P md ops Q S n fuel listed a w
  | 0 => ⟨hr, h⟩
  | _ + 1 => ⟨fun _ => h, by rw [hr]; simp⟩

theorem region_E {id n : Nat} {a : Act} {w : World} (hm : P.follows .mixedOrders = true) (hS : S w.drew)
    (h : S w.drew → anyE P .any ops Q S n ops.size (Array.replicate ops.size false) a w.drew) : (Code.region id ops true).wp P Q a w :=
  wp_region_any hm (any_of_E _ _ _ _ (h hS))

end
end Go.Proofs.Ytnpdincjekelaaa

namespace Go.Proofs.Ytnpdincjekelaaa
open Go.RowKit

attribute [local go_sem ↓] run_eqNode run_neNode run_mn2 run_mx2

theorem CurOk.below {W0 w w' : World} {v : Value} {g : Nat} (h : CurOk W0 v g w) (hb : Below w.heap.size w w') : CurOk W0 v g w' := by
  obtain ⟨hg, hbl, i, s, hi, hB⟩ := h
  exact ⟨hg, hbl.trans (hb.mono hbl.size), i, s, hi, hB.below hb hB.lt⟩

theorem grown_below {a w w' : World} {row : Option Nat} (h : a.grownBy w row) (hb : Below w.heap.size w w') : a.grownBy w' row :=
  grownBy_trans h ⟨hb.os, hb.tape, hb.output, hb.size, fun i hi _ => hb.block i hi⟩

/-- A window under way: in a box of its own, the cursor beside it. -/
structure WSt (W0 : World) (v : Value) (g : Nat) (w : World) (X : Nat) (wr : World) (An : Option Addr) (cn : Nat) (Al : Option Addr) (cl : Nat) (ns ls : List Pr) : Prop where
  win : WinOk ns ls
  own : OwnW (w.heap.size + 1) wr (.slice An ns.length cn) (.slice Al ls.length cl) ns ls
  box : Blk wr X 27 #[.slice An ns.length cn, .slice Al ls.length cl]
  res : Blk wr w.heap.size 27 #[.slice none 0 0, .slice none 0 0]
  ne : ∀ b, blksW (.slice An ns.length cn) (.slice Al ls.length cl) b → ¬ b = X
  cur : CurOk W0 v g wr
  gr : w.grownBy wr (some g)
  hX : w.heap.size < X
  hg : g < w.heap.size

section
variable {W0 : World} {v : Value} {g : Nat} {w : World} {X : Nat} {wr w' : World} {An : Option Addr} {cn : Nat} {Al : Option Addr} {cl : Nat} {ns ls : List Pr}

theorem WSt.drawn (h : WSt W0 v g w X wr An cn Al cl ns ls) (hc : CurOk W0 v g w') (hg : wr.grownBy w' (some g)) : WSt W0 v g w X w' An cn Al cl ns ls :=
  ⟨h.win, h.own.far hg (fun k hk => by cases hk; have := h.hg; omega), h.box.grown hg (by have := h.hg; have := h.hX; omega), h.res.grown hg (by have := h.hg; omega), h.ne, hc, grownBy_trans h.gr hg, h.hX, h.hg⟩

theorem WSt.below (h : WSt W0 v g w X wr An cn Al cl ns ls) (hb : Below wr.heap.size wr w') : WSt W0 v g w X w' An cn Al cl ns ls :=
  ⟨h.win, h.own.kept hb, h.box.below hb h.box.lt, h.res.below hb h.res.lt, h.ne, h.cur.below hb, grown_below h.gr hb, h.hX, h.hg⟩

theorem WSt.alloc (h : WSt W0 v g w X wr An cn Al cl ns ls) (o : Obj) : WSt W0 v g w X (wr.alloc o) An cn Al cl ns ls :=
  h.below (Below.alloc (Below.refl _ _) (Nat.le_refl _) o)

theorem WSt.drew (h : WSt W0 v g w X wr An cn Al cl ns ls) : WSt W0 v g w X wr.drew An cn Al cl ns ls := h.below (Below.drew (Below.refl _ _))

theorem WSt.row (h : WSt W0 v g w X wr An cn Al cl ns ls) {row : Option Nat} (hg : wr.grownBy w' row) (hr : ∀ k, row = some k → X < k ∧ ¬ blksW (.slice An ns.length cn) (.slice Al ls.length cl) k) : WSt W0 v g w X w' An cn Al cl ns ls := by
  have hX := h.hX
  have hgw := h.hg
  obtain ⟨hg0, hbl, i, s, hi, hB⟩ := h.cur
  have hs := h.gr.size
  refine ⟨h.win, h.own.apart hg (fun k hk e => (hr k e).2 hk), Blk.grownR h.box hg (fun k e => by have := (hr k e).1; omega), Blk.grownR h.res hg (fun k e => by have := (hr k e).1; omega), h.ne,
    ⟨hg0, hbl.grown hg hbl.size (fun k e => by have := (hr k e).1; omega), i, s, hi, Blk.grownR hB hg (fun k e => by have := (hr k e).1; omega)⟩,
    ⟨hg.os.trans h.gr.os, hg.tape.trans h.gr.tape, hg.output.trans h.gr.output, Nat.le_trans hs hg.size, fun i hi hne => (hg.block i (by omega) (fun e => by have := (hr i e.symm).1; omega)).trans (h.gr.block i hi hne)⟩, hX, hgw⟩

theorem WSt.put (h : WSt W0 v g w X wr An cn Al cl ns ls) {An' : Option Addr} {cn' : Nat} {Al' : Option Addr} {cl' n m base : Nat} {ns' ls' : List Pr} (hw : WinOk ns' ls') (hn : n = ns'.length) (hm : m = ls'.length)
    (ho : OwnW base wr (.slice An' n cn') (.slice Al' m cl') ns' ls') (hb : X < base) :
    WSt W0 v g w X ((wr.setCell ⟨X, 0, none⟩ (.slice An' n cn')).setCell ⟨X, 1, none⟩ (.slice Al' m cl')) An' cn' Al' cl' ns' ls' := by
  subst hn hm
  have hX := h.hX
  have hg := h.hg
  have hlt := ho.lt
  have hne : ∀ b, blksW (.slice An' ns'.length cn') (.slice Al' ls'.length cl') b → ¬ b = X := fun b hb' e => by have := (hlt b hb').1; omega
  have ho' := ho.mono (show w.heap.size + 1 ≤ base by omega)
  refine ⟨hw, (ho'.setFar (p := ⟨X, 0, none⟩) (fun k => hne _ k rfl) _).setFar (p := ⟨X, 1, none⟩) (fun k => hne _ k rfl) _, (h.box.set_ 0 _).set_ 1 _,
    (h.res.far (p := ⟨X, 0, none⟩) (by show w.heap.size ≠ X; omega) _).far (p := ⟨X, 1, none⟩) (by show w.heap.size ≠ X; omega) _, hne,
    (h.cur.far (p := ⟨X, 0, none⟩) (by show g < X; omega) _).far (p := ⟨X, 1, none⟩) (by show g < X; omega) _,
    only_far (p := ⟨X, 1, none⟩) (only_far (p := ⟨X, 0, none⟩) h.gr (by show w.heap.size ≤ X; omega) _) (by show w.heap.size ≤ X; omega) _, h.hX, h.hg⟩
end

def DrawnW (W0 : World) (v : Value) (g : Nat) (w : World) (e : Ending) (w' : World) : Prop :=
  ∃ ns ls An cn Al cl, e = .returned (.agg #[.slice An ns.length cn, .slice Al ls.length cl]) ∧ WinOk ns ls ∧ OwnW (w.heap.size + 1) w' (.slice An ns.length cn) (.slice Al ls.length cl) ns ls ∧ CurOk W0 v g w' ∧ w.grownBy w' (some g)

set_option maxHeartbeats 8000000 in
set_option maxRecDepth 100000 in
theorem drawWindow_any (W0 : World) (v : Value) (zs : List Int) (g : Nat) (w : World) (h : RB W0 v zs) (hle : zs.length ≤ 1048576) (hc : CurOk W0 v g w) :
    Calls Try.prog 45 #[.pointer (some ⟨g, 0, none⟩)] w (DrawnW W0 v g w) := by
  have hgl := hc.lt
  obtain ⟨i0, hi, iz0, iz1, iz2⟩ := info_parts infoNode
  have HC := Lib.hid hc
  have HRB := Lib.hid h
  clear h hc
  go_enter Try.func45, Try.ntmps45
  go_wp2_with fail
  refine (below_any W0 v zs g 5 _ HRB.out hle (by omega) (HC.out.alloc _)).mono ?_
  rintro e w1 ⟨x, rfl, x0, x1, hc1, hg1⟩
  have hz1 := hg1.size
  simp at hz1
  have hR1 : Blk w1 w.heap.size 27 #[.slice none 0 0, .slice none 0 0] := (Blk.new w _ _).grown hg1 (by omega)
  have hG1 := grownBy_trans (only_alloc (World.grownBy.refl w (some g)) (.cells #[.slice none 0 0, .slice none 0 0] 27)) hg1
  clear hg1
  go_wp2_with fail
  refine (sShape_any x _).mono ?_
  rintro e w2 ⟨An, cn, Al, cl, rfl, ho2, hb2⟩
  have hz2 := hb2.size
  have hlt2 := ho2.lt
  have hwn := winB_true.1 (shape_ok x)
  have hR2 := hR1.below hb2 hR1.lt
  have hC2 := hc1.below hb2
  have hG2 := grown_below hG1 hb2
  generalize shapeN x = ns at *
  generalize shapeL x = ls at *
  have HST : Hid (WSt W0 v g w w2.heap.size (w2.alloc (.cells #[.slice An ns.length cn, .slice Al ls.length cl] 27)) An cn Al cl ns ls) := Lib.hid
    ⟨hwn, (ho2.mono (by omega)).alloc _, Blk.newAt rfl, hR2.alloc _, fun b hb e => by have := (hlt2 b hb).2; omega, hC2.alloc _, only_alloc hG2 _, by omega, hgl⟩
  clear hwn hR2 hC2 hG2 hR1 hc1 hG1 hb2 ho2 hlt2
  go_wp2_with fail
  refine (below_any W0 v zs g 4 _ HRB.out hle (by omega) HST.out.cur).mono ?_
  rintro e w3 ⟨k, rfl, k0, k1, hc3, hg3⟩
  have hst := HST.out.drawn hc3 hg3
  clear HST hc3 hg3
  obtain ⟨X, hX⟩ : ∃ X, X = w2.heap.size := ⟨_, rfl⟩
  rw [← hX] at hst ⊢
  clear hX
  obtain ⟨kn, rfl⟩ : ∃ kn : Nat, k = (kn : Int) := ⟨k.toNat, by omega⟩
  go_wp2
  go_loopw [4] (fun i wr => ∃ (kn : Nat) (An : Option Addr) (cn : Nat) (Al : Option Addr) (cl : Nat) (ns ls : List Pr), i = .int .i64 kn ∧ kn ≤ 4 ∧ WSt W0 v g w X wr An cn Al cl ns ls) (fun i _ => (intOf i).toNat)
  case atStart => exact ⟨kn, An, cn, Al, cl, ns, ls, rfl, by omega, hst⟩
  case round =>
    clear hst
    obtain ⟨kn, An, cn, Al, cl, ns, ls, rfl, hk4, hst⟩ := hrel
    have HST := Lib.hid hst
    clear hst
    by_cases hk0 : kn = 0
    · subst hk0
      have hw12 := HST.out.win.2.1
      have hw1 := HST.out.win.1
      have hw20 := HST.out.win.2.2.1
      go_wp2_with fail
      refine (once_any W0 v zs g 4 _ HRB.out hle (by omega) HST.out.cur).mono ?_
      rintro e w4 ⟨bb, rfl, hc4, hg4⟩
      have HST4 := Lib.hid (HST.out.drawn hc4 hg4)
      clear HST hc4 hg4
      cases bb
      · -- as it is
        have hbxq := HST4.out.box
        have hrsq := HST4.out.res
        (have x_0 := hbxq.cell 0); (have x_1 := hbxq.cell 1); simp only [List.getElem?_toArray, List.getElem?_cons_succ, List.getElem?_cons_zero] at x_0 x_1; (have x_f0 := hbxq.frozen 0); (have x_f1 := hbxq.frozen 1)
        (have r_0 := hrsq.cell 0); (have r_1 := hrsq.cell 1); simp only [List.getElem?_toArray, List.getElem?_cons_succ, List.getElem?_cons_zero] at r_0 r_1; (have r_f0 := hrsq.frozen 0); (have r_f1 := hrsq.frozen 1)
        have hneq : ¬ X = w.heap.size := by have := HST4.out.hX; omega
        have hXlq : X < _ := hbxq.lt
        have hRlq : w.heap.size < _ := hrsq.lt
        have HO := Lib.hid ((HST4.out.own.setLow (p := ⟨w.heap.size, 0, none⟩) (show w.heap.size < w.heap.size + 1 by omega) (.slice An ns.length cn)).setLow (p := ⟨w.heap.size, 1, none⟩) (show w.heap.size < w.heap.size + 1 by omega) (.slice Al ls.length cl))
        have HCC := Lib.hid ((HST4.out.cur.far (p := ⟨w.heap.size, 0, none⟩) HST4.out.hg (.slice An ns.length cn)).far (p := ⟨w.heap.size, 1, none⟩) HST4.out.hg (.slice Al ls.length cl))
        have HG := Lib.hid (only_far (p := ⟨w.heap.size, 1, none⟩) (only_far (p := ⟨w.heap.size, 0, none⟩) HST4.out.gr (Nat.le_refl _) (.slice An ns.length cn)) (Nat.le_refl _) (.slice Al ls.length cl))
        have HW := Lib.hid HST4.out.win
        clear hbxq hrsq
        go_wp2
        exact bodyPost_ret (v := .agg #[(.slice An ns.length cn), (.slice Al ls.length cl)]) (by simp [results, Try.results45, go_sem, r_0, r_1, x_0, x_1]) rfl ⟨ns, ls, An, cn, Al, cl, rfl, HW.out, HO.out, HCC.out, HG.out⟩
      · have hbx := HST4.out.box
        have hXl := hbx.lt
        have hXw := HST4.out.hX
        have hgw := HST4.out.hg
        have hltX := HST4.out.own.lt
        (have x_0 := hbx.cell 0); (have x_1 := hbx.cell 1); simp only [List.getElem?_toArray, List.getElem?_cons_succ, List.getElem?_cons_zero] at x_0 x_1
        go_wp2_with fail
        refine (sCopy_any _ _ ns ls _ HST4.out.own.1.reads HST4.out.own.2.1.reads (by omega) (by omega)).mono ?_
        rintro e w5 ⟨An5, cn5, Al5, cl5, rfl, ho5, hb5⟩
        have hz5 := hb5.size
        have hlt5 := ho5.lt
        have HST5 := Lib.hid ((HST4.out.below hb5).alloc (.cells #[.slice An5 ns.length cn5, .slice Al5 ls.length cl5] 27))
        have HY5 : Hid (Blk (w5.alloc (.cells #[.slice An5 ns.length cn5, .slice Al5 ls.length cl5] 27)) w5.heap.size 27 #[.slice An5 ns.length cn5, .slice Al5 ls.length cl5]) := Lib.hid (Blk.newAt rfl)
        have HO5 := Lib.hid (ho5.alloc (.cells #[.slice An5 ns.length cn5, .slice Al5 ls.length cl5] 27))
        clear ho5 hb5 HST4 hbx x_0 x_1
        go_wp2_with fail
        obtain ⟨v5, hv5⟩ : ∃ v5, v5 = w5.alloc (.cells #[.slice An5 ns.length cn5, .slice Al5 ls.length cl5] 27) := ⟨_, rfl⟩
        have hs5 : v5.heap.size = w5.heap.size + 1 := by rw [hv5]; simp
        rw [← hv5] at HST5 HY5 HO5 ⊢
        clear hv5
        obtain ⟨Y, hY⟩ : ∃ Y, Y = w5.heap.size := ⟨_, rfl⟩
        rw [← hY] at HY5 hs5 ⊢
        have hY4 : w4.heap.size ≤ Y := by omega
        have hltY : ∀ b, blksW (.slice An5 ns.length cn5) (.slice Al5 ls.length cl5) b → w4.heap.size ≤ b ∧ b < Y := fun b hb => by have := hlt5 b hb; omega
        clear hlt5 hY hz5
        have hY0 := HY5.out.cell 0
        have hY1 := HY5.out.cell 1
        refine region_D (n := 7) (S := fun w' => w'.cell? ⟨Y, 0, none⟩ = some (.slice An5 ns.length cn5)) (by kernel_rfl) hY0 (fun hS => ?_)
        (refine D_take (i := 0) (v := ?_) rfl rfl (by kernel_rfl) (by kernel_rfl) (by kernel_rfl) (by kernel_rfl) (fun _ _ _ h => h) (Or.inl ⟨by rfl, ?_⟩) (by assumption) ?_); rotate_left; (focus (intro w' hSw; (try dsimp only at hSw); go_simp; (try with_reducible rfl))); (try simp only [Act.put, List.setIfInBounds_toArray, List.set_cons_zero, List.set_cons_succ])
        (refine D_take (i := 1) (v := ?_) rfl rfl (by kernel_rfl) (by kernel_rfl) (by kernel_rfl) (by kernel_rfl) (fun _ _ _ h => h) (Or.inl ⟨by rfl, ?_⟩) (by assumption) ?_); rotate_left; (focus (intro w' hSw; (try dsimp only at hSw); go_simp; (try with_reducible rfl))); (try simp only [Act.put, List.setIfInBounds_toArray, List.set_cons_zero, List.set_cons_succ])
        (refine D_take (i := 2) (v := ?_) rfl rfl (by kernel_rfl) (by kernel_rfl) (by kernel_rfl) (by kernel_rfl) (fun _ _ _ h => h) (Or.inl ⟨by rfl, ?_⟩) (by assumption) ?_); rotate_left; (focus (intro w' hSw; (try dsimp only at hSw); go_simp; (try with_reducible rfl))); (try simp only [Act.put, List.setIfInBounds_toArray, List.set_cons_zero, List.set_cons_succ])
        (refine D_step (i := 3) rfl (by kernel_rfl) (fun K hK => ?_)); (rw [if_pos (by rfl)])
        go_simp
        go_at_call 86
        refine (node_any W0 v zs g _ HRB.out hle HST5.out.drew.cur).mono ?_
        rintro e w6 ⟨nx, ny, rfl, hc6, hg6⟩
        have hz6 := hg6.size
        simp at hz6
        have HST6 := Lib.hid (HST5.out.drew.drawn hc6 hg6)
        have HY6 := Lib.hid (HY5.out.drew.grown hg6 (by omega))
        have HO6 := Lib.hid (OwnW.far (w := v5.drew) HO5.out hg6 (fun k hk => by cases hk; omega))
        clear hc6 hg6 HST5 HY5 HO5 hY0 hY1
        go_wp2_with fail
        refine hK _ _ (fun _ => HY6.out.cell 0) (fun hS' => ?_)
        clear hK K hS hS'
        (try simp only [Act.put, List.setIfInBounds_toArray, List.set_cons_zero, List.set_cons_succ])
        (refine D_step (i := 4) rfl (by kernel_rfl) (fun K hK => ?_)); (rw [if_pos (by rfl)])
        go_simp
        refine hK _ _ (fun _ => (HY6.out.alloc _).cell 0) (fun hS' => ?_)
        clear hK K hS'
        (try simp only [Act.put, List.setIfInBounds_toArray, List.set_cons_zero, List.set_cons_succ])
        (refine D_step (i := 5) rfl (by kernel_rfl) (fun K hK => ?_))
        have hw6l : Y < w6.heap.size := by omega
        refine step_append_pairs rfl _ _ _ rfl w4.heap.size 76 i0 Try.underlying24 hi iz0 iz1 iz2 (.slice An5 ns.length cn5) _ ns [(nx, ny)] rfl rfl (HO6.out.1.alloc _) (RP_lit (by simp) rfl rfl rfl (by simp [maxLen])) (by simp; omega) (by simp; omega) ?_
        intro A7 c7 w7 ho7 hg7 ha7
        have hz7 := hg7.size
        simp at hz7
        rw [show (ns ++ [(nx, ny)]).length = ns.length + 1 by simp] at ho7 ha7
        obtain ⟨N7, hN7⟩ : ∃ N7, N7 = ns ++ [(nx, ny)] := ⟨_, rfl⟩
        have hlN : N7.length = ns.length + 1 := by rw [hN7]; simp
        rw [← hN7] at ho7
        clear hN7
        have HLN := Lib.hid hlN
        clear hlN
        have HST7 := Lib.hid ((HST6.out.alloc (.cells #[.int .i64 nx, .int .i64 ny] 76)).row hg7 (fun k hk => ⟨by have := (hltY k (.inl hk)).1; omega, fun hb => by have := (hltY k (.inl hk)).1; have := (hltX k hb).2; omega⟩))
        have HY7 := Lib.hid (Blk.grownR (HY6.out.alloc (.cells #[.int .i64 nx, .int .i64 ny] 76)) hg7 (fun k hk => by have := (hltY k (.inl hk)).2; omega))
        have HL7 := Lib.hid ((HO6.out.2.1.alloc (.cells #[.int .i64 nx, .int .i64 ny] 76)).apart hg7 (fun k hk hk2 => HO6.out.2.2 k hk2 hk))
        have hd7 : ∀ k, (Value.slice A7 (ns.length + 1) c7).ownBlock = some k → (Value.slice Al5 ls.length cl5).ownBlock = some k → False := fun k hk hk2 => by
          have hlt := hltY k (.inr hk2)
          rcases ha7 with ha | ha
          · exact HO6.out.2.2 k (ha.symm.trans hk) hk2
          · rw [ha] at hk; cases hk; simp at hlt; omega
        have hY7 : ∀ k, blksW (.slice A7 (ns.length + 1) c7) (.slice Al5 ls.length cl5) k → ¬ k = Y := by
          rintro k (hk | hk) e
          · rcases ha7 with ha | ha
            · have := (hltY k (.inl (ha.symm.trans hk))).2; omega
            · rw [ha] at hk; cases hk; simp at e; omega
          · have := (hltY k (.inr hk)).2; omega
        have HO7 : Hid (OwnW w4.heap.size w7 (.slice A7 (ns.length + 1) c7) (.slice Al5 ls.length cl5) N7 ls) := Lib.hid ⟨ho7, HL7.out, hd7⟩
        clear hg7 ha7 ho7 HL7 hd7 HST6 HY6 HO6
        refine hK _ _ (fun _ => HY7.out.cell 0) (fun hS' => ?_)
        have hS7 := hS' (by decide)
        clear hK K hS'
        (try simp only [Act.put, List.setIfInBounds_toArray, List.set_cons_zero, List.set_cons_succ])
        (refine D_take (i := 6) (v := ?_) rfl rfl (by kernel_rfl) (by kernel_rfl) (by kernel_rfl) (by kernel_rfl) (fun _ _ _ h => h) (Or.inl ⟨by rfl, ?_⟩) (by assumption) ?_); rotate_left; (focus (intro w' hSw; (try dsimp only at hSw); go_simp; (try with_reducible rfl))); (try simp only [Act.put, List.setIfInBounds_toArray, List.set_cons_zero, List.set_cons_succ])
        clear hS7
        have hby := HY7.out
        (have y_0 := hby.cell 0); (have y_1 := hby.cell 1); simp only [List.getElem?_toArray, List.getElem?_cons_succ, List.getElem?_cons_zero] at y_0 y_1; (have y_f0 := hby.frozen 0); (have y_f1 := hby.frozen 1)
        (refine D_step (i := 7) rfl (by kernel_rfl) (fun K hK => ?_)); (rw [if_pos (by rfl)])
        go_simp
        have HST8 := Lib.hid (HST7.out.row (set_grown w7 ⟨Y, 0, none⟩ (.slice A7 (ns.length + 1) c7)) (fun k hk => by
          have hk' : Y = k := Option.some.inj hk
          subst hk'
          exact ⟨by omega, fun hb => by have := (hltX _ hb).2; omega⟩))
        have HY8 : Hid (Blk (w7.setCell ⟨Y, 0, none⟩ (.slice A7 (ns.length + 1) c7)) Y 27 #[.slice A7 (ns.length + 1) c7, .slice Al5 ls.length cl5]) := Lib.hid (HY7.out.set_ 0 _)
        have HO8 := Lib.hid (HO7.out.setFar (p := ⟨Y, 0, none⟩) (fun hb => hY7 _ hb rfl) (.slice A7 (ns.length + 1) c7))
        clear HST7 HY7 HO7 hby
        refine hK _ _ (fun h => absurd rfl h) (fun _ => ?_)
        clear hK K
        (try simp only [Act.put, List.setIfInBounds_toArray, List.set_cons_zero, List.set_cons_succ])
        refine D_done (by kernel_rfl) ?_ _
        obtain ⟨w8, hw8⟩ : ∃ w8, w8 = w7.setCell ⟨Y, 0, none⟩ (.slice A7 (ns.length + 1) c7) := ⟨_, rfl⟩
        rw [← hw8] at HST8 HY8 HO8 ⊢
        clear hw8 y_0 y_1 y_f0 y_f1
        obtain ⟨bw, hbw⟩ : ∃ bw, winB N7 ls = bw := ⟨_, rfl⟩
        have HBW := Lib.hid hbw
        clear hbw
        have hby := HY8.out
        (have y_0 := hby.cell 0); (have y_1 := hby.cell 1); simp only [List.getElem?_toArray, List.getElem?_cons_succ, List.getElem?_cons_zero] at y_0 y_1
        have hYl : Y < w8.heap.size := hby.lt
        go_wp2_with fail
        refine (sWinOk_at _ _ N7 ls bw _ HO8.out.1.reads HO8.out.2.1.reads HBW.out).mono ?_
        rintro e w9 ⟨rfl, hb9⟩
        have HST9 := Lib.hid (HST8.out.below hb9)
        have HY9 := Lib.hid (hby.below hb9 hYl)
        have HO9 := Lib.hid (HO8.out.kept hb9)
        clear hb9 HST8 HY8 HO8 hby y_0 y_1 hYl
        cases bw
        · -- it is not taken
          have hbxq := HST9.out.box
          have hrsq := HST9.out.res
          (have x_0 := hbxq.cell 0); (have x_1 := hbxq.cell 1); simp only [List.getElem?_toArray, List.getElem?_cons_succ, List.getElem?_cons_zero] at x_0 x_1; (have x_f0 := hbxq.frozen 0); (have x_f1 := hbxq.frozen 1)
          (have r_0 := hrsq.cell 0); (have r_1 := hrsq.cell 1); simp only [List.getElem?_toArray, List.getElem?_cons_succ, List.getElem?_cons_zero] at r_0 r_1; (have r_f0 := hrsq.frozen 0); (have r_f1 := hrsq.frozen 1)
          have hneq : ¬ X = w.heap.size := by have := HST9.out.hX; omega
          have hXlq : X < _ := hbxq.lt
          have hRlq : w.heap.size < _ := hrsq.lt
          have HO := Lib.hid ((HST9.out.own.setLow (p := ⟨w.heap.size, 0, none⟩) (show w.heap.size < w.heap.size + 1 by omega) (.slice An ns.length cn)).setLow (p := ⟨w.heap.size, 1, none⟩) (show w.heap.size < w.heap.size + 1 by omega) (.slice Al ls.length cl))
          have HCC := Lib.hid ((HST9.out.cur.far (p := ⟨w.heap.size, 0, none⟩) HST9.out.hg (.slice An ns.length cn)).far (p := ⟨w.heap.size, 1, none⟩) HST9.out.hg (.slice Al ls.length cl))
          have HG := Lib.hid (only_far (p := ⟨w.heap.size, 1, none⟩) (only_far (p := ⟨w.heap.size, 0, none⟩) HST9.out.gr (Nat.le_refl _) (.slice An ns.length cn)) (Nat.le_refl _) (.slice Al ls.length cl))
          have HW := Lib.hid HST9.out.win
          clear hbxq hrsq
          go_wp2
          exact bodyPost_ret (v := .agg #[(.slice An ns.length cn), (.slice Al ls.length cl)]) (by simp [results, Try.results45, go_sem, r_0, r_1, x_0, x_1]) rfl ⟨ns, ls, An, cn, Al, cl, rfl, HW.out, HO.out, HCC.out, HG.out⟩
        · have hby := HY9.out
          (have y_0 := hby.cell 0); (have y_1 := hby.cell 1); simp only [List.getElem?_toArray, List.getElem?_cons_succ, List.getElem?_cons_zero] at y_0 y_1
          have hYl : Y < w9.heap.size := hby.lt
          have hbx := HST9.out.box
          (have x_0 := hbx.cell 0); (have x_1 := hbx.cell 1); simp only [List.getElem?_toArray, List.getElem?_cons_succ, List.getElem?_cons_zero] at x_0 x_1; (have x_f0 := hbx.frozen 0); (have x_f1 := hbx.frozen 1)
          have hXl9 : X < w9.heap.size := hbx.lt
          have hnp : (0 : Int) < (ns.length : Int) := by omega
          have hYg : ¬ Y = g := by omega
          go_wp2_with fail
          have hS0 : w9.drew.cell? ⟨X, 0, none⟩ = some (.slice An ns.length cn) ∧ w9.drew.cell? ⟨Y, 0, none⟩ = some (.slice A7 (ns.length + 1) c7) ∧ w9.drew.cell? ⟨Y, 1, none⟩ = some (.slice Al5 ls.length cl5) := ⟨x_0, y_0, y_1⟩
          refine region_E (n := 13) (S := fun w' => w'.cell? ⟨X, 0, none⟩ = some (.slice An ns.length cn) ∧ w'.cell? ⟨Y, 0, none⟩ = some (.slice A7 (ns.length + 1) c7) ∧ w'.cell? ⟨Y, 1, none⟩ = some (.slice Al5 ls.length cl5)) (by kernel_rfl) hS0 (fun hS => ?_)
          (refine E_take (i := 0) (v := ?_) rfl rfl (by kernel_rfl) (by kernel_rfl) (by kernel_rfl) (by kernel_rfl) (by kernel_rfl) (fun _ _ _ h => h) (Or.inl ⟨by rfl, ?_⟩) (by assumption) ?_); rotate_left; (focus (intro w' hSw; (try dsimp only at hSw); go_simp; (try with_reducible rfl))); (try simp only [Act.put, List.setIfInBounds_toArray, List.set_cons_zero, List.set_cons_succ])
          (refine E_take (i := 1) (v := ?_) rfl rfl (by kernel_rfl) (by kernel_rfl) (by kernel_rfl) (by kernel_rfl) (by kernel_rfl) (fun _ _ _ h => h) (Or.inl ⟨by rfl, ?_⟩) (by assumption) ?_); rotate_left; (focus (intro w' hSw; (try dsimp only at hSw); go_simp; (try with_reducible rfl))); (try simp only [Act.put, List.setIfInBounds_toArray, List.set_cons_zero, List.set_cons_succ])
          (refine E_take (i := 2) (v := ?_) rfl rfl (by kernel_rfl) (by kernel_rfl) (by kernel_rfl) (by kernel_rfl) (by kernel_rfl) (fun _ _ _ h => h) (Or.inl ⟨by rfl, ?_⟩) (by assumption) ?_); rotate_left; (focus (intro w' hSw; (try dsimp only at hSw); go_simp; (try with_reducible rfl))); (try simp only [Act.put, List.setIfInBounds_toArray, List.set_cons_zero, List.set_cons_succ])
          (refine E_take (i := 3) (v := ?_) rfl rfl (by kernel_rfl) (by kernel_rfl) (by kernel_rfl) (by kernel_rfl) (by kernel_rfl) (fun _ _ _ h => h) (Or.inl ⟨by rfl, ?_⟩) (by assumption) ?_); rotate_left; (focus (intro w' hSw; (try dsimp only at hSw); go_simp; (try with_reducible rfl))); (try simp only [Act.put, List.setIfInBounds_toArray, List.set_cons_zero, List.set_cons_succ])
          (refine E_take (i := 4) (v := ?_) rfl rfl (by kernel_rfl) (by kernel_rfl) (by kernel_rfl) (by kernel_rfl) (by kernel_rfl) (fun _ _ _ h => h) (Or.inl ⟨by rfl, ?_⟩) (by assumption) ?_); rotate_left; (focus (intro w' hSw; (try dsimp only at hSw); go_simp; (try with_reducible rfl))); (try simp only [Act.put, List.setIfInBounds_toArray, List.set_cons_zero, List.set_cons_succ])
          (refine E_take (i := 6) (v := ?_) rfl rfl (by kernel_rfl) (by kernel_rfl) (by kernel_rfl) (by kernel_rfl) (by kernel_rfl) (fun _ _ _ h => h) (Or.inl ⟨by rfl, ?_⟩) (by assumption) ?_); rotate_left; (focus (intro w' hSw; (try dsimp only at hSw); go_simp; (try with_reducible rfl))); (try simp only [Act.put, List.setIfInBounds_toArray, List.set_cons_zero, List.set_cons_succ])
          (refine E_take (i := 7) (v := ?_) rfl rfl (by kernel_rfl) (by kernel_rfl) (by kernel_rfl) (by kernel_rfl) (by kernel_rfl) (fun _ _ _ h => h) (Or.inl ⟨by rfl, ?_⟩) (by assumption) ?_); rotate_left; (focus (intro w' hSw; (try dsimp only at hSw); go_simp; (try with_reducible rfl))); (try simp only [Act.put, List.setIfInBounds_toArray, List.set_cons_zero, List.set_cons_succ])
          (refine E_take (i := 8) (v := ?_) rfl rfl (by kernel_rfl) (by kernel_rfl) (by kernel_rfl) (by kernel_rfl) (by kernel_rfl) (fun _ _ _ h => h) (Or.inl ⟨by rfl, ?_⟩) (by assumption) ?_); rotate_left; (focus (intro w' hSw; (try dsimp only at hSw); go_simp; (try with_reducible rfl))); (try simp only [Act.put, List.setIfInBounds_toArray, List.set_cons_zero, List.set_cons_succ])
          (refine E_step (i := 5) rfl (by kernel_rfl) (fun K hK => ?_)); (rw [if_pos (by rfl)])
          go_simp
          go_at_call 84
          refine (below_any W0 v zs g _ _ HRB.out hle hnp HST9.out.drew.cur).mono ?_
          rintro e wa ⟨z, rfl, z0, z1, hca, hga⟩
          have HSTa := Lib.hid (HST9.out.drew.drawn hca hga)
          have HYa := Lib.hid (HY9.out.drew.grown hga hYg)
          have HOa := Lib.hid (OwnW.far (w := w9.drew) HO9.out hga (fun k hk => by cases hk; omega))
          clear hca hga
          go_wp2_with fail
          refine hK _ _ (fun _ => ⟨HSTa.out.box.cell 0, HYa.out.cell 0, HYa.out.cell 1⟩) (fun hS' => ?_)
          have hSa := hS' (by kernel_rfl)
          clear hK K hS hS'
          (try simp only [Act.put, List.setIfInBounds_toArray, List.set_cons_zero, List.set_cons_succ])
          (refine E_step (i := 9) rfl (by kernel_rfl) (fun K hK => ?_)); (rw [if_pos (by rfl)])
          go_simp
          go_at_call 65
          refine (sAdd_any _ _ N7 ls _ _ _ HOa.out.1.reads HOa.out.2.1.reads (by have := HLN.out; omega) (by omega)).mono ?_
          rintro e wb ⟨Anb, cnb, Alb, clb, rfl, hob, hbb⟩
          have HSTb := Lib.hid (HSTa.out.below hbb)
          have HYb := Lib.hid (HYa.out.below hbb HYa.out.lt)
          have HP := Lib.hid (HSTb.out.put (win_addL (winB_true.1 HBW.out) z ns.length) rfl rfl hob HSTa.out.box.lt)
          clear hbb hob
          go_wp2_with fail
          refine hK _ _ (fun _ => ⟨HSTb.out.box.cell 0, HYb.out.cell 0, HYb.out.cell 1⟩) (fun hS' => ?_)
          have hSb := hS' (by kernel_rfl)
          clear hK K hSa hS'
          (try simp only [Act.put, List.setIfInBounds_toArray, List.set_cons_zero, List.set_cons_succ])
          (refine E_take (i := 10) (v := ?_) rfl rfl (by kernel_rfl) (by kernel_rfl) (by kernel_rfl) (by kernel_rfl) (by kernel_rfl) (fun _ _ _ h => h) (Or.inl ⟨by rfl, ?_⟩) (by assumption) ?_); rotate_left; (focus (intro w' hSw; (try dsimp only at hSw); go_simp; (try with_reducible rfl))); (try simp only [Act.put, List.setIfInBounds_toArray, List.set_cons_zero, List.set_cons_succ])
          (refine E_take (i := 11) (v := ?_) rfl rfl (by kernel_rfl) (by kernel_rfl) (by kernel_rfl) (by kernel_rfl) (by kernel_rfl) (fun _ _ _ h => h) (Or.inl ⟨by rfl, ?_⟩) (by assumption) ?_); rotate_left; (focus (intro w' hSw; (try dsimp only at hSw); go_simp; (try with_reducible rfl))); (try simp only [Act.put, List.setIfInBounds_toArray, List.set_cons_zero, List.set_cons_succ])
          (refine E_take0 (i := 12) (v := ?_) rfl (by decide) (by kernel_rfl) (by kernel_rfl) (by kernel_rfl) (fun _ _ _ h => h) (Or.inl ⟨by rfl, ?_⟩) (by assumption) ?_); rotate_left; (focus (intro w' hSw; (try dsimp only at hSw); go_simp; (try with_reducible rfl))); (try simp only [Act.put, List.setIfInBounds_toArray, List.set_cons_zero, List.set_cons_succ])
          have hbxb := HSTb.out.box
          clear x_0 x_1 x_f0 x_f1 y_0 y_1
          (have x_0 := hbxb.cell 0); (have x_1 := hbxb.cell 1); simp only [List.getElem?_toArray, List.getElem?_cons_succ, List.getElem?_cons_zero] at x_0 x_1; (have x_f0 := hbxb.frozen 0); (have x_f1 := hbxb.frozen 1)
          (refine E_step (i := 13) rfl (by kernel_rfl) (fun K hK => ?_)); (rw [if_pos (by rfl)])
          go_simp
          refine hK _ _ (fun h => by cases h) (fun _ => ?_)
          clear hK K hSb
          (try simp only [Act.put, List.setIfInBounds_toArray, List.set_cons_zero, List.set_cons_succ])
          refine E_done (by kernel_rfl) ?_ _
          clear x_0 x_1 x_f0 x_f1 hbxb hbx hS0
          generalize addL N7 ls z ns.length = L' at *
          obtain ⟨wc, hwc⟩ : ∃ wc, wc = (wb.setCell ⟨X, 0, none⟩ (.slice Anb N7.length cnb)).setCell ⟨X, 1, none⟩ (.slice Alb L'.length clb) := ⟨_, rfl⟩
          rw [← hwc] at HP ⊢
          clear hwc
          have hbxq := HP.out.box
          have hrsq := HP.out.res
          (have x_0 := hbxq.cell 0); (have x_1 := hbxq.cell 1); simp only [List.getElem?_toArray, List.getElem?_cons_succ, List.getElem?_cons_zero] at x_0 x_1; (have x_f0 := hbxq.frozen 0); (have x_f1 := hbxq.frozen 1)
          (have r_0 := hrsq.cell 0); (have r_1 := hrsq.cell 1); simp only [List.getElem?_toArray, List.getElem?_cons_succ, List.getElem?_cons_zero] at r_0 r_1; (have r_f0 := hrsq.frozen 0); (have r_f1 := hrsq.frozen 1)
          have hneq : ¬ X = w.heap.size := by have := HP.out.hX; omega
          have hXlq : X < _ := hbxq.lt
          have hRlq : w.heap.size < _ := hrsq.lt
          have HO := Lib.hid ((HP.out.own.setLow (p := ⟨w.heap.size, 0, none⟩) (show w.heap.size < w.heap.size + 1 by omega) (.slice Anb N7.length cnb)).setLow (p := ⟨w.heap.size, 1, none⟩) (show w.heap.size < w.heap.size + 1 by omega) (.slice Alb L'.length clb))
          have HCC := Lib.hid ((HP.out.cur.far (p := ⟨w.heap.size, 0, none⟩) HP.out.hg (.slice Anb N7.length cnb)).far (p := ⟨w.heap.size, 1, none⟩) HP.out.hg (.slice Alb L'.length clb))
          have HG := Lib.hid (only_far (p := ⟨w.heap.size, 1, none⟩) (only_far (p := ⟨w.heap.size, 0, none⟩) HP.out.gr (Nat.le_refl _) (.slice Anb N7.length cnb)) (Nat.le_refl _) (.slice Alb L'.length clb))
          have HW := Lib.hid HP.out.win
          clear hbxq hrsq
          go_wp2
          exact bodyPost_ret (v := .agg #[(.slice Anb N7.length cnb), (.slice Alb L'.length clb)]) (by simp [results, Try.results45, go_sem, r_0, r_1, x_0, x_1]) rfl ⟨N7, L', Anb, cnb, Alb, clb, rfl, HW.out, HO.out, HCC.out, HG.out⟩
    · have hkp : (0 : Int) < (kn : Int) := by omega
      go_wp2_with fail
      refine (once_any W0 v zs g 2 _ HRB.out hle (by omega) HST.out.cur).mono ?_
      rintro e w4 ⟨bb, rfl, hc4, hg4⟩
      have HST4 := Lib.hid (HST.out.drawn hc4 hg4)
      clear HST hc4 hg4
      have hbx := HST4.out.box
      have hXl := hbx.lt
      have hw12 := HST4.out.win.2.1
      have hw1 := HST4.out.win.1
      have hw20 := HST4.out.win.2.2.1
      (have x_0 := hbx.cell 0); (have x_1 := hbx.cell 1); simp only [List.getElem?_toArray, List.getElem?_cons_succ, List.getElem?_cons_zero] at x_0 x_1; (have x_f0 := hbx.frozen 0); (have x_f1 := hbx.frozen 1)
      have hgX : ¬ g = X := by have := HST4.out.hX; omega
      cases bb
      · go_wp2_with fail
        have hS0 := And.intro x_0 x_1
        have hnp : (0 : Int) < (ns.length : Int) := by omega
        refine region_E (n := 15) (S := fun w' => w'.cell? ⟨X, 0, none⟩ = some (.slice An ns.length cn) ∧ w'.cell? ⟨X, 1, none⟩ = some (.slice Al ls.length cl)) (by kernel_rfl) hS0 (fun hS => ?_)
        (refine E_take (i := 0) (v := ?_) rfl rfl (by kernel_rfl) (by kernel_rfl) (by kernel_rfl) (by kernel_rfl) (by kernel_rfl) (fun _ _ _ h => h) (Or.inl ⟨by rfl, ?_⟩) (by assumption) ?_); rotate_left; (focus (intro w' hSw; (try dsimp only at hSw); go_simp; (try with_reducible rfl))); (try simp only [Act.put, List.setIfInBounds_toArray, List.set_cons_zero, List.set_cons_succ])
        (refine E_take (i := 1) (v := ?_) rfl rfl (by kernel_rfl) (by kernel_rfl) (by kernel_rfl) (by kernel_rfl) (by kernel_rfl) (fun _ _ _ h => h) (Or.inl ⟨by rfl, ?_⟩) (by assumption) ?_); rotate_left; (focus (intro w' hSw; (try dsimp only at hSw); go_simp; (try with_reducible rfl))); (try simp only [Act.put, List.setIfInBounds_toArray, List.set_cons_zero, List.set_cons_succ])
        (refine E_take (i := 2) (v := ?_) rfl rfl (by kernel_rfl) (by kernel_rfl) (by kernel_rfl) (by kernel_rfl) (by kernel_rfl) (fun _ _ _ h => h) (Or.inl ⟨by rfl, ?_⟩) (by assumption) ?_); rotate_left; (focus (intro w' hSw; (try dsimp only at hSw); go_simp; (try with_reducible rfl))); (try simp only [Act.put, List.setIfInBounds_toArray, List.set_cons_zero, List.set_cons_succ])
        (refine E_take (i := 3) (v := ?_) rfl rfl (by kernel_rfl) (by kernel_rfl) (by kernel_rfl) (by kernel_rfl) (by kernel_rfl) (fun _ _ _ h => h) (Or.inl ⟨by rfl, ?_⟩) (by assumption) ?_); rotate_left; (focus (intro w' hSw; (try dsimp only at hSw); go_simp; (try with_reducible rfl))); (try simp only [Act.put, List.setIfInBounds_toArray, List.set_cons_zero, List.set_cons_succ])
        (refine E_take (i := 4) (v := ?_) rfl rfl (by kernel_rfl) (by kernel_rfl) (by kernel_rfl) (by kernel_rfl) (by kernel_rfl) (fun _ _ _ h => h) (Or.inl ⟨by rfl, ?_⟩) (by assumption) ?_); rotate_left; (focus (intro w' hSw; (try dsimp only at hSw); go_simp; (try with_reducible rfl))); (try simp only [Act.put, List.setIfInBounds_toArray, List.set_cons_zero, List.set_cons_succ])
        (refine E_take (i := 6) (v := ?_) rfl rfl (by kernel_rfl) (by kernel_rfl) (by kernel_rfl) (by kernel_rfl) (by kernel_rfl) (fun _ _ _ h => h) (Or.inl ⟨by rfl, ?_⟩) (by assumption) ?_); rotate_left; (focus (intro w' hSw; (try dsimp only at hSw); go_simp; (try with_reducible rfl))); (try simp only [Act.put, List.setIfInBounds_toArray, List.set_cons_zero, List.set_cons_succ])
        (refine E_take (i := 7) (v := ?_) rfl rfl (by kernel_rfl) (by kernel_rfl) (by kernel_rfl) (by kernel_rfl) (by kernel_rfl) (fun _ _ _ h => h) (Or.inl ⟨by rfl, ?_⟩) (by assumption) ?_); rotate_left; (focus (intro w' hSw; (try dsimp only at hSw); go_simp; (try with_reducible rfl))); (try simp only [Act.put, List.setIfInBounds_toArray, List.set_cons_zero, List.set_cons_succ])
        (refine E_take (i := 8) (v := ?_) rfl rfl (by kernel_rfl) (by kernel_rfl) (by kernel_rfl) (by kernel_rfl) (by kernel_rfl) (fun _ _ _ h => h) (Or.inl ⟨by rfl, ?_⟩) (by assumption) ?_); rotate_left; (focus (intro w' hSw; (try dsimp only at hSw); go_simp; (try with_reducible rfl))); (try simp only [Act.put, List.setIfInBounds_toArray, List.set_cons_zero, List.set_cons_succ])
        (refine E_take (i := 9) (v := ?_) rfl rfl (by kernel_rfl) (by kernel_rfl) (by kernel_rfl) (by kernel_rfl) (by kernel_rfl) (fun _ _ _ h => h) (Or.inl ⟨by rfl, ?_⟩) (by assumption) ?_); rotate_left; (focus (intro w' hSw; (try dsimp only at hSw); go_simp; (try with_reducible rfl))); (try simp only [Act.put, List.setIfInBounds_toArray, List.set_cons_zero, List.set_cons_succ])
        (refine E_step (i := 5) rfl (by kernel_rfl) (fun K hK => ?_)); (rw [if_pos (by rfl)])
        go_simp
        go_at_call 84
        refine (below_any W0 v zs g _ _ HRB.out hle hnp HST4.out.drew.cur).mono ?_
        rintro e w5 ⟨y, rfl, y0, y1, hc5, hg5⟩
        have HST5 := Lib.hid (HST4.out.drew.drawn hc5 hg5)
        clear hc5 hg5
        go_wp2_with fail
        refine hK _ _ (fun _ => ⟨HST5.out.box.cell 0, HST5.out.box.cell 1⟩) (fun hS' => ?_)
        have hS5 := hS' (by kernel_rfl)
        clear hK K hS hS'
        (try simp only [Act.put, List.setIfInBounds_toArray, List.set_cons_zero, List.set_cons_succ])
        (refine E_step (i := 10) rfl (by kernel_rfl) (fun K hK => ?_)); (rw [if_pos (by rfl)])
        go_simp
        go_at_call 84
        refine (below_any W0 v zs g _ _ HRB.out hle hnp HST5.out.cur).mono ?_
        rintro e w6 ⟨z, rfl, z0, z1, hc6, hg6⟩
        have HST6 := Lib.hid (HST5.out.drawn hc6 hg6)
        clear hc6 hg6
        go_wp2_with fail
        refine hK _ _ (fun _ => ⟨HST6.out.box.cell 0, HST6.out.box.cell 1⟩) (fun hS' => ?_)
        have hS6 := hS' (by kernel_rfl)
        clear hK K hS5 hS'
        (try simp only [Act.put, List.setIfInBounds_toArray, List.set_cons_zero, List.set_cons_succ])
        (refine E_step (i := 11) rfl (by kernel_rfl) (fun K hK => ?_)); (rw [if_pos (by rfl)])
        go_simp
        go_at_call 65
        refine (sAdd_any _ _ ns ls _ _ _ HST6.out.own.1.reads HST6.out.own.2.1.reads (by omega) (by omega)).mono ?_
        rintro e w7 ⟨An7, cn7, Al7, cl7, rfl, ho7, hb7⟩
        have HST7 := Lib.hid (HST6.out.below hb7)
        have HP := Lib.hid (HST7.out.put (win_addL HST7.out.win y z) rfl rfl ho7 HST6.out.box.lt)
        clear hb7 ho7
        go_wp2_with fail
        refine hK _ _ (fun _ => ⟨HST7.out.box.cell 0, HST7.out.box.cell 1⟩) (fun hS' => ?_)
        have hS7 := hS' (by kernel_rfl)
        clear hK K hS6 hS'
        (try simp only [Act.put, List.setIfInBounds_toArray, List.set_cons_zero, List.set_cons_succ])
        (refine E_take (i := 12) (v := ?_) rfl rfl (by kernel_rfl) (by kernel_rfl) (by kernel_rfl) (by kernel_rfl) (by kernel_rfl) (fun _ _ _ h => h) (Or.inl ⟨by rfl, ?_⟩) (by assumption) ?_); rotate_left; (focus (intro w' hSw; (try dsimp only at hSw); go_simp; (try with_reducible rfl))); (try simp only [Act.put, List.setIfInBounds_toArray, List.set_cons_zero, List.set_cons_succ])
        (refine E_take (i := 13) (v := ?_) rfl rfl (by kernel_rfl) (by kernel_rfl) (by kernel_rfl) (by kernel_rfl) (by kernel_rfl) (fun _ _ _ h => h) (Or.inl ⟨by rfl, ?_⟩) (by assumption) ?_); rotate_left; (focus (intro w' hSw; (try dsimp only at hSw); go_simp; (try with_reducible rfl))); (try simp only [Act.put, List.setIfInBounds_toArray, List.set_cons_zero, List.set_cons_succ])
        (refine E_take0 (i := 14) (v := ?_) rfl (by decide) (by kernel_rfl) (by kernel_rfl) (by kernel_rfl) (fun _ _ _ h => h) (Or.inl ⟨by rfl, ?_⟩) (by assumption) ?_); rotate_left; (focus (intro w' hSw; (try dsimp only at hSw); go_simp; (try with_reducible rfl))); (try simp only [Act.put, List.setIfInBounds_toArray, List.set_cons_zero, List.set_cons_succ])
        have hbx7 := HST7.out.box
        clear x_0 x_1 x_f0 x_f1
        (have x_0 := hbx7.cell 0); (have x_1 := hbx7.cell 1); simp only [List.getElem?_toArray, List.getElem?_cons_succ, List.getElem?_cons_zero] at x_0 x_1; (have x_f0 := hbx7.frozen 0); (have x_f1 := hbx7.frozen 1)
        (refine E_step (i := 15) rfl (by kernel_rfl) (fun K hK => ?_)); (rw [if_pos (by rfl)])
        go_simp
        refine hK _ _ (fun h => by cases h) (fun _ => ?_)
        clear hK K hS7
        (try simp only [Act.put, List.setIfInBounds_toArray, List.set_cons_zero, List.set_cons_succ])
        refine E_done (by kernel_rfl) ?_ _
        clear x_0 x_1 x_f0 x_f1 hbx7 hbx hXl hS0
        generalize addL ns ls y z = L' at *
        go_wp2
        go_roundw
        case rel => exact ⟨kn - 1, An7, cn7, Al7, cl7, ns, L', by congr 1; omega, by omega, HP.out⟩
        case measure => simp [intOf]; omega
      · go_wp2_with fail
        have hS0 := And.intro x_0 x_1
        have hmx : 0 < mx2 1 (ls.length : Int) := by rw [mx2_eq]; omega
        refine region_E (n := 11) (S := fun w' => w'.cell? ⟨X, 0, none⟩ = some (.slice An ns.length cn) ∧ w'.cell? ⟨X, 1, none⟩ = some (.slice Al ls.length cl)) (by kernel_rfl) hS0 (fun hS => ?_)
        (refine E_take (i := 0) (v := ?_) rfl rfl (by kernel_rfl) (by kernel_rfl) (by kernel_rfl) (by kernel_rfl) (by kernel_rfl) (fun _ _ _ h => h) (Or.inl ⟨by rfl, ?_⟩) (by assumption) ?_); rotate_left; (focus (intro w' hSw; (try dsimp only at hSw); go_simp; (try with_reducible rfl))); (try simp only [Act.put, List.setIfInBounds_toArray, List.set_cons_zero, List.set_cons_succ])
        (refine E_take (i := 1) (v := ?_) rfl rfl (by kernel_rfl) (by kernel_rfl) (by kernel_rfl) (by kernel_rfl) (by kernel_rfl) (fun _ _ _ h => h) (Or.inl ⟨by rfl, ?_⟩) (by assumption) ?_); rotate_left; (focus (intro w' hSw; (try dsimp only at hSw); go_simp; (try with_reducible rfl))); (try simp only [Act.put, List.setIfInBounds_toArray, List.set_cons_zero, List.set_cons_succ])
        (refine E_take (i := 2) (v := ?_) rfl rfl (by kernel_rfl) (by kernel_rfl) (by kernel_rfl) (by kernel_rfl) (by kernel_rfl) (fun _ _ _ h => h) (Or.inl ⟨by rfl, ?_⟩) (by assumption) ?_); rotate_left; (focus (intro w' hSw; (try dsimp only at hSw); go_simp; (try with_reducible rfl))); (try simp only [Act.put, List.setIfInBounds_toArray, List.set_cons_zero, List.set_cons_succ])
        (refine E_take (i := 3) (v := ?_) rfl rfl (by kernel_rfl) (by kernel_rfl) (by kernel_rfl) (by kernel_rfl) (by kernel_rfl) (fun _ _ _ h => h) (Or.inl ⟨by rfl, ?_⟩) (by assumption) ?_); rotate_left; (focus (intro w' hSw; (try dsimp only at hSw); go_simp; (try with_reducible rfl))); (try simp only [Act.put, List.setIfInBounds_toArray, List.set_cons_zero, List.set_cons_succ])
        (refine E_take (i := 4) (v := ?_) rfl rfl (by kernel_rfl) (by kernel_rfl) (by kernel_rfl) (by kernel_rfl) (by kernel_rfl) (fun _ _ _ h => h) (Or.inl ⟨by rfl, ?_⟩) (by assumption) ?_); rotate_left; (focus (intro w' hSw; (try dsimp only at hSw); go_simp; (try with_reducible rfl))); (try simp only [Act.put, List.setIfInBounds_toArray, List.set_cons_zero, List.set_cons_succ])
        (refine E_take (i := 5) (v := ?_) rfl rfl (by kernel_rfl) (by kernel_rfl) (by kernel_rfl) (by kernel_rfl) (by kernel_rfl) (fun _ _ _ h => h) (Or.inl ⟨by rfl, ?_⟩) (by assumption) ?_); rotate_left; (focus (intro w' hSw; (try dsimp only at hSw); go_simp; (try with_reducible rfl))); (try simp only [Act.put, List.setIfInBounds_toArray, List.set_cons_zero, List.set_cons_succ])
        (refine E_step (i := 6) rfl (by kernel_rfl) (fun K hK => ?_)); (rw [if_pos (by rfl)])
        go_simp
        go_at_call 84
        refine (below_any W0 v zs g _ _ HRB.out hle hmx HST4.out.drew.cur).mono ?_
        rintro e w5 ⟨y, rfl, y0, y1, hc5, hg5⟩
        have HST5 := Lib.hid (HST4.out.drew.drawn hc5 hg5)
        clear hc5 hg5
        go_wp2_with fail
        refine hK _ _ (fun _ => ⟨HST5.out.box.cell 0, HST5.out.box.cell 1⟩) (fun hS' => ?_)
        have hS5 := hS' (by kernel_rfl)
        clear hK K hS hS'
        (try simp only [Act.put, List.setIfInBounds_toArray, List.set_cons_zero, List.set_cons_succ])
        (refine E_step (i := 7) rfl (by kernel_rfl) (fun K hK => ?_)); (rw [if_pos (by rfl)])
        go_simp
        go_at_call 66
        refine (sDrop_any _ _ ns ls _ _ HST5.out.own.1.reads HST5.out.own.2.1.reads (by omega) (by omega)).mono ?_
        rintro e w6 ⟨An6, cn6, Al6, cl6, rfl, ho6, hb6⟩
        have HST6 := Lib.hid (HST5.out.below hb6)
        have HP := Lib.hid (HST6.out.put (win_dropL HST6.out.win y) rfl rfl ho6 HST5.out.box.lt)
        clear hb6 ho6
        go_wp2_with fail
        refine hK _ _ (fun _ => ⟨HST6.out.box.cell 0, HST6.out.box.cell 1⟩) (fun hS' => ?_)
        have hS6 := hS' (by kernel_rfl)
        clear hK K hS5 hS'
        (try simp only [Act.put, List.setIfInBounds_toArray, List.set_cons_zero, List.set_cons_succ])
        (refine E_take (i := 8) (v := ?_) rfl rfl (by kernel_rfl) (by kernel_rfl) (by kernel_rfl) (by kernel_rfl) (by kernel_rfl) (fun _ _ _ h => h) (Or.inl ⟨by rfl, ?_⟩) (by assumption) ?_); rotate_left; (focus (intro w' hSw; (try dsimp only at hSw); go_simp; (try with_reducible rfl))); (try simp only [Act.put, List.setIfInBounds_toArray, List.set_cons_zero, List.set_cons_succ])
        (refine E_take (i := 9) (v := ?_) rfl rfl (by kernel_rfl) (by kernel_rfl) (by kernel_rfl) (by kernel_rfl) (by kernel_rfl) (fun _ _ _ h => h) (Or.inl ⟨by rfl, ?_⟩) (by assumption) ?_); rotate_left; (focus (intro w' hSw; (try dsimp only at hSw); go_simp; (try with_reducible rfl))); (try simp only [Act.put, List.setIfInBounds_toArray, List.set_cons_zero, List.set_cons_succ])
        (refine E_take0 (i := 10) (v := ?_) rfl (by decide) (by kernel_rfl) (by kernel_rfl) (by kernel_rfl) (fun _ _ _ h => h) (Or.inl ⟨by rfl, ?_⟩) (by assumption) ?_); rotate_left; (focus (intro w' hSw; (try dsimp only at hSw); go_simp; (try with_reducible rfl))); (try simp only [Act.put, List.setIfInBounds_toArray, List.set_cons_zero, List.set_cons_succ])
        have hbx6 := HST6.out.box
        clear x_0 x_1 x_f0 x_f1
        (have x_0 := hbx6.cell 0); (have x_1 := hbx6.cell 1); simp only [List.getElem?_toArray, List.getElem?_cons_succ, List.getElem?_cons_zero] at x_0 x_1; (have x_f0 := hbx6.frozen 0); (have x_f1 := hbx6.frozen 1)
        (refine E_step (i := 11) rfl (by kernel_rfl) (fun K hK => ?_)); (rw [if_pos (by rfl)])
        go_simp
        refine hK _ _ (fun h => by cases h) (fun _ => ?_)
        clear hK K hS6
        (try simp only [Act.put, List.setIfInBounds_toArray, List.set_cons_zero, List.set_cons_succ])
        refine E_done (by kernel_rfl) ?_ _
        clear x_0 x_1 x_f0 x_f1 hbx6 hbx hXl hS0
        generalize dropL ns ls y = L' at *
        go_wp2
        go_roundw
        case rel => exact ⟨kn - 1, An6, cn6, Al6, cl6, ns, L', by congr 1; omega, by omega, HP.out⟩
        case measure => simp [intOf]; omega

end Go.Proofs.Ytnpdincjekelaaa

namespace Go.Proofs.Ytnpdincjekelaaa
open Go.RowKit

attribute [local go_sem ↓] run_eqNode run_neNode run_mn2 run_mx2

set_option maxHeartbeats 8000000 in
set_option maxRecDepth 100000 in
theorem sMiddle_any (vn vl : Value) (ns ls : List Pr) (k : Nat) (w : World) (hn : RP w vn ns) (hl : RP w vl ls) (hw : WinOk ns ls) (hk : k < ls.length) :
    Calls Try.prog 125 #[.agg #[vn, vl], .int .i64 k] w fun e w' => (∃ x y : Int, e = .returned (.agg #[.int .i64 x, .int .i64 y])) ∧ Below w.heap.size w w' := by
  obtain ⟨An, cn, rfl, hcn, hmn, hcelln⟩ := hn.formI
  obtain ⟨Al, cl, rfl, hcl, hml, hcelll⟩ := hl.formI
  unfold maxLen at hmn hml
  have hn12 := hw.2.1
  have hn1 := hw.1
  have hl20 := hw.2.2.1
  obtain ⟨p1, p2, p3, c1, c2, _⟩ := leadB_iff.1 (hw.2.2.2.2.2 k hk).1
  obtain ⟨p, hp⟩ : ∃ p : Nat, (ndI ls k).1 = p := ⟨(ndI ls k).1.toNat, by omega⟩
  obtain ⟨q, hq⟩ : ∃ q : Nat, (ndI ls k).2 = q := ⟨(ndI ls k).2.toNat, by omega⟩
  obtain ⟨bn, offn, rfl, hbn, hccn⟩ := hcelln (by omega)
  obtain ⟨bl, offl, rfl, hbl, hccl⟩ := hcelll (by omega)
  obtain ⟨l0, l1⟩ := hccl k hk
  obtain ⟨a0, a1⟩ := hccn p (by omega)
  obtain ⟨b0, b1⟩ := hccn q (by omega)
  rw [hp] at l0 c1
  rw [hq] at l1 c2
  obtain ⟨d0, d1, d2, d3⟩ := nodeB_bd (x := (ndI ns (p : Int)).1) (y := (ndI ns (p : Int)).2) c1
  obtain ⟨e0, e1, e2, e3⟩ := nodeB_bd (x := (ndI ns (q : Int)).1) (y := (ndI ns (q : Int)).2) c2
  generalize (ndI ns (p : Int)).1 = x0 at *
  generalize (ndI ns (p : Int)).2 = y0 at *
  generalize (ndI ns (q : Int)).1 = x1 at *
  generalize (ndI ns (q : Int)).2 = y1 at *
  have ip0 : (0 : Int) ≤ (p : Int) := by omega
  have ip1 : (p : Int) < (ns.length : Int) := by omega
  have iq0 : (0 : Int) ≤ (q : Int) := by omega
  have iq1 : (q : Int) < (ns.length : Int) := by omega
  have ik0 : (0 : Int) ≤ (k : Int) := by omega
  have ik1 : (k : Int) < (ls.length : Int) := by omega
  clear hw hcelln hcelll hccl hccn hp hq p1 p2 p3 c1 c2
  go_enter Try.func125, Try.ntmps125
  go_upto_region 1 with (fail)
  obtain ⟨w1, hw1⟩ : ∃ v, v = (w.alloc (.cells #[.slice (some ⟨bn, offn, none⟩) ns.length cn, .slice (some ⟨bl, offl, none⟩) ls.length cl] 27)).alloc (.cells #[.int .i64 0, .int .i64 0] 76) := ⟨_, rfl⟩
  have hA1 : Blk w1 w.heap.size 27 #[.slice (some ⟨bn, offn, none⟩) ns.length cn, .slice (some ⟨bl, offl, none⟩) ls.length cl] := hw1 ▸ (Blk.newAt rfl).alloc _
  have hR1 : Blk w1 (w.heap.size + 1) 76 #[.int .i64 0, .int .i64 0] := hw1 ▸ Blk.newAt (by simp)
  have hb1 : Below w.heap.size w w1 := hw1 ▸ by (repeat' (first | (with_reducible exact Below.refl _ _) | (with_reducible assumption) | (with_reducible refine Below.drew ?_) | (with_reducible refine below_drewN ?_ _) | (with_reducible refine Below.alloc ?_ ?_ _) | (with_reducible refine Below.setCell ?_ ?_ _) | (with_reducible refine Below.step (by assumption) ?_ ?_))); all_goals (first | omega | (simp; done) | (simp; omega))
  have hs1 : w1.heap.size = w.heap.size + 1 + 1 := by rw [hw1]; simp
  rw [← hw1]
  clear hw1
  have m0 := (hb1.cell (p := ⟨bl, offl + k * 2, none⟩) hbl).trans l0
  have m1 := (hb1.cell (p := ⟨bn, offn + p * 2, none⟩) hbn).trans a0
  have m2 := (hb1.cell (p := ⟨bn, offn + p * 2 + 1, none⟩) hbn).trans a1
  refine region_D (n := 11) (S := fun w' => w'.cell? ⟨w.heap.size, 0, none⟩ = some (.slice (some ⟨bn, offn, none⟩) ns.length cn) ∧ w'.cell? ⟨w.heap.size, 1, none⟩ = some (.slice (some ⟨bl, offl, none⟩) ls.length cl) ∧
    w'.cell? ⟨bl, offl + k * 2, none⟩ = some (.int .i64 (p : Int)) ∧ w'.cell? ⟨bn, offn + p * 2, none⟩ = some (.int .i64 x0) ∧ w'.cell? ⟨bn, offn + p * 2 + 1, none⟩ = some (.int .i64 y0)) (by kernel_rfl) ⟨hA1.cell 0, hA1.cell 1, m0, m1, m2⟩ (fun hS => ?_)
  (refine D_take (i := 0) (v := ?_) rfl rfl (by kernel_rfl) (by kernel_rfl) (by kernel_rfl) (by kernel_rfl) (fun _ _ _ h => h) (Or.inl ⟨by rfl, ?_⟩) (by assumption) ?_); rotate_left; (focus (intro w' hSw; (try dsimp only at hSw); go_simp; (try with_reducible rfl))); (try simp only [Act.put, List.setIfInBounds_toArray, List.set_cons_zero, List.set_cons_succ])
  (refine D_take (i := 1) (v := ?_) rfl rfl (by kernel_rfl) (by kernel_rfl) (by kernel_rfl) (by kernel_rfl) (fun _ _ _ h => h) (Or.inl ⟨by rfl, ?_⟩) (by assumption) ?_); rotate_left; (focus (intro w' hSw; (try dsimp only at hSw); go_simp; (try with_reducible rfl))); (try simp only [Act.put, List.setIfInBounds_toArray, List.set_cons_zero, List.set_cons_succ])
  (refine D_take (i := 2) (v := ?_) rfl rfl (by kernel_rfl) (by kernel_rfl) (by kernel_rfl) (by kernel_rfl) (fun _ _ _ h => h) (Or.inl ⟨by rfl, ?_⟩) (by assumption) ?_); rotate_left; (focus (intro w' hSw; (try dsimp only at hSw); go_simp; (try with_reducible rfl))); (try simp only [Act.put, List.setIfInBounds_toArray, List.set_cons_zero, List.set_cons_succ])
  (refine D_take (i := 3) (v := ?_) rfl rfl (by kernel_rfl) (by kernel_rfl) (by kernel_rfl) (by kernel_rfl) (fun _ _ _ h => h) (Or.inl ⟨by rfl, ?_⟩) (by assumption) ?_); rotate_left; (focus (intro w' hSw; (try dsimp only at hSw); go_simp; (try with_reducible rfl))); (try simp only [Act.put, List.setIfInBounds_toArray, List.set_cons_zero, List.set_cons_succ])
  (refine D_take (i := 4) (v := ?_) rfl rfl (by kernel_rfl) (by kernel_rfl) (by kernel_rfl) (by kernel_rfl) (fun _ _ _ h => h) (Or.inl ⟨by rfl, ?_⟩) (by assumption) ?_); rotate_left; (focus (intro w' hSw; (try dsimp only at hSw); go_simp; (try with_reducible rfl))); (try simp only [Act.put, List.setIfInBounds_toArray, List.set_cons_zero, List.set_cons_succ])
  (refine D_take (i := 5) (v := ?_) rfl rfl (by kernel_rfl) (by kernel_rfl) (by kernel_rfl) (by kernel_rfl) (fun _ _ _ h => h) (Or.inl ⟨by rfl, ?_⟩) (by assumption) ?_); rotate_left; (focus (intro w' hSw; (try dsimp only at hSw); go_simp; (try with_reducible rfl))); (try simp only [Act.put, List.setIfInBounds_toArray, List.set_cons_zero, List.set_cons_succ])
  (refine D_take (i := 6) (v := ?_) rfl rfl (by kernel_rfl) (by kernel_rfl) (by kernel_rfl) (by kernel_rfl) (fun _ _ _ h => h) (Or.inl ⟨by rfl, ?_⟩) (by assumption) ?_); rotate_left; (focus (intro w' hSw; (try dsimp only at hSw); go_simp; (try with_reducible rfl))); (try simp only [Act.put, List.setIfInBounds_toArray, List.set_cons_zero, List.set_cons_succ])
  (refine D_take (i := 7) (v := ?_) rfl rfl (by kernel_rfl) (by kernel_rfl) (by kernel_rfl) (by kernel_rfl) (fun _ _ _ h => h) (Or.inl ⟨by rfl, ?_⟩) (by assumption) ?_); rotate_left; (focus (intro w' hSw; (try dsimp only at hSw); go_simp; (try with_reducible rfl))); (try simp only [Act.put, List.setIfInBounds_toArray, List.set_cons_zero, List.set_cons_succ])
  (refine D_take (i := 8) (v := ?_) rfl rfl (by kernel_rfl) (by kernel_rfl) (by kernel_rfl) (by kernel_rfl) (fun _ _ _ h => h) (Or.inl ⟨by rfl, ?_⟩) (by assumption) ?_); rotate_left; (focus (intro w' hSw; (try dsimp only at hSw); go_simp; (try with_reducible rfl))); (try simp only [Act.put, List.setIfInBounds_toArray, List.set_cons_zero, List.set_cons_succ])
  (refine D_take (i := 9) (v := ?_) rfl rfl (by kernel_rfl) (by kernel_rfl) (by kernel_rfl) (by kernel_rfl) (fun _ _ _ h => h) (Or.inl ⟨by rfl, ?_⟩) (by assumption) ?_); rotate_left; (focus (intro w' hSw; (try dsimp only at hSw); go_simp; (try with_reducible rfl))); (try simp only [Act.put, List.setIfInBounds_toArray, List.set_cons_zero, List.set_cons_succ])
  (refine D_step (i := 10) rfl (by kernel_rfl) (fun K hK => ?_)); (rw [if_pos (by rfl)])
  go_simp
  have hAw1 := hA1
  have hRw1 := hR1
  have hbw1 := hb1
  have hsw1 := hs1
  clear hA1 hR1 hb1 hs1
  have HBw2 := Lib.hid ((hbw1.alloc (show w.heap.size ≤ w1.heap.size by omega) (.cells #[.int .i64 0, .int .i64 0] 76)).drew)
  have hw2A := ((Blk.newAt (w := w1) (g := w.heap.size + 1 + 1) (t := 76) (cs := #[.int .i64 0, .int .i64 0]) (by omega)).drew)
  refine hK _ _ (fun _ => ⟨((hAw1.alloc _).drew).cell 0, ((hAw1.alloc _).drew).cell 1, (HBw2.out.cell (p := ⟨bl, offl + k * 2, none⟩) hbl).trans l0, (HBw2.out.cell (p := ⟨bn, offn + p * 2, none⟩) hbn).trans a0, (HBw2.out.cell (p := ⟨bn, offn + p * 2 + 1, none⟩) hbn).trans a1⟩) (fun hS' => ?_)
  have hS2 := hS' (by decide)
  clear hK K hS hS'
  (try simp only [Act.put, List.setIfInBounds_toArray, List.set_cons_zero, List.set_cons_succ])
  have cz := hw2A.cell 0
  have cz1 := hw2A.cell 1
  have fz := hw2A.frozen 0
  have fz1 := hw2A.frozen 1
  simp only [List.getElem?_toArray, List.getElem?_cons_succ, List.getElem?_cons_zero] at cz cz1
  (refine D_step (i := 11) rfl (by kernel_rfl) (fun K hK => ?_)); (rw [if_pos (by rfl)])
  go_simp
  refine hK _ _ (fun h => absurd rfl h) (fun _ => ?_)
  clear hK K hS2 cz cz1 fz fz1 HBw2 hw2A
  (try simp only [Act.put, List.setIfInBounds_toArray, List.set_cons_zero, List.set_cons_succ])
  refine D_done (by kernel_rfl) ?_ _
  obtain ⟨w2, hw2⟩ : ∃ v, v = (w1.alloc (.cells #[.int .i64 x0, .int .i64 y0] 76)).drew := ⟨_, rfl⟩
  have hAw2 : Blk w2 w.heap.size 27 #[.slice (some ⟨bn, offn, none⟩) ns.length cn, .slice (some ⟨bl, offl, none⟩) ls.length cl] := hw2 ▸ (hAw1.alloc _).drew
  have hRw2 : Blk w2 (w.heap.size + 1) 76 #[.int .i64 0, .int .i64 0] := hw2 ▸ (hRw1.alloc _).drew
  have hNw2 : Blk w2 (w.heap.size + 1 + 1) 76 #[.int .i64 x0, .int .i64 y0] := hw2 ▸ (Blk.newAt (by omega)).drew
  have hbw2 : Below w.heap.size w w2 := hw2 ▸ (hbw1.alloc (show w.heap.size ≤ w1.heap.size by omega) _).drew
  have hsw2 : w2.heap.size = w.heap.size + 1 + 1 + 1 := by rw [hw2]; simp; omega
  go_upto_region 2 with (fail)
  try rw [← hw2]
  clear hw2 hAw1 hRw1 m0 m1 m2 hbw1 hsw1
  have m0 := (hbw2.cell (p := ⟨bl, offl + k * 2 + 1, none⟩) hbl).trans l1
  have m1 := (hbw2.cell (p := ⟨bn, offn + q * 2, none⟩) hbn).trans b0
  have m2 := (hbw2.cell (p := ⟨bn, offn + q * 2 + 1, none⟩) hbn).trans b1
  refine region_D (n := 11) (S := fun w' => w'.cell? ⟨w.heap.size, 0, none⟩ = some (.slice (some ⟨bn, offn, none⟩) ns.length cn) ∧ w'.cell? ⟨w.heap.size, 1, none⟩ = some (.slice (some ⟨bl, offl, none⟩) ls.length cl) ∧
    w'.cell? ⟨bl, offl + k * 2 + 1, none⟩ = some (.int .i64 (q : Int)) ∧ w'.cell? ⟨bn, offn + q * 2, none⟩ = some (.int .i64 x1) ∧ w'.cell? ⟨bn, offn + q * 2 + 1, none⟩ = some (.int .i64 y1)) (by kernel_rfl) ⟨hAw2.cell 0, hAw2.cell 1, m0, m1, m2⟩ (fun hS => ?_)
  (refine D_take (i := 0) (v := ?_) rfl rfl (by kernel_rfl) (by kernel_rfl) (by kernel_rfl) (by kernel_rfl) (fun _ _ _ h => h) (Or.inl ⟨by rfl, ?_⟩) (by assumption) ?_); rotate_left; (focus (intro w' hSw; (try dsimp only at hSw); go_simp; (try with_reducible rfl))); (try simp only [Act.put, List.setIfInBounds_toArray, List.set_cons_zero, List.set_cons_succ])
  (refine D_take (i := 1) (v := ?_) rfl rfl (by kernel_rfl) (by kernel_rfl) (by kernel_rfl) (by kernel_rfl) (fun _ _ _ h => h) (Or.inl ⟨by rfl, ?_⟩) (by assumption) ?_); rotate_left; (focus (intro w' hSw; (try dsimp only at hSw); go_simp; (try with_reducible rfl))); (try simp only [Act.put, List.setIfInBounds_toArray, List.set_cons_zero, List.set_cons_succ])
  (refine D_take (i := 2) (v := ?_) rfl rfl (by kernel_rfl) (by kernel_rfl) (by kernel_rfl) (by kernel_rfl) (fun _ _ _ h => h) (Or.inl ⟨by rfl, ?_⟩) (by assumption) ?_); rotate_left; (focus (intro w' hSw; (try dsimp only at hSw); go_simp; (try with_reducible rfl))); (try simp only [Act.put, List.setIfInBounds_toArray, List.set_cons_zero, List.set_cons_succ])
  (refine D_take (i := 3) (v := ?_) rfl rfl (by kernel_rfl) (by kernel_rfl) (by kernel_rfl) (by kernel_rfl) (fun _ _ _ h => h) (Or.inl ⟨by rfl, ?_⟩) (by assumption) ?_); rotate_left; (focus (intro w' hSw; (try dsimp only at hSw); go_simp; (try with_reducible rfl))); (try simp only [Act.put, List.setIfInBounds_toArray, List.set_cons_zero, List.set_cons_succ])
  (refine D_take (i := 4) (v := ?_) rfl rfl (by kernel_rfl) (by kernel_rfl) (by kernel_rfl) (by kernel_rfl) (fun _ _ _ h => h) (Or.inl ⟨by rfl, ?_⟩) (by assumption) ?_); rotate_left; (focus (intro w' hSw; (try dsimp only at hSw); go_simp; (try with_reducible rfl))); (try simp only [Act.put, List.setIfInBounds_toArray, List.set_cons_zero, List.set_cons_succ])
  (refine D_take (i := 5) (v := ?_) rfl rfl (by kernel_rfl) (by kernel_rfl) (by kernel_rfl) (by kernel_rfl) (fun _ _ _ h => h) (Or.inl ⟨by rfl, ?_⟩) (by assumption) ?_); rotate_left; (focus (intro w' hSw; (try dsimp only at hSw); go_simp; (try with_reducible rfl))); (try simp only [Act.put, List.setIfInBounds_toArray, List.set_cons_zero, List.set_cons_succ])
  (refine D_take (i := 6) (v := ?_) rfl rfl (by kernel_rfl) (by kernel_rfl) (by kernel_rfl) (by kernel_rfl) (fun _ _ _ h => h) (Or.inl ⟨by rfl, ?_⟩) (by assumption) ?_); rotate_left; (focus (intro w' hSw; (try dsimp only at hSw); go_simp; (try with_reducible rfl))); (try simp only [Act.put, List.setIfInBounds_toArray, List.set_cons_zero, List.set_cons_succ])
  (refine D_take (i := 7) (v := ?_) rfl rfl (by kernel_rfl) (by kernel_rfl) (by kernel_rfl) (by kernel_rfl) (fun _ _ _ h => h) (Or.inl ⟨by rfl, ?_⟩) (by assumption) ?_); rotate_left; (focus (intro w' hSw; (try dsimp only at hSw); go_simp; (try with_reducible rfl))); (try simp only [Act.put, List.setIfInBounds_toArray, List.set_cons_zero, List.set_cons_succ])
  (refine D_take (i := 8) (v := ?_) rfl rfl (by kernel_rfl) (by kernel_rfl) (by kernel_rfl) (by kernel_rfl) (fun _ _ _ h => h) (Or.inl ⟨by rfl, ?_⟩) (by assumption) ?_); rotate_left; (focus (intro w' hSw; (try dsimp only at hSw); go_simp; (try with_reducible rfl))); (try simp only [Act.put, List.setIfInBounds_toArray, List.set_cons_zero, List.set_cons_succ])
  (refine D_take (i := 9) (v := ?_) rfl rfl (by kernel_rfl) (by kernel_rfl) (by kernel_rfl) (by kernel_rfl) (fun _ _ _ h => h) (Or.inl ⟨by rfl, ?_⟩) (by assumption) ?_); rotate_left; (focus (intro w' hSw; (try dsimp only at hSw); go_simp; (try with_reducible rfl))); (try simp only [Act.put, List.setIfInBounds_toArray, List.set_cons_zero, List.set_cons_succ])
  (refine D_step (i := 10) rfl (by kernel_rfl) (fun K hK => ?_)); (rw [if_pos (by rfl)])
  go_simp
  have HBw3 := Lib.hid ((hbw2.alloc (show w.heap.size ≤ w2.heap.size by omega) (.cells #[.int .i64 0, .int .i64 0] 76)).drew)
  have hw3A := ((Blk.newAt (w := w2) (g := w.heap.size + 1 + 1 + 1) (t := 76) (cs := #[.int .i64 0, .int .i64 0]) (by omega)).drew)
  refine hK _ _ (fun _ => ⟨((hAw2.alloc _).drew).cell 0, ((hAw2.alloc _).drew).cell 1, (HBw3.out.cell (p := ⟨bl, offl + k * 2 + 1, none⟩) hbl).trans l1, (HBw3.out.cell (p := ⟨bn, offn + q * 2, none⟩) hbn).trans b0, (HBw3.out.cell (p := ⟨bn, offn + q * 2 + 1, none⟩) hbn).trans b1⟩) (fun hS' => ?_)
  have hS2 := hS' (by decide)
  clear hK K hS hS'
  (try simp only [Act.put, List.setIfInBounds_toArray, List.set_cons_zero, List.set_cons_succ])
  have cz := hw3A.cell 0
  have cz1 := hw3A.cell 1
  have fz := hw3A.frozen 0
  have fz1 := hw3A.frozen 1
  simp only [List.getElem?_toArray, List.getElem?_cons_succ, List.getElem?_cons_zero] at cz cz1
  (refine D_step (i := 11) rfl (by kernel_rfl) (fun K hK => ?_)); (rw [if_pos (by rfl)])
  go_simp
  refine hK _ _ (fun h => absurd rfl h) (fun _ => ?_)
  clear hK K hS2 cz cz1 fz fz1 HBw3 hw3A
  (try simp only [Act.put, List.setIfInBounds_toArray, List.set_cons_zero, List.set_cons_succ])
  refine D_done (by kernel_rfl) ?_ _
  obtain ⟨w3, hw3⟩ : ∃ v, v = (w2.alloc (.cells #[.int .i64 x1, .int .i64 y1] 76)).drew := ⟨_, rfl⟩
  have hAw3 : Blk w3 w.heap.size 27 #[.slice (some ⟨bn, offn, none⟩) ns.length cn, .slice (some ⟨bl, offl, none⟩) ls.length cl] := hw3 ▸ (hAw2.alloc _).drew
  have hRw3 : Blk w3 (w.heap.size + 1) 76 #[.int .i64 0, .int .i64 0] := hw3 ▸ (hRw2.alloc _).drew
  have hNw3 : Blk w3 (w.heap.size + 1 + 1 + 1) 76 #[.int .i64 x1, .int .i64 y1] := hw3 ▸ (Blk.newAt (by omega)).drew
  have hPw3 : Blk w3 (w.heap.size + 1 + 1) 76 #[.int .i64 x0, .int .i64 y0] := hw3 ▸ (hNw2.alloc _).drew
  have hbw3 : Below w.heap.size w w3 := hw3 ▸ (hbw2.alloc (show w.heap.size ≤ w2.heap.size by omega) _).drew
  have hsw3 : w3.heap.size = w.heap.size + 1 + 1 + 1 + 1 := by rw [hw3]; simp; omega
  go_upto_region 3 with (fail)
  try rw [← hw3]
  clear hw3 hAw2 hRw2 hNw2 hbw2 hsw2 m0 m1 m2
  (have n_0 := hPw3.cell 0); (have n_1 := hPw3.cell 1); simp only [List.getElem?_toArray, List.getElem?_cons_succ, List.getElem?_cons_zero] at n_0 n_1
  (have o_0 := hNw3.cell 0); (have o_1 := hNw3.cell 1); simp only [List.getElem?_toArray, List.getElem?_cons_succ, List.getElem?_cons_zero] at o_0 o_1
  (have r_0 := hRw3.cell 0); (have r_1 := hRw3.cell 1); simp only [List.getElem?_toArray, List.getElem?_cons_succ, List.getElem?_cons_zero] at r_0 r_1; (have r_f0 := hRw3.frozen 0); (have r_f1 := hRw3.frozen 1)
  have hRl := hRw3.lt
  have hRn := hNw3.lt
  have HBE := Lib.hid (fun u0 u1 => (hbw3.setCell (p := ⟨w.heap.size + 1, 0, none⟩) (Nat.le_succ _) u0).setCell (p := ⟨w.heap.size + 1, 1, none⟩) (Nat.le_succ _) u1)
  clear hPw3 hNw3 hRw3 hAw3 hbw3 hsw3
  go_wp2
  exact bodyPost_ret (v := .agg #[.int .i64 _, .int .i64 _]) (by simp [results, Try.results125, go_sem, r_0, r_1, hRl]; exact ⟨rfl, rfl⟩) rfl ⟨⟨_, _, rfl⟩, HBE.out _ _⟩

end Go.Proofs.Ytnpdincjekelaaa

namespace Go.Proofs.Ytnpdincjekelaaa
open Go.RowKit

attribute [local go_sem ↓] run_eqNode run_neNode run_mn2 run_mx2

theorem shape_whole {k : Int} (h0 : 0 ≤ k) (h1 : k < 4) : wholeB (shapeN k) (shapeL k) = true := by
  have hs := shape_ok k
  unfold wholeB
  rw [hs, Bool.true_and]
  have hk : k = 0 ∨ k = 1 ∨ k = 2 ∨ k = 3 := by omega
  rcases hk with rfl | rfl | rfl | rfl <;> decide +kernel

/-- A drawn window of a kind. -/
def DrawnP (Pw : List Pr → List Pr → Prop) (W0 : World) (v : Value) (g : Nat) (w : World) (e : Ending) (w' : World) : Prop :=
  ∃ ns ls An cn Al cl, e = .returned (.agg #[.slice An ns.length cn, .slice Al ls.length cl]) ∧ Pw ns ls ∧ OwnW (w.heap.size + 1) w' (.slice An ns.length cn) (.slice Al ls.length cl) ns ls ∧ CurOk W0 v g w' ∧ w.grownBy w' (some g)

set_option maxHeartbeats 8000000 in
set_option maxRecDepth 100000 in
theorem drawWhole_any (W0 : World) (v : Value) (zs : List Int) (g : Nat) (w : World) (h : RB W0 v zs) (hle : zs.length ≤ 1048576) (hc : CurOk W0 v g w) :
    Calls Try.prog 123 #[.pointer (some ⟨g, 0, none⟩)] w (DrawnP (fun ns ls => wholeB ns ls = true) W0 v g w) := by
  have hgl := hc.lt
  have HC := Lib.hid hc
  have HRB := Lib.hid h
  clear h hc
  go_enter Try.func123, Try.ntmps123
  go_wp2
  go_loopw [3] (fun i wr => ∃ k : Nat, k ≤ 4 ∧ i = .int .i64 k ∧ Blk wr w.heap.size 27 #[.slice none 0 0, .slice none 0 0] ∧ CurOk W0 v g wr ∧ w.grownBy wr (some g)) (fun i _ => 4 - (intOf i).toNat)
  case atStart => exact ⟨0, by omega, rfl, Blk.newAt rfl, HC.out.alloc _, only_alloc (World.grownBy.refl w (some g)) _⟩
  case round =>
    obtain ⟨k, hk, rfl, hR, hcur, hgr⟩ := hrel
    have hRl := hR.lt
    have hgs := hgr.size
    by_cases hlt : k < 4
    · go_wp2_with fail
      refine (drawWindow_any W0 v zs g _ HRB.out hle hcur).mono ?_
      rintro e w1 ⟨ns, ls, An, cn, Al, cl, rfl, hwin, ho1, hc1, hg1⟩
      have hR1 := hR.grown hg1 (by omega)
      have hG1 := grownBy_trans hgr hg1
      have hs1 := hg1.size
      have hlt1 := ho1.lt
      have hTl : w.heap.size < w1.heap.size := hR1.lt
      obtain ⟨w2, hw2⟩ : ∃ u, u = w1.alloc (.cells #[.slice An ns.length cn, .slice Al ls.length cl] 27) := ⟨_, rfl⟩
      have hT2 : Blk w2 w1.heap.size 27 #[.slice An ns.length cn, .slice Al ls.length cl] := hw2 ▸ Blk.newAt rfl
      have ho2 := Lib.hid (show OwnW (w.heap.size + 1) w2 (.slice An ns.length cn) (.slice Al ls.length cl) ns ls from hw2 ▸ (ho1.mono (show w.heap.size + 1 ≤ _ by omega)).alloc _)
      have hR2 : Blk w2 w.heap.size 27 #[.slice none 0 0, .slice none 0 0] := hw2 ▸ hR1.alloc _
      have hc2 : CurOk W0 v g w2 := hw2 ▸ hc1.alloc _
      have hG2 : w.grownBy w2 (some g) := hw2 ▸ only_alloc hG1 _
      go_upto_region 5 with (fail)
      rw [← hw2]
      clear hw2 hR1 hG1 hc1 hg1 ho1 hlt1 hR hcur hgr hs1 hgs
      generalize w1.heap.size = T at *
      (have t_0 := hT2.cell 0); (have t_1 := hT2.cell 1); simp only [List.getElem?_toArray, List.getElem?_cons_succ, List.getElem?_cons_zero] at t_0 t_1
      obtain ⟨bw, hbw⟩ : ∃ bw, wholeB ns ls = bw := ⟨_, rfl⟩
      have HBW := Lib.hid hbw
      go_wp2_with fail
      refine (sWhole_at _ _ ns ls bw _ ho2.out.1.reads ho2.out.2.1.reads hbw).mono ?_
      rintro e w3 ⟨rfl, hb3⟩
      have hT3 := hT2.below hb3 hT2.lt
      have hR3 := hR2.below hb3 hR2.lt
      have hc3 := hc2.below hb3
      have hG3 := grown_below hG2 hb3
      have ho3 := Lib.hid (ho2.out.kept hb3)
      clear hb3 hT2 hR2 hc2 hG2 ho2 t_0 t_1 hbw
      have hTl3 := hT3.lt
      have hRl3 := hR3.lt
      cases bw
      · go_wp2
        go_roundw
        case rel => exact ⟨k + 1, by omega, by go_num, hR3, hc3, hG3⟩
        case measure => simp [intOf]; omega
      · (have t_0 := hT3.cell 0); (have t_1 := hT3.cell 1); simp only [List.getElem?_toArray, List.getElem?_cons_succ, List.getElem?_cons_zero] at t_0 t_1
        (have r_0 := hR3.cell 0); (have r_1 := hR3.cell 1); simp only [List.getElem?_toArray, List.getElem?_cons_succ, List.getElem?_cons_zero] at r_0 r_1; (have r_f0 := hR3.frozen 0); (have r_f1 := hR3.frozen 1)
        have HO := Lib.hid ((ho3.out.setLow (p := ⟨w.heap.size, 0, none⟩) (show w.heap.size < w.heap.size + 1 by omega) (.slice An ns.length cn)).setLow (p := ⟨w.heap.size, 1, none⟩) (show w.heap.size < w.heap.size + 1 by omega) (.slice Al ls.length cl))
        have HCC := Lib.hid ((hc3.far (p := ⟨w.heap.size, 0, none⟩) (show g < w.heap.size by omega) (.slice An ns.length cn)).far (p := ⟨w.heap.size, 1, none⟩) (show g < w.heap.size by omega) (.slice Al ls.length cl))
        have HGG := Lib.hid (only_far (p := ⟨w.heap.size, 1, none⟩) (only_far (p := ⟨w.heap.size, 0, none⟩) hG3 (show w.heap.size ≤ w.heap.size by omega) (.slice An ns.length cn)) (show w.heap.size ≤ w.heap.size by omega) (.slice Al ls.length cl))
        clear hT3 hR3 hc3 hG3 ho3
        go_wp2
        exact bodyPost_ret (v := .agg #[.slice An ns.length cn, .slice Al ls.length cl]) (by simp [results, Try.results123, go_sem, r_0, r_1, hRl3]) rfl ⟨ns, ls, An, cn, Al, cl, rfl, HBW.out, HO.out, HCC.out, HGG.out⟩
    · have hkk : k = 4 := by omega
      subst hkk
      go_wp2_with fail
      refine (below_any W0 v zs g 4 _ HRB.out hle (by omega) hcur).mono ?_
      rintro e w1 ⟨x, rfl, x0, x1, hc1, hg1⟩
      have hR1 := hR.grown hg1 (by omega)
      have hG1 := grownBy_trans hgr hg1
      clear hR hcur hgr hg1
      go_wp2_with fail
      refine (sShape_any x _).mono ?_
      rintro e w2 ⟨An, cn, Al, cl, rfl, ho2, hb2⟩
      have HBW := Lib.hid (shape_whole x0 x1)
      have hR2 := hR1.below hb2 hR1.lt
      have hc2 := hc1.below hb2
      have hG2 := grown_below hG1 hb2
      have hbase : w.heap.size + 1 ≤ w1.heap.size := hR1.lt
      have ho3 := ho2.mono hbase
      clear hR1 hc1 hG1 hb2 ho2
      generalize shapeN x = ns at *
      generalize shapeL x = ls at *
      have hRl2 := hR2.lt
      (have r_0 := hR2.cell 0); (have r_1 := hR2.cell 1); simp only [List.getElem?_toArray, List.getElem?_cons_succ, List.getElem?_cons_zero] at r_0 r_1; (have r_f0 := hR2.frozen 0); (have r_f1 := hR2.frozen 1)
      have HO := Lib.hid ((ho3.setLow (p := ⟨w.heap.size, 0, none⟩) (show w.heap.size < w.heap.size + 1 by omega) (.slice An ns.length cn)).setLow (p := ⟨w.heap.size, 1, none⟩) (show w.heap.size < w.heap.size + 1 by omega) (.slice Al ls.length cl))
      have HCC := Lib.hid ((hc2.far (p := ⟨w.heap.size, 0, none⟩) (show g < w.heap.size by omega) (.slice An ns.length cn)).far (p := ⟨w.heap.size, 1, none⟩) (show g < w.heap.size by omega) (.slice Al ls.length cl))
      have HGG := Lib.hid (only_far (p := ⟨w.heap.size, 1, none⟩) (only_far (p := ⟨w.heap.size, 0, none⟩) hG2 (show w.heap.size ≤ w.heap.size by omega) (.slice An ns.length cn)) (show w.heap.size ≤ w.heap.size by omega) (.slice Al ls.length cl))
      clear hR2 hc2 hG2 ho3
      go_wp2
      exact bodyPost_ret (v := .agg #[.slice An ns.length cn, .slice Al ls.length cl]) (by simp [results, Try.results123, go_sem, r_0, r_1, hRl2]) rfl ⟨ns, ls, An, cn, Al, cl, rfl, HBW.out, HO.out, HCC.out, HGG.out⟩

end Go.Proofs.Ytnpdincjekelaaa

namespace Go.Proofs.Ytnpdincjekelaaa
open Go.RowKit

attribute [local go_sem ↓] run_eqNode run_neNode run_mn2 run_mx2

set_option maxHeartbeats 8000000 in
set_option maxRecDepth 100000 in
theorem drawSplit_any (W0 : World) (v : Value) (zs : List Int) (g : Nat) (w : World) (h : RB W0 v zs) (hle : zs.length ≤ 1048576) (hc : CurOk W0 v g w) :
    Calls Try.prog 113 #[.pointer (some ⟨g, 0, none⟩)] w (DrawnP (fun ns ls => WinOk ns ls ∧ 0 < ls.length) W0 v g w) := by
  have hgl := hc.lt
  have HC := Lib.hid hc
  have HRB := Lib.hid h
  clear h hc
  go_enter Try.func113, Try.ntmps113
  go_wp2_with fail
  refine (drawWhole_any W0 v zs g _ HRB.out hle (HC.out.alloc _)).mono ?_
  rintro e w1 ⟨ns, ls, An, cn, Al, cl, rfl, hwh, ho1, hc1, hg1⟩
  obtain ⟨hwin, hl0⟩ := whole_win hwh
  have hz1 := hg1.size
  simp at hz1
  have hR1 : Blk w1 w.heap.size 27 #[.slice none 0 0, .slice none 0 0] := (Blk.new w _ _).grown hg1 (by omega)
  have hG1 := grownBy_trans (only_alloc (World.grownBy.refl w (some g)) (.cells #[.slice none 0 0, .slice none 0 0] 27)) hg1
  have hlt1 := ho1.lt
  have HST : Hid (WSt W0 v g w w1.heap.size (w1.alloc (.cells #[.slice An ns.length cn, .slice Al ls.length cl] 27)) An cn Al cl ns ls) := Lib.hid
    ⟨hwin, (ho1.mono (by simp)).alloc _, Blk.newAt rfl, hR1.alloc _, fun b hb e => by have := (hlt1 b hb).2; omega, hc1.alloc _, only_alloc hG1 _, by omega, hgl⟩
  clear hwh hwin hR1 hG1 hc1 hg1 ho1 hlt1
  go_wp2_with fail
  refine (below_any W0 v zs g 4 _ HRB.out hle (by omega) HST.out.cur).mono ?_
  rintro e w3 ⟨k, rfl, k0, k1, hc3, hg3⟩
  have hst := HST.out.drawn hc3 hg3
  clear HST hc3 hg3
  obtain ⟨X, hX⟩ : ∃ X, X = w1.heap.size := ⟨_, rfl⟩
  rw [← hX] at hst ⊢
  clear hX
  obtain ⟨kn, rfl⟩ : ∃ kn : Nat, k = (kn : Int) := ⟨k.toNat, by omega⟩
  go_wp2
  go_loopw [4] (fun i wr => ∃ (kn : Nat) (An : Option Addr) (cn : Nat) (Al : Option Addr) (cl : Nat) (ns ls : List Pr), i = .int .i64 kn ∧ kn ≤ 4 ∧ 0 < ls.length ∧ WSt W0 v g w X wr An cn Al cl ns ls) (fun i _ => (intOf i).toNat)
  case atStart => exact ⟨kn, An, cn, Al, cl, ns, ls, rfl, by omega, hl0, hst⟩
  case round =>
    clear hst hl0
    obtain ⟨kn, An, cn, Al, cl, ns, ls, rfl, hk4, hl0, hst⟩ := hrel
    have HST := Lib.hid hst
    clear hst
    by_cases hk0 : kn = 0
    · subst hk0
      have hR := HST.out.res
      have hT := HST.out.box
      have hXl := HST.out.hX
      (have t_0 := hT.cell 0); (have t_1 := hT.cell 1); simp only [List.getElem?_toArray, List.getElem?_cons_succ, List.getElem?_cons_zero] at t_0 t_1
      (have r_0 := hR.cell 0); (have r_1 := hR.cell 1); simp only [List.getElem?_toArray, List.getElem?_cons_succ, List.getElem?_cons_zero] at r_0 r_1; (have r_f0 := hR.frozen 0); (have r_f1 := hR.frozen 1)
      have hRl := hR.lt
      have hTl := hT.lt
      have HO := Lib.hid ((HST.out.own.setLow (p := ⟨w.heap.size, 0, none⟩) (show w.heap.size < w.heap.size + 1 by omega) (.slice An ns.length cn)).setLow (p := ⟨w.heap.size, 1, none⟩) (show w.heap.size < w.heap.size + 1 by omega) (.slice Al ls.length cl))
      have HCC := Lib.hid ((HST.out.cur.far (p := ⟨w.heap.size, 0, none⟩) (show g < w.heap.size by omega) (.slice An ns.length cn)).far (p := ⟨w.heap.size, 1, none⟩) (show g < w.heap.size by omega) (.slice Al ls.length cl))
      have HGG := Lib.hid (only_far (p := ⟨w.heap.size, 1, none⟩) (only_far (p := ⟨w.heap.size, 0, none⟩) HST.out.gr (show w.heap.size ≤ w.heap.size by omega) (.slice An ns.length cn)) (show w.heap.size ≤ w.heap.size by omega) (.slice Al ls.length cl))
      have HP : Hid (WinOk ns ls ∧ 0 < ls.length) := Lib.hid ⟨HST.out.win, hl0⟩
      clear hR hT HST hl0
      go_wp2
      exact bodyPost_ret (v := .agg #[.slice An ns.length cn, .slice Al ls.length cl]) (by simp [results, Try.results113, go_sem, r_0, r_1, hRl]) rfl ⟨ns, ls, An, cn, Al, cl, rfl, HP.out, HO.out, HCC.out, HGG.out⟩
    · have hkp : (0 : Int) < (kn : Int) := by omega
      have hT := HST.out.box
      have hTl := hT.lt
      have hl1 : (0 : Int) < (ls.length : Int) := by omega
      (have t_0 := hT.cell 0); (have t_1 := hT.cell 1); simp only [List.getElem?_toArray, List.getElem?_cons_succ, List.getElem?_cons_zero] at t_0 t_1
      go_wp2_with fail
      refine (below_any W0 v zs g (ls.length : Int) _ HRB.out hle hl1 HST.out.cur).mono ?_
      rintro e w4 ⟨i, rfl, i0, i1, hc4, hg4⟩
      have HS4 := Lib.hid (HST.out.drawn hc4 hg4)
      clear HST hT t_0 t_1 hc4 hg4 hTl
      obtain ⟨m, rfl⟩ : ∃ m : Nat, i = (m : Int) := ⟨i.toNat, by omega⟩
      have hml : m < ls.length := by omega
      go_upto_region 6 with (fail)
      refine region_E (n := 9) (S := fun w' => w'.cell? ⟨X, 0, none⟩ = some (.slice An ns.length cn) ∧ w'.cell? ⟨X, 1, none⟩ = some (.slice Al ls.length cl)) (by kernel_rfl) ⟨HS4.out.box.cell 0, HS4.out.box.cell 1⟩ (fun hS => ?_)
      (refine E_take (i := 0) (v := ?_) rfl rfl (by kernel_rfl) (by kernel_rfl) (by kernel_rfl) (by kernel_rfl) (by kernel_rfl) (fun _ _ _ h => h) (Or.inl ⟨by rfl, ?_⟩) (by assumption) ?_); rotate_left; (focus (intro w' hSw; (try dsimp only at hSw); go_simp; (try with_reducible rfl))); (try simp only [Act.put, List.setIfInBounds_toArray, List.set_cons_zero, List.set_cons_succ])
      (refine E_take (i := 1) (v := ?_) rfl rfl (by kernel_rfl) (by kernel_rfl) (by kernel_rfl) (by kernel_rfl) (by kernel_rfl) (fun _ _ _ h => h) (Or.inl ⟨by rfl, ?_⟩) (by assumption) ?_); rotate_left; (focus (intro w' hSw; (try dsimp only at hSw); go_simp; (try with_reducible rfl))); (try simp only [Act.put, List.setIfInBounds_toArray, List.set_cons_zero, List.set_cons_succ])
      (refine E_take (i := 2) (v := ?_) rfl rfl (by kernel_rfl) (by kernel_rfl) (by kernel_rfl) (by kernel_rfl) (by kernel_rfl) (fun _ _ _ h => h) (Or.inl ⟨by rfl, ?_⟩) (by assumption) ?_); rotate_left; (focus (intro w' hSw; (try dsimp only at hSw); go_simp; (try with_reducible rfl))); (try simp only [Act.put, List.setIfInBounds_toArray, List.set_cons_zero, List.set_cons_succ])
      (refine E_take (i := 3) (v := ?_) rfl rfl (by kernel_rfl) (by kernel_rfl) (by kernel_rfl) (by kernel_rfl) (by kernel_rfl) (fun _ _ _ h => h) (Or.inl ⟨by rfl, ?_⟩) (by assumption) ?_); rotate_left; (focus (intro w' hSw; (try dsimp only at hSw); go_simp; (try with_reducible rfl))); (try simp only [Act.put, List.setIfInBounds_toArray, List.set_cons_zero, List.set_cons_succ])
      (refine E_step (i := 4) rfl (by kernel_rfl) (fun K hK => ?_)); (rw [if_pos (by rfl)])
      go_simp
      have HSD := Lib.hid HS4.out.drew
      clear HS4
      go_at_call 125
      refine (sMiddle_any _ _ ns ls m _ HSD.out.own.1.reads HSD.out.own.2.1.reads HSD.out.win hml).mono ?_
      rintro e w5 ⟨⟨x, y, rfl⟩, hb5⟩
      have HS5 := Lib.hid (HSD.out.below hb5)
      clear HSD hb5
      go_wp2_with fail
      refine hK _ _ (fun _ => ⟨HS5.out.box.cell 0, HS5.out.box.cell 1⟩) (fun hS' => ?_)
      have hS2 := hS' (by kernel_rfl)
      clear hK K hS hS'
      (try simp only [Act.put, List.setIfInBounds_toArray, List.set_cons_zero, List.set_cons_succ])
      (refine E_step (i := 5) rfl (by kernel_rfl) (fun K hK => ?_)); (rw [if_pos (by rfl)])
      go_simp
      go_at_call 124
      refine (sSplit_any _ _ ns ls m x y _ HS5.out.own.1.reads HS5.out.own.2.1.reads HS5.out.win hml).mono ?_
      rintro e w6 ⟨A6, c6, B6, d6, rfl, ho6, hb6⟩
      have HS6 := Lib.hid (HS5.out.below hb6)
      have hX5 : X < w5.heap.size := HS5.out.box.lt
      have hw6 := win_spl HS5.out.win m x y
      have hl6 := splL_len ns ls m x y
      generalize splN ns ls m x y = N6 at *
      generalize splL ns ls m x y = L6 at *
      generalize splB ns ls m x y = bb at *
      have HS7 := Lib.hid (HS6.out.put hw6 rfl rfl ho6 hX5)
      clear HS5 hb6 hw6 ho6
      go_wp2_with fail
      refine hK _ _ (fun _ => ⟨HS6.out.box.cell 0, HS6.out.box.cell 1⟩) (fun hS' => ?_)
      have hS3 := hS' (by kernel_rfl)
      clear hK K hS2 hS'
      (try simp only [Act.put, List.setIfInBounds_toArray, List.set_cons_zero, List.set_cons_succ])
      (refine E_take (i := 6) (v := ?_) rfl rfl (by kernel_rfl) (by kernel_rfl) (by kernel_rfl) (by kernel_rfl) (by kernel_rfl) (fun _ _ _ h => h) (Or.inl ⟨by rfl, ?_⟩) (by assumption) ?_); rotate_left; (focus (intro w' hSw; (try dsimp only at hSw); go_simp; (try with_reducible rfl))); (try simp only [Act.put, List.setIfInBounds_toArray, List.set_cons_zero, List.set_cons_succ])
      (refine E_take (i := 7) (v := ?_) rfl rfl (by kernel_rfl) (by kernel_rfl) (by kernel_rfl) (by kernel_rfl) (by kernel_rfl) (fun _ _ _ h => h) (Or.inl ⟨by rfl, ?_⟩) (by assumption) ?_); rotate_left; (focus (intro w' hSw; (try dsimp only at hSw); go_simp; (try with_reducible rfl))); (try simp only [Act.put, List.setIfInBounds_toArray, List.set_cons_zero, List.set_cons_succ])
      (refine E_take0 (i := 8) (v := ?_) rfl (by decide) (by kernel_rfl) (by kernel_rfl) (by kernel_rfl) (fun _ _ _ h => h) (Or.inl ⟨by rfl, ?_⟩) (by assumption) ?_); rotate_left; (focus (intro w' hSw; (try dsimp only at hSw); go_simp; (try with_reducible rfl))); (try simp only [Act.put, List.setIfInBounds_toArray, List.set_cons_zero, List.set_cons_succ])
      have hT := HS6.out.box
      (have t_0 := hT.cell 0); (have t_1 := hT.cell 1); simp only [List.getElem?_toArray, List.getElem?_cons_succ, List.getElem?_cons_zero] at t_0 t_1; (have t_f0 := hT.frozen 0); (have t_f1 := hT.frozen 1)
      have hTl := hT.lt
      (refine E_step (i := 9) rfl (by kernel_rfl) (fun K hK => ?_)); (rw [if_pos (by rfl)])
      go_simp
      refine hK _ _ (fun h => by cases h) (fun _ => ?_)
      clear hK K hS3 hT HS6
      (try simp only [Act.put, List.setIfInBounds_toArray, List.set_cons_zero, List.set_cons_succ])
      refine E_done (by kernel_rfl) ?_ _
      clear t_0 t_1 t_f0 t_f1
      obtain ⟨kp, rfl⟩ : ∃ kp, kn = kp + 1 := ⟨kn - 1, by omega⟩
      have hsub : ((kp + 1 : Nat) : Int) - 1 = (kp : Int) := by omega
      go_wp2
      go_roundw
      case rel => exact ⟨kp, A6, c6, B6, d6, N6, L6, by go_num, by omega, by omega, HS7.out⟩
      case measure => simp [intOf]

end Go.Proofs.Ytnpdincjekelaaa

namespace Go.Proofs.Ytnpdincjekelaaa
open Go.RowKit

/-- A draft under way: in a box of its own, the cursor beside it. -/
structure DSt (W0 : World) (v : Value) (g : Nat) (w : World) (Z : Nat) (wr : World) (a b c d e : Value) (D : Dr) (fs : List SF) : Prop where
  ok : okD D = true
  own : OwnD (w.heap.size + 1) wr a b c d e D fs
  box : Blk wr Z 59 #[a, b, c, d, e]
  res : Blk wr w.heap.size 59 #[.slice none 0 0, .slice none 0 0, .slice none 0 0, .slice none 0 0, .slice none 0 0]
  ne : ∀ k, blksD a b c d e fs k → ¬ k = Z
  cur : CurOk W0 v g wr
  gr : w.grownBy wr (some g)
  hX : w.heap.size < Z
  hg : g < w.heap.size

section
variable {W0 : World} {v : Value} {g : Nat} {w : World} {Z : Nat} {wr w' : World} {a b c d e : Value} {D : Dr} {fs : List SF}

theorem OwnD.far {base : Nat} {row : Option Nat} (h : OwnD base wr a b c d e D fs) (hg : wr.grownBy w' row) (hr : ∀ k, row = some k → k < base) : OwnD base w' a b c d e D fs :=
  h.turned (S := fun k => row = some k) (Turns.ofGrown hg (fun k hk => hk)) (fun k hk e1 => by have := (h.lt k hk).1; have := hr k e1; omega)

theorem DSt.drawn (h : DSt W0 v g w Z wr a b c d e D fs) (hc : CurOk W0 v g w') (hg : wr.grownBy w' (some g)) : DSt W0 v g w Z w' a b c d e D fs :=
  ⟨h.ok, h.own.far hg (fun k hk => by cases hk; have := h.hg; omega), h.box.grown hg (by have := h.hg; have := h.hX; omega), h.res.grown hg (by have := h.hg; omega), h.ne, hc, grownBy_trans h.gr hg, h.hX, h.hg⟩

theorem DSt.below (h : DSt W0 v g w Z wr a b c d e D fs) (hb : Below wr.heap.size wr w') : DSt W0 v g w Z w' a b c d e D fs :=
  ⟨h.ok, h.own.kept hb, h.box.below hb h.box.lt, h.res.below hb h.res.lt, h.ne, h.cur.below hb, grown_below h.gr hb, h.hX, h.hg⟩

theorem DSt.alloc (h : DSt W0 v g w Z wr a b c d e D fs) (o : Obj) : DSt W0 v g w Z (wr.alloc o) a b c d e D fs :=
  h.below (Below.alloc (Below.refl _ _) (Nat.le_refl _) o)

theorem DSt.drew (h : DSt W0 v g w Z wr a b c d e D fs) : DSt W0 v g w Z wr.drew a b c d e D fs := h.below (Below.drew (Below.refl _ _))

/-- Another draft, in newer memory, is laid into the box. -/
theorem DSt.put (h : DSt W0 v g w Z wr a b c d e D fs) {a' b' c' d' e' : Value} {D' : Dr} {fs' : List SF} {base : Nat} (hok : okD D' = true) (ho : OwnD base wr a' b' c' d' e' D' fs') (hb : Z < base) :
    DSt W0 v g w Z (((((wr.setCell ⟨Z, 0, none⟩ a').setCell ⟨Z, 1, none⟩ b').setCell ⟨Z, 2, none⟩ c').setCell ⟨Z, 3, none⟩ d').setCell ⟨Z, 4, none⟩ e') a' b' c' d' e' D' fs' := by
  have hX := h.hX
  have hg := h.hg
  have hlt := ho.lt
  have hne : ∀ k, blksD a' b' c' d' e' fs' k → ¬ k = Z := fun k hk e1 => by have := (hlt k hk).1; omega
  have ho' := ho.mono (show w.heap.size + 1 ≤ base by omega)
  have hz : ¬ blksD a' b' c' d' e' fs' Z := fun k => hne _ k rfl
  exact ⟨hok, (((((ho'.setFar (p := ⟨Z, 0, none⟩) hz _).setFar (p := ⟨Z, 1, none⟩) hz _).setFar (p := ⟨Z, 2, none⟩) hz _).setFar (p := ⟨Z, 3, none⟩) hz _).setFar (p := ⟨Z, 4, none⟩) hz _), (((((h.box.set_ 0 _).set_ 1 _).set_ 2 _).set_ 3 _).set_ 4 _), (((((h.res.far (p := ⟨Z, 0, none⟩) (show w.heap.size ≠ Z by omega) _).far (p := ⟨Z, 1, none⟩) (show w.heap.size ≠ Z by omega) _).far (p := ⟨Z, 2, none⟩) (show w.heap.size ≠ Z by omega) _).far (p := ⟨Z, 3, none⟩) (show w.heap.size ≠ Z by omega) _).far (p := ⟨Z, 4, none⟩) (show w.heap.size ≠ Z by omega) _), hne, (((((h.cur.far (p := ⟨Z, 0, none⟩) (show g < Z by omega) _).far (p := ⟨Z, 1, none⟩) (show g < Z by omega) _).far (p := ⟨Z, 2, none⟩) (show g < Z by omega) _).far (p := ⟨Z, 3, none⟩) (show g < Z by omega) _).far (p := ⟨Z, 4, none⟩) (show g < Z by omega) _), (only_far (p := ⟨Z, 4, none⟩) (only_far (p := ⟨Z, 3, none⟩) (only_far (p := ⟨Z, 2, none⟩) (only_far (p := ⟨Z, 1, none⟩) (only_far (p := ⟨Z, 0, none⟩) h.gr (show w.heap.size ≤ Z by omega) _) (show w.heap.size ≤ Z by omega) _) (show w.heap.size ≤ Z by omega) _) (show w.heap.size ≤ Z by omega) _) (show w.heap.size ≤ Z by omega) _), hX, hg⟩

/-- The draft is returned. -/
theorem DSt.fin (h : DSt W0 v g w Z wr a b c d e D fs) (u0 u1 u2 u3 u4 : Value) :
    OwnD (w.heap.size + 1) (((((wr.setCell ⟨w.heap.size, 0, none⟩ u0).setCell ⟨w.heap.size, 1, none⟩ u1).setCell ⟨w.heap.size, 2, none⟩ u2).setCell ⟨w.heap.size, 3, none⟩ u3).setCell ⟨w.heap.size, 4, none⟩ u4) a b c d e D fs ∧ CurOk W0 v g (((((wr.setCell ⟨w.heap.size, 0, none⟩ u0).setCell ⟨w.heap.size, 1, none⟩ u1).setCell ⟨w.heap.size, 2, none⟩ u2).setCell ⟨w.heap.size, 3, none⟩ u3).setCell ⟨w.heap.size, 4, none⟩ u4) ∧ w.grownBy (((((wr.setCell ⟨w.heap.size, 0, none⟩ u0).setCell ⟨w.heap.size, 1, none⟩ u1).setCell ⟨w.heap.size, 2, none⟩ u2).setCell ⟨w.heap.size, 3, none⟩ u3).setCell ⟨w.heap.size, 4, none⟩ u4) (some g) := by
  have hz : ¬ blksD a b c d e fs w.heap.size := fun hk => by have := (h.own.lt _ hk).1; omega
  have hg := h.hg
  exact ⟨(((((h.own.setFar (p := ⟨w.heap.size, 0, none⟩) hz _).setFar (p := ⟨w.heap.size, 1, none⟩) hz _).setFar (p := ⟨w.heap.size, 2, none⟩) hz _).setFar (p := ⟨w.heap.size, 3, none⟩) hz _).setFar (p := ⟨w.heap.size, 4, none⟩) hz _), (((((h.cur.far (p := ⟨w.heap.size, 0, none⟩) (show g < w.heap.size from hg) _).far (p := ⟨w.heap.size, 1, none⟩) (show g < w.heap.size from hg) _).far (p := ⟨w.heap.size, 2, none⟩) (show g < w.heap.size from hg) _).far (p := ⟨w.heap.size, 3, none⟩) (show g < w.heap.size from hg) _).far (p := ⟨w.heap.size, 4, none⟩) (show g < w.heap.size from hg) _), (only_far (p := ⟨w.heap.size, 4, none⟩) (only_far (p := ⟨w.heap.size, 3, none⟩) (only_far (p := ⟨w.heap.size, 2, none⟩) (only_far (p := ⟨w.heap.size, 1, none⟩) (only_far (p := ⟨w.heap.size, 0, none⟩) h.gr (show w.heap.size ≤ w.heap.size from Nat.le_refl _) _) (show w.heap.size ≤ w.heap.size from Nat.le_refl _) _) (show w.heap.size ≤ w.heap.size from Nat.le_refl _) _) (show w.heap.size ≤ w.heap.size from Nat.le_refl _) _) (show w.heap.size ≤ w.heap.size from Nat.le_refl _) _)⟩
/-- A draft of one window and its copy. -/
theorem DSt.start {base : Nat} {An : Option Addr} {cn : Nat} {Al : Option Addr} {cl : Nat} {Bn : Option Addr} {dn : Nat} {Bl : Option Addr} {dl : Nat} {ns ls : List Pr} (hwin : WinOk ns ls)
    (ho : OwnW (w.heap.size + 1) wr (.slice An ns.length cn) (.slice Al ls.length cl) ns ls) (hc : OwnW base wr (.slice Bn ns.length dn) (.slice Bl ls.length dl) ns ls)
    (hlt : ∀ k, blksW (.slice An ns.length cn) (.slice Al ls.length cl) k → k < base) (hbase : w.heap.size + 1 ≤ base)
    (hbox : Blk wr Z 59 #[.slice An ns.length cn, .slice Al ls.length cl, .slice Bn ns.length dn, .slice Bl ls.length dl, .slice none 0 0])
    (hR : Blk wr w.heap.size 59 #[.slice none 0 0, .slice none 0 0, .slice none 0 0, .slice none 0 0, .slice none 0 0]) (hn1 : ∀ k, blksW (.slice An ns.length cn) (.slice Al ls.length cl) k → ¬ k = Z) (hn2 : ∀ k, blksW (.slice Bn ns.length dn) (.slice Bl ls.length dl) k → ¬ k = Z)
    (hcur : CurOk W0 v g wr) (hgr : w.grownBy wr (some g)) (hX : w.heap.size < Z) (hg : g < w.heap.size) :
    DSt W0 v g w Z wr (.slice An ns.length cn) (.slice Al ls.length cl) (.slice Bn ns.length dn) (.slice Bl ls.length dl) (.slice none 0 0) ⟨ns, ls, ns, ls, []⟩ [] := by
  have hz : ∀ k, ¬ blksT (.slice none 0 0) [] k := by
    rintro k (h | ⟨i, hi, _⟩)
    · simp [Value.ownBlock] at h
    · simp at hi
  refine ⟨okD_new hwin, ⟨ho, hc.mono hbase, OwnT.nil _ _, rfl, fun k hk hk2 => ?_, fun k _ hk => hz k hk, fun k _ hk => hz k hk⟩, hbox, hR, fun k hk => ?_, hcur, hgr, hX, hg⟩
  · first | (have h1 := hlt k hk2; have h2 := (hc.lt k hk).1; omega) | (have h1 := hlt k hk; have h2 := (hc.lt k hk2).1; omega)
  · rcases hk with hk | hk | hk
    · exact hn1 k hk
    · exact hn2 k hk
    · exact absurd hk (hz k)
end

/-- A drawn draft. -/
def DrawnD (W0 : World) (v : Value) (g : Nat) (w : World) (e : Ending) (w' : World) : Prop :=
  ∃ (D : Dr) (fs : List SF) (A0 : Option Addr) (c0 : Nat) (A1 : Option Addr) (c1 : Nat) (A2 : Option Addr) (c2 : Nat) (A3 : Option Addr) (c3 : Nat) (A4 : Option Addr) (c4 : Nat), e = .returned (.agg #[.slice A0 D.fn.length c0, .slice A1 D.fl.length c1, .slice A2 D.nn.length c2, .slice A3 D.nl.length c3, .slice A4 D.ss.length c4]) ∧ okD D = true ∧ D.ss.length ≤ 5 ∧
    OwnD (w.heap.size + 1) w' (.slice A0 D.fn.length c0) (.slice A1 D.fl.length c1) (.slice A2 D.nn.length c2) (.slice A3 D.nl.length c3) (.slice A4 D.ss.length c4) D fs ∧ CurOk W0 v g w' ∧ w.grownBy w' (some g)

set_option maxHeartbeats 16000000 in
set_option maxRecDepth 100000 in
theorem drawDraftC_any (W0 : World) (v : Value) (zs : List Int) (g : Nat) (w : World) (h : RB W0 v zs) (hle : zs.length ≤ 1048576) (hc : CurOk W0 v g w) :
    Calls Try.prog 78 #[.pointer (some ⟨g, 0, none⟩)] w (DrawnD W0 v g w) := by
  have hgl := hc.lt
  have HC := Lib.hid hc
  have HRB := Lib.hid h
  clear h hc
  go_enter Try.func78, Try.ntmps78
  go_wp2_with fail
  refine (drawSplit_any W0 v zs g _ HRB.out hle (HC.out.alloc _)).mono ?_
  rintro e w1 ⟨ns, ls, An, cn, Al, cl, rfl, ⟨hwin, hl0⟩, ho1, hc1, hg1⟩
  have hz1 := hg1.size
  simp at hz1
  have hR1 : Blk w1 w.heap.size 59 #[.slice none 0 0, .slice none 0 0, .slice none 0 0, .slice none 0 0, .slice none 0 0] := (Blk.new w _ _).grown hg1 (by omega)
  have hG1 := grownBy_trans (only_alloc (World.grownBy.refl w (some g)) (.cells #[.slice none 0 0, .slice none 0 0, .slice none 0 0, .slice none 0 0, .slice none 0 0] 59)) hg1
  have ho1' : OwnW (w.heap.size + 1) w1 (.slice An ns.length cn) (.slice Al ls.length cl) ns ls := ho1.mono (by simp)
  have hlt1 := ho1'.lt
  have hn12 := hwin.2.1
  have hl20 := hwin.2.2.1
  have HW := Lib.hid hwin
  obtain ⟨w2, hw2⟩ : ∃ u, u = w1.alloc (.cells #[.slice An ns.length cn, .slice Al ls.length cl] 27) := ⟨_, rfl⟩
  have hT2 : Blk w2 w1.heap.size 27 #[.slice An ns.length cn, .slice Al ls.length cl] := hw2 ▸ Blk.newAt rfl
  have ho2 := Lib.hid (show OwnW (w.heap.size + 1) w2 (.slice An ns.length cn) (.slice Al ls.length cl) ns ls from hw2 ▸ ho1'.alloc _)
  have hR2 : Blk w2 w.heap.size 59 #[.slice none 0 0, .slice none 0 0, .slice none 0 0, .slice none 0 0, .slice none 0 0] := hw2 ▸ hR1.alloc _
  have hc2 : CurOk W0 v g w2 := hw2 ▸ hc1.alloc _
  have hG2 : w.grownBy w2 (some g) := hw2 ▸ only_alloc hG1 _
  have hs2 : w1.heap.size < w2.heap.size := hT2.lt
  go_upto_region 2 with (fail)
  try rw [← hw2]
  clear hw2 hR1 hG1 hc1 hg1 ho1 ho1' hwin
  generalize w1.heap.size = T at *
  go_cut [4] (fun s4 wx => ∃ (Z : Nat) (Bn : Option Addr) (dn : Nat) (Bl : Option Addr) (dl : Nat), s4 = .pointer (some ⟨Z, 0, none⟩) ∧ DSt W0 v g w Z wx (.slice An ns.length cn) (.slice Al ls.length cl) (.slice Bn ns.length dn) (.slice Bl ls.length dl) (.slice none 0 0) ⟨ns, ls, ns, ls, []⟩ [])
  case first =>
    refine region_D (n := 5) (S := fun w' => w'.cell? ⟨T, 0, none⟩ = some (.slice An ns.length cn) ∧ w'.cell? ⟨T, 1, none⟩ = some (.slice Al ls.length cl)) (by kernel_rfl) ⟨hT2.cell 0, hT2.cell 1⟩ (fun hS => ?_)
    (refine D_take (i := 0) (v := ?_) rfl rfl (by kernel_rfl) (by kernel_rfl) (by kernel_rfl) (by kernel_rfl) (fun _ _ _ h => h) (Or.inl ⟨by rfl, ?_⟩) (by assumption) ?_); rotate_left; (focus (intro w' hSw; (try dsimp only at hSw); go_simp; (try with_reducible rfl))); (try simp only [Act.put, List.setIfInBounds_toArray, List.set_cons_zero, List.set_cons_succ])
    (refine D_take (i := 1) (v := ?_) rfl rfl (by kernel_rfl) (by kernel_rfl) (by kernel_rfl) (by kernel_rfl) (fun _ _ _ h => h) (Or.inl ⟨by rfl, ?_⟩) (by assumption) ?_); rotate_left; (focus (intro w' hSw; (try dsimp only at hSw); go_simp; (try with_reducible rfl))); (try simp only [Act.put, List.setIfInBounds_toArray, List.set_cons_zero, List.set_cons_succ])
    refine D_step2 (i := 2) (j := 4) rfl rfl (by kernel_rfl) (fun K hK => ?_) (fun K hK => ?_)
    · rw [if_pos (by rfl)]
      go_simp
      go_at_call 68
      refine (sCopy_any _ _ ns ls _ (OwnP.drew ho2.out.1).reads (OwnP.drew ho2.out.2.1).reads (by omega) (by omega)).mono ?_
      rintro e w3 ⟨Bn, dn, Bl, dl, rfl, ho3, hb3⟩
      have hbd : Below w2.heap.size w2 w3 := ((Below.refl w2.heap.size w2).drew).trans hb3
      have hT3 := hT2.below hbd hT2.lt
      have hlt3 := ho3.lt
      have hs3 := hbd.size
      go_wp2_with fail
      refine hK _ _ (fun _ => ⟨hT3.cell 0, hT3.cell 1⟩) (fun hS' => ?_)
      have hS2 := hS' (by decide)
      clear hK K hS hS'
      (try simp only [Act.put, List.setIfInBounds_toArray, List.set_cons_zero, List.set_cons_succ])
      (refine D_take (i := 3) (v := ?_) rfl rfl (by kernel_rfl) (by kernel_rfl) (by kernel_rfl) (by kernel_rfl) (fun _ _ _ h => h) (Or.inl ⟨by rfl, ?_⟩) (by assumption) ?_); rotate_left; (focus (intro w' hSw; (try dsimp only at hSw); go_simp; (try with_reducible rfl))); (try simp only [Act.put, List.setIfInBounds_toArray, List.set_cons_zero, List.set_cons_succ])
      (refine D_step (i := 4) rfl (by kernel_rfl) (fun K hK => ?_)); (rw [if_pos (by rfl)])
      go_simp
      refine hK _ _ (fun _ => ⟨(hT3.alloc _).cell 0, (hT3.alloc _).cell 1⟩) (fun hS' => ?_)
      clear hK K hS2 hS'
      (try simp only [Act.put, List.setIfInBounds_toArray, List.set_cons_zero, List.set_cons_succ])
      have hB4 := Blk.newAt (w := w3) (g := w3.heap.size) (t := 59) (cs := #[.slice none 0 0, .slice none 0 0, .slice none 0 0, .slice none 0 0, .slice none 0 0]) rfl
      (have z_0 := hB4.cell 0); (have z_1 := hB4.cell 1); (have z_2 := hB4.cell 2); (have z_3 := hB4.cell 3); (have z_4 := hB4.cell 4); simp only [List.getElem?_toArray, List.getElem?_cons_succ, List.getElem?_cons_zero] at z_0 z_1 z_2 z_3 z_4; (have z_f0 := hB4.frozen 0); (have z_f1 := hB4.frozen 1); (have z_f2 := hB4.frozen 2); (have z_f3 := hB4.frozen 3); (have z_f4 := hB4.frozen 4)
      (refine D_step (i := 5) rfl (by kernel_rfl) (fun K hK => ?_)); (rw [if_pos (by rfl)])
      go_simp
      refine hK _ _ (fun h => absurd rfl h) (fun _ => ?_)
      clear hK K z_0 z_1 z_2 z_3 z_4 z_f0 z_f1 z_f2 z_f3 z_f4 hB4
      (try simp only [Act.put, List.setIfInBounds_toArray, List.set_cons_zero, List.set_cons_succ])
      refine D_done (by kernel_rfl) ?_ _
      go_wp2
      go_meet
      have hod : Below w2.heap.size w2 w3 := hbd
      simp at hlt3
      exact ⟨w3.heap.size, Bn, dn, Bl, dl, rfl, DSt.start (base := w2.heap.size) HW.out ((ho2.out.kept hbd).alloc _) (ho3.alloc _) (fun k hk => (ho2.out.lt k hk).2) (by omega) (Blk.newAt rfl) ((hR2.below hbd hR2.lt).alloc _)
        (fun k hk e => by have := (ho2.out.lt k hk).2; omega) (fun k hk e => by have := (hlt3 k hk).2; omega) ((hc2.below hbd).alloc _) (only_alloc (grown_below hG2 hbd) _) (by omega) hgl⟩
    · rw [if_pos (by rfl)]
      go_simp
      have hBA := (Blk.newAt (w := w2) (g := w2.heap.size) (t := 59) (cs := #[.slice none 0 0, .slice none 0 0, .slice none 0 0, .slice none 0 0, .slice none 0 0]) rfl).drew
      have hbA : Below w2.heap.size w2 (w2.alloc (.cells #[.slice none 0 0, .slice none 0 0, .slice none 0 0, .slice none 0 0, .slice none 0 0] 59)).drew := ((Below.refl _ _).alloc (Nat.le_refl _) _).drew
      obtain ⟨wA, hwA⟩ : ∃ u, u = (w2.alloc (.cells #[.slice none 0 0, .slice none 0 0, .slice none 0 0, .slice none 0 0, .slice none 0 0] 59)).drew := ⟨_, rfl⟩
      have hsA : wA.heap.size = w2.heap.size + 1 := by rw [hwA]; simp
      rw [← hwA] at hBA hbA ⊢
      clear hwA
      have hTA := hT2.below hbA hT2.lt
      have hoA := ho2.out.kept hbA
      refine hK _ _ (fun _ => ⟨hTA.cell 0, hTA.cell 1⟩) (fun hS' => ?_)
      have hS2 := hS' (by decide)
      clear hK K hS hS'
      (try simp only [Act.put, List.setIfInBounds_toArray, List.set_cons_zero, List.set_cons_succ])
      (refine D_step (i := 2) rfl (by kernel_rfl) (fun K hK => ?_)); (rw [if_pos (by rfl)])
      go_simp
      go_at_call 68
      refine (sCopy_any _ _ ns ls _ hoA.1.reads hoA.2.1.reads (by omega) (by omega)).mono ?_
      rintro e w3 ⟨Bn, dn, Bl, dl, rfl, ho3, hb3⟩
      have hbd : Below w2.heap.size w2 w3 := hbA.trans (hb3.mono hbA.size)
      have hT3 := hT2.below hbd hT2.lt
      have hlt3 := ho3.lt
      have hs3 := hbd.size
      have hB3 := hBA.below hb3 hBA.lt
      have hB3l := hB3.lt
      go_wp2_with fail
      refine hK _ _ (fun _ => ⟨hT3.cell 0, hT3.cell 1⟩) (fun hS' => ?_)
      have hS3 := hS' (by decide)
      clear hK K hS2 hS'
      (try simp only [Act.put, List.setIfInBounds_toArray, List.set_cons_zero, List.set_cons_succ])
      (refine D_take (i := 3) (v := ?_) rfl rfl (by kernel_rfl) (by kernel_rfl) (by kernel_rfl) (by kernel_rfl) (fun _ _ _ h => h) (Or.inl ⟨by rfl, ?_⟩) (by assumption) ?_); rotate_left; (focus (intro w' hSw; (try dsimp only at hSw); go_simp; (try with_reducible rfl))); (try simp only [Act.put, List.setIfInBounds_toArray, List.set_cons_zero, List.set_cons_succ])
      (have z_0 := hB3.cell 0); (have z_1 := hB3.cell 1); (have z_2 := hB3.cell 2); (have z_3 := hB3.cell 3); (have z_4 := hB3.cell 4); simp only [List.getElem?_toArray, List.getElem?_cons_succ, List.getElem?_cons_zero] at z_0 z_1 z_2 z_3 z_4; (have z_f0 := hB3.frozen 0); (have z_f1 := hB3.frozen 1); (have z_f2 := hB3.frozen 2); (have z_f3 := hB3.frozen 3); (have z_f4 := hB3.frozen 4)
      (refine D_step (i := 5) rfl (by kernel_rfl) (fun K hK => ?_)); (rw [if_pos (by rfl)])
      go_simp
      refine hK _ _ (fun h => absurd rfl h) (fun _ => ?_)
      clear hK K z_0 z_1 z_2 z_3 z_4 z_f0 z_f1 z_f2 z_f3 z_f4
      (try simp only [Act.put, List.setIfInBounds_toArray, List.set_cons_zero, List.set_cons_succ])
      refine D_done (by kernel_rfl) ?_ _
      go_wp2
      go_meet
      rw [hsA] at hlt3
      have n1 : ∀ k, blksW (.slice An ns.length cn) (.slice Al ls.length cl) k → ¬ k = w2.heap.size := fun k hk e => by have := (ho2.out.lt k hk).2; omega
      have n2 : ∀ k, blksW (.slice Bn ns.length dn) (.slice Bl ls.length dl) k → ¬ k = w2.heap.size := fun k hk e => by have := (hlt3 k hk).1; omega
      have m1 : ¬ blksW (.slice An ns.length cn) (.slice Al ls.length cl) w2.heap.size := fun hk => n1 _ hk rfl
      have m2 : ¬ blksW (.slice Bn ns.length dn) (.slice Bl ls.length dl) w2.heap.size := fun hk => n2 _ hk rfl
      have hR3 := hR2.below hbd hR2.lt
      have hcu := hc2.below hbd
      have hgg := grown_below hG2 hbd
      have q1 : w.heap.size < w2.heap.size := by omega
      have q2 : g < w2.heap.size := by omega
      exact ⟨w2.heap.size, Bn, dn, Bl, dl, rfl, DSt.start (base := wA.heap.size) HW.out ((((((ho2.out.kept hbd).setFar (p := ⟨w2.heap.size, 0, none⟩) m1 _).setFar (p := ⟨w2.heap.size, 1, none⟩) m1 _).setFar (p := ⟨w2.heap.size, 2, none⟩) m1 _).setFar (p := ⟨w2.heap.size, 3, none⟩) m1 _).setFar (p := ⟨w2.heap.size, 4, none⟩) m1 _) (((((ho3.setFar (p := ⟨w2.heap.size, 0, none⟩) m2 _).setFar (p := ⟨w2.heap.size, 1, none⟩) m2 _).setFar (p := ⟨w2.heap.size, 2, none⟩) m2 _).setFar (p := ⟨w2.heap.size, 3, none⟩) m2 _).setFar (p := ⟨w2.heap.size, 4, none⟩) m2 _) (fun k hk => by have := (ho2.out.lt k hk).2; omega) (by omega) (((((hB3.set_ 0 _).set_ 1 _).set_ 2 _).set_ 3 _).set_ 4 _) (((((hR3.far (p := ⟨w2.heap.size, 0, none⟩) (show w.heap.size ≠ w2.heap.size by omega) _).far (p := ⟨w2.heap.size, 1, none⟩) (show w.heap.size ≠ w2.heap.size by omega) _).far (p := ⟨w2.heap.size, 2, none⟩) (show w.heap.size ≠ w2.heap.size by omega) _).far (p := ⟨w2.heap.size, 3, none⟩) (show w.heap.size ≠ w2.heap.size by omega) _).far (p := ⟨w2.heap.size, 4, none⟩) (show w.heap.size ≠ w2.heap.size by omega) _)
        n1 n2 (((((hcu.far (p := ⟨w2.heap.size, 0, none⟩) (show g < w2.heap.size from q2) _).far (p := ⟨w2.heap.size, 1, none⟩) (show g < w2.heap.size from q2) _).far (p := ⟨w2.heap.size, 2, none⟩) (show g < w2.heap.size from q2) _).far (p := ⟨w2.heap.size, 3, none⟩) (show g < w2.heap.size from q2) _).far (p := ⟨w2.heap.size, 4, none⟩) (show g < w2.heap.size from q2) _) (only_far (p := ⟨w2.heap.size, 4, none⟩) (only_far (p := ⟨w2.heap.size, 3, none⟩) (only_far (p := ⟨w2.heap.size, 2, none⟩) (only_far (p := ⟨w2.heap.size, 1, none⟩) (only_far (p := ⟨w2.heap.size, 0, none⟩) hgg (show w.heap.size ≤ w2.heap.size by omega) _) (show w.heap.size ≤ w2.heap.size by omega) _) (show w.heap.size ≤ w2.heap.size by omega) _) (show w.heap.size ≤ w2.heap.size by omega) _) (show w.heap.size ≤ w2.heap.size by omega) _) q1 hgl⟩
  case rest =>
    obtain ⟨Z, Bn, dn, Bl, dl, rfl, hst⟩ := hcut
    have HST := Lib.hid hst
    clear hst hT2 hR2 hc2 hG2 ho2 hs2 hlt1
    go_wp2_with fail
    refine (below_any W0 v zs g 6 _ HRB.out hle (by omega) HST.out.cur).mono ?_
    rintro e w3 ⟨k, rfl, k0, k1, hc3, hg3⟩
    have hst := HST.out.drawn hc3 hg3
    clear HST hc3 hg3
    obtain ⟨kn, rfl⟩ : ∃ kn : Nat, k = (kn : Int) := ⟨k.toNat, by omega⟩
    go_wp2
    go_loopw [5] (fun i wr => ∃ (kn : Nat) (A0 : Option Addr) (c0 : Nat) (A1 : Option Addr) (c1 : Nat) (A2 : Option Addr) (c2 : Nat) (A3 : Option Addr) (c3 : Nat) (A4 : Option Addr) (c4 : Nat) (D : Dr) (fs : List SF), i = .int .i64 kn ∧ D.ss.length + kn ≤ 5 ∧ DSt W0 v g w Z wr (.slice A0 D.fn.length c0) (.slice A1 D.fl.length c1) (.slice A2 D.nn.length c2) (.slice A3 D.nl.length c3) (.slice A4 D.ss.length c4) D fs) (fun i _ => (intOf i).toNat)
    case atStart => exact ⟨kn, _, _, _, _, _, _, _, _, none, 0, ⟨ns, ls, ns, ls, []⟩, [], rfl, by simp; omega, hst⟩
    case round =>
      clear hst
      obtain ⟨kn, A0, c0, A1, c1, A2, c2, A3, c3, A4, c4, D, fs, rfl, hkd, hst⟩ := hrel
      have HST := Lib.hid hst
      clear hst
      by_cases hk0 : kn = 0
      · subst hk0
        have hR := HST.out.res
        have hT := HST.out.box
        (have t_0 := hT.cell 0); (have t_1 := hT.cell 1); (have t_2 := hT.cell 2); (have t_3 := hT.cell 3); (have t_4 := hT.cell 4); simp only [List.getElem?_toArray, List.getElem?_cons_succ, List.getElem?_cons_zero] at t_0 t_1 t_2 t_3 t_4
        (have r_0 := hR.cell 0); (have r_1 := hR.cell 1); (have r_2 := hR.cell 2); (have r_3 := hR.cell 3); (have r_4 := hR.cell 4); simp only [List.getElem?_toArray, List.getElem?_cons_succ, List.getElem?_cons_zero] at r_0 r_1 r_2 r_3 r_4; (have r_f0 := hR.frozen 0); (have r_f1 := hR.frozen 1); (have r_f2 := hR.frozen 2); (have r_f3 := hR.frozen 3); (have r_f4 := hR.frozen 4)
        have hRl := hR.lt
        have hTl := hT.lt
        have HF := Lib.hid (fun u0 u1 u2 u3 u4 => HST.out.fin u0 u1 u2 u3 u4)
        have HOK := Lib.hid HST.out.ok
        clear hR hT HST
        go_wp2
        exact bodyPost_ret (v := .agg #[.slice A0 D.fn.length c0, .slice A1 D.fl.length c1, .slice A2 D.nn.length c2, .slice A3 D.nl.length c3, .slice A4 D.ss.length c4]) (by simp [results, Try.results78, go_sem, r_0, r_1, r_2, r_3, r_4, hRl]) rfl ⟨D, fs, A0, c0, A1, c1, A2, c2, A3, c3, A4, c4, rfl, HOK.out, by omega, (HF.out _ _ _ _ _).1, (HF.out _ _ _ _ _).2.1, (HF.out _ _ _ _ _).2.2⟩
      · have hkp : (0 : Int) < (kn : Int) := by omega
        have hnow := okD_now HST.out.ok
        have hnn : (0 : Int) < (D.nn.length : Int) := by have := hnow.1; omega
        clear hnow
        go_upto_region 6 with (fail)
        refine region_E (n := 20) (S := fun w' => w'.cell? ⟨Z, 0, none⟩ = some (.slice A0 D.fn.length c0) ∧ w'.cell? ⟨Z, 1, none⟩ = some (.slice A1 D.fl.length c1) ∧ w'.cell? ⟨Z, 2, none⟩ = some (.slice A2 D.nn.length c2) ∧ w'.cell? ⟨Z, 3, none⟩ = some (.slice A3 D.nl.length c3) ∧ w'.cell? ⟨Z, 4, none⟩ = some (.slice A4 D.ss.length c4)) (by kernel_rfl) ⟨HST.out.box.cell 0, HST.out.box.cell 1, HST.out.box.cell 2, HST.out.box.cell 3, HST.out.box.cell 4⟩ (fun hS => ?_)
        (refine E_take (i := 0) (v := ?_) rfl rfl (by kernel_rfl) (by kernel_rfl) (by kernel_rfl) (by kernel_rfl) (by kernel_rfl) (fun _ _ _ h => h) (Or.inl ⟨by rfl, ?_⟩) (by assumption) ?_); rotate_left; (focus (intro w' hSw; (try dsimp only at hSw); go_simp; (try with_reducible rfl))); (try simp only [Act.put, List.setIfInBounds_toArray, List.set_cons_zero, List.set_cons_succ])
        (refine E_take (i := 1) (v := ?_) rfl rfl (by kernel_rfl) (by kernel_rfl) (by kernel_rfl) (by kernel_rfl) (by kernel_rfl) (fun _ _ _ h => h) (Or.inl ⟨by rfl, ?_⟩) (by assumption) ?_); rotate_left; (focus (intro w' hSw; (try dsimp only at hSw); go_simp; (try with_reducible rfl))); (try simp only [Act.put, List.setIfInBounds_toArray, List.set_cons_zero, List.set_cons_succ])
        (refine E_take (i := 4) (v := ?_) rfl rfl (by kernel_rfl) (by kernel_rfl) (by kernel_rfl) (by kernel_rfl) (by kernel_rfl) (fun _ _ _ h => h) (Or.inl ⟨by rfl, ?_⟩) (by assumption) ?_); rotate_left; (focus (intro w' hSw; (try dsimp only at hSw); go_simp; (try with_reducible rfl))); (try simp only [Act.put, List.setIfInBounds_toArray, List.set_cons_zero, List.set_cons_succ])
        (refine E_take (i := 5) (v := ?_) rfl rfl (by kernel_rfl) (by kernel_rfl) (by kernel_rfl) (by kernel_rfl) (by kernel_rfl) (fun _ _ _ h => h) (Or.inl ⟨by rfl, ?_⟩) (by assumption) ?_); rotate_left; (focus (intro w' hSw; (try dsimp only at hSw); go_simp; (try with_reducible rfl))); (try simp only [Act.put, List.setIfInBounds_toArray, List.set_cons_zero, List.set_cons_succ])
        (refine E_take (i := 6) (v := ?_) rfl rfl (by kernel_rfl) (by kernel_rfl) (by kernel_rfl) (by kernel_rfl) (by kernel_rfl) (fun _ _ _ h => h) (Or.inl ⟨by rfl, ?_⟩) (by assumption) ?_); rotate_left; (focus (intro w' hSw; (try dsimp only at hSw); go_simp; (try with_reducible rfl))); (try simp only [Act.put, List.setIfInBounds_toArray, List.set_cons_zero, List.set_cons_succ])
        (refine E_take (i := 7) (v := ?_) rfl rfl (by kernel_rfl) (by kernel_rfl) (by kernel_rfl) (by kernel_rfl) (by kernel_rfl) (fun _ _ _ h => h) (Or.inl ⟨by rfl, ?_⟩) (by assumption) ?_); rotate_left; (focus (intro w' hSw; (try dsimp only at hSw); go_simp; (try with_reducible rfl))); (try simp only [Act.put, List.setIfInBounds_toArray, List.set_cons_zero, List.set_cons_succ])
        (refine E_take (i := 8) (v := ?_) rfl rfl (by kernel_rfl) (by kernel_rfl) (by kernel_rfl) (by kernel_rfl) (by kernel_rfl) (fun _ _ _ h => h) (Or.inl ⟨by rfl, ?_⟩) (by assumption) ?_); rotate_left; (focus (intro w' hSw; (try dsimp only at hSw); go_simp; (try with_reducible rfl))); (try simp only [Act.put, List.setIfInBounds_toArray, List.set_cons_zero, List.set_cons_succ])
        (refine E_take (i := 10) (v := ?_) rfl rfl (by kernel_rfl) (by kernel_rfl) (by kernel_rfl) (by kernel_rfl) (by kernel_rfl) (fun _ _ _ h => h) (Or.inl ⟨by rfl, ?_⟩) (by assumption) ?_); rotate_left; (focus (intro w' hSw; (try dsimp only at hSw); go_simp; (try with_reducible rfl))); (try simp only [Act.put, List.setIfInBounds_toArray, List.set_cons_zero, List.set_cons_succ])
        (refine E_take (i := 11) (v := ?_) rfl rfl (by kernel_rfl) (by kernel_rfl) (by kernel_rfl) (by kernel_rfl) (by kernel_rfl) (fun _ _ _ h => h) (Or.inl ⟨by rfl, ?_⟩) (by assumption) ?_); rotate_left; (focus (intro w' hSw; (try dsimp only at hSw); go_simp; (try with_reducible rfl))); (try simp only [Act.put, List.setIfInBounds_toArray, List.set_cons_zero, List.set_cons_succ])
        (refine E_take (i := 12) (v := ?_) rfl rfl (by kernel_rfl) (by kernel_rfl) (by kernel_rfl) (by kernel_rfl) (by kernel_rfl) (fun _ _ _ h => h) (Or.inl ⟨by rfl, ?_⟩) (by assumption) ?_); rotate_left; (focus (intro w' hSw; (try dsimp only at hSw); go_simp; (try with_reducible rfl))); (try simp only [Act.put, List.setIfInBounds_toArray, List.set_cons_zero, List.set_cons_succ])
        (refine E_take (i := 13) (v := ?_) rfl rfl (by kernel_rfl) (by kernel_rfl) (by kernel_rfl) (by kernel_rfl) (by kernel_rfl) (fun _ _ _ h => h) (Or.inl ⟨by rfl, ?_⟩) (by assumption) ?_); rotate_left; (focus (intro w' hSw; (try dsimp only at hSw); go_simp; (try with_reducible rfl))); (try simp only [Act.put, List.setIfInBounds_toArray, List.set_cons_zero, List.set_cons_succ])
        (refine E_take (i := 14) (v := ?_) rfl rfl (by kernel_rfl) (by kernel_rfl) (by kernel_rfl) (by kernel_rfl) (by kernel_rfl) (fun _ _ _ h => h) (Or.inl ⟨by rfl, ?_⟩) (by assumption) ?_); rotate_left; (focus (intro w' hSw; (try dsimp only at hSw); go_simp; (try with_reducible rfl))); (try simp only [Act.put, List.setIfInBounds_toArray, List.set_cons_zero, List.set_cons_succ])
        (refine E_step (i := 2) rfl (by kernel_rfl) (fun K hK => ?_)); (rw [if_pos (by rfl)])
        go_simp
        go_at_call 84
        refine (below_any W0 v zs g 3 _ HRB.out hle (by omega) HST.out.drew.cur).mono ?_
        rintro e wa ⟨xa, rfl, xa0, xa1, hca, hga⟩
        have HSTa := Lib.hid (HST.out.drew.drawn hca hga)
        clear hca hga
        go_wp2_with fail
        refine hK _ _ (fun _ => ⟨HSTa.out.box.cell 0, HSTa.out.box.cell 1, HSTa.out.box.cell 2, HSTa.out.box.cell 3, HSTa.out.box.cell 4⟩) (fun hS' => ?_)
        have hSa := hS' (by kernel_rfl)
        clear hK K hS hS' HST
        (try simp only [Act.put, List.setIfInBounds_toArray, List.set_cons_zero, List.set_cons_succ])
        have hwr : IntKind.i64.wrap (1 + xa) = 1 + xa := IntWalk.i64_in _ (by omega)
        (refine E_take (i := 3) (v := ?_) rfl rfl (by kernel_rfl) (by kernel_rfl) (by kernel_rfl) (by kernel_rfl) (by kernel_rfl) (fun _ _ _ h => h) (Or.inl ⟨by rfl, ?_⟩) (by assumption) ?_); rotate_left; (focus (intro w' hSw; (try dsimp only at hSw); go_simp; (try with_reducible rfl))); (try simp only [Act.put, List.setIfInBounds_toArray, List.set_cons_zero, List.set_cons_succ])
        clear hwr
        (refine E_step (i := 9) rfl (by kernel_rfl) (fun K hK => ?_)); (rw [if_pos (by rfl)])
        go_simp
        go_at_call 84
        refine (below_any W0 v zs g (D.nn.length : Int) _ HRB.out hle (by omega) HSTa.out.cur).mono ?_
        rintro e wb ⟨xb, rfl, xb0, xb1, hcb, hgb⟩
        have HSTb := Lib.hid (HSTa.out.drawn hcb hgb)
        clear hcb hgb
        go_wp2_with fail
        refine hK _ _ (fun _ => ⟨HSTb.out.box.cell 0, HSTb.out.box.cell 1, HSTb.out.box.cell 2, HSTb.out.box.cell 3, HSTb.out.box.cell 4⟩) (fun hS' => ?_)
        have hSb := hS' (by kernel_rfl)
        clear hK K hSa hS' HSTa
        (try simp only [Act.put, List.setIfInBounds_toArray, List.set_cons_zero, List.set_cons_succ])
        (refine E_step (i := 15) rfl (by kernel_rfl) (fun K hK => ?_)); (rw [if_pos (by rfl)])
        go_simp
        go_at_call 84
        refine (below_any W0 v zs g (D.nn.length : Int) _ HRB.out hle (by omega) HSTb.out.cur).mono ?_
        rintro e wc ⟨xc, rfl, xc0, xc1, hcc, hgc⟩
        have HSTc := Lib.hid (HSTb.out.drawn hcc hgc)
        clear hcc hgc
        go_wp2_with fail
        refine hK _ _ (fun _ => ⟨HSTc.out.box.cell 0, HSTc.out.box.cell 1, HSTc.out.box.cell 2, HSTc.out.box.cell 3, HSTc.out.box.cell 4⟩) (fun hS' => ?_)
        have hSc := hS' (by kernel_rfl)
        clear hK K hSb hS' HSTb
        (try simp only [Act.put, List.setIfInBounds_toArray, List.set_cons_zero, List.set_cons_succ])
        (refine E_step (i := 16) rfl (by kernel_rfl) (fun K hK => ?_)); (rw [if_pos (by rfl)])
        go_simp
        go_at_call 44
        have HLE := Lib.hid (okD_le HSTc.out.ok)
        have HOKn := Lib.hid (okD_do HSTc.out.ok (1 + xa) xb xc)
        have HLEN := Lib.hid (do_len D (1 + xa) xb xc)
        refine (sDoStep_at _ _ _ _ _ D (1 + xa) xb xc _ HSTc.out.own.reads HLE.out).mono ?_
        rintro e wd ⟨B0, d0, B1, d1, B2, d2, B3, d3, B4, d4, gs, rfl, hod, hbd⟩
        have HSTd := Lib.hid (HSTc.out.below hbd)
        have hZl : Z < wc.heap.size := HSTc.out.box.lt
        generalize doStepD D (1 + xa) xb xc = D' at *
        generalize doStepB D (1 + xa) xb xc = bb at *
        have HP := Lib.hid (HSTd.out.put HOKn.out hod hZl)
        clear hod hbd HSTc
        go_wp2_with fail
        refine hK _ _ (fun _ => ⟨HSTd.out.box.cell 0, HSTd.out.box.cell 1, HSTd.out.box.cell 2, HSTd.out.box.cell 3, HSTd.out.box.cell 4⟩) (fun hS' => ?_)
        have hSd := hS' (by kernel_rfl)
        clear hK K hSc hS'
        (try simp only [Act.put, List.setIfInBounds_toArray, List.set_cons_zero, List.set_cons_succ])
        (refine E_take (i := 17) (v := ?_) rfl rfl (by kernel_rfl) (by kernel_rfl) (by kernel_rfl) (by kernel_rfl) (by kernel_rfl) (fun _ _ _ h => h) (Or.inl ⟨by rfl, ?_⟩) (by assumption) ?_); rotate_left; (focus (intro w' hSw; (try dsimp only at hSw); go_simp; (try with_reducible rfl))); (try simp only [Act.put, List.setIfInBounds_toArray, List.set_cons_zero, List.set_cons_succ])
        (refine E_take (i := 18) (v := ?_) rfl rfl (by kernel_rfl) (by kernel_rfl) (by kernel_rfl) (by kernel_rfl) (by kernel_rfl) (fun _ _ _ h => h) (Or.inl ⟨by rfl, ?_⟩) (by assumption) ?_); rotate_left; (focus (intro w' hSw; (try dsimp only at hSw); go_simp; (try with_reducible rfl))); (try simp only [Act.put, List.setIfInBounds_toArray, List.set_cons_zero, List.set_cons_succ])
        (refine E_take0 (i := 19) (v := ?_) rfl (by decide) (by kernel_rfl) (by kernel_rfl) (by kernel_rfl) (fun _ _ _ h => h) (Or.inl ⟨by rfl, ?_⟩) (by assumption) ?_); rotate_left; (focus (intro w' hSw; (try dsimp only at hSw); go_simp; (try with_reducible rfl))); (try simp only [Act.put, List.setIfInBounds_toArray, List.set_cons_zero, List.set_cons_succ])
        have hT := HSTd.out.box
        (have t_0 := hT.cell 0); (have t_1 := hT.cell 1); (have t_2 := hT.cell 2); (have t_3 := hT.cell 3); (have t_4 := hT.cell 4); simp only [List.getElem?_toArray, List.getElem?_cons_succ, List.getElem?_cons_zero] at t_0 t_1 t_2 t_3 t_4; (have t_f0 := hT.frozen 0); (have t_f1 := hT.frozen 1); (have t_f2 := hT.frozen 2); (have t_f3 := hT.frozen 3); (have t_f4 := hT.frozen 4)
        have hTl := hT.lt
        (refine E_step (i := 20) rfl (by kernel_rfl) (fun K hK => ?_)); (rw [if_pos (by rfl)])
        go_simp
        refine hK _ _ (fun h => by cases h) (fun _ => ?_)
        clear hK K hSd hT HSTd t_0 t_1 t_2 t_3 t_4 t_f0 t_f1 t_f2 t_f3 t_f4
        (try simp only [Act.put, List.setIfInBounds_toArray, List.set_cons_zero, List.set_cons_succ])
        refine E_done (by kernel_rfl) ?_ _
        obtain ⟨kp, rfl⟩ : ∃ kp, kn = kp + 1 := ⟨kn - 1, by omega⟩
        have hsub : ((kp + 1 : Nat) : Int) - 1 = (kp : Int) := by omega
        have hlen := HLEN.out
        go_wp2
        go_roundw
        case rel => exact ⟨kp, B0, d0, B1, d1, B2, d2, B3, d3, B4, d4, D', gs, by go_num, by omega, HP.out⟩
        case measure => simp [intOf]

/-- A drawn draft of a code. -/
def DrawnF (w : World) (e : Ending) (w' : World) : Prop :=
  ∃ (D : Dr) (fs : List SF) (A0 : Option Addr) (c0 : Nat) (A1 : Option Addr) (c1 : Nat) (A2 : Option Addr) (c2 : Nat) (A3 : Option Addr) (c3 : Nat) (A4 : Option Addr) (c4 : Nat), e = .returned (.agg #[.slice A0 D.fn.length c0, .slice A1 D.fl.length c1, .slice A2 D.nn.length c2, .slice A3 D.nl.length c3, .slice A4 D.ss.length c4]) ∧ okD D = true ∧ D.ss.length ≤ 5 ∧
    OwnD w.heap.size w' (.slice A0 D.fn.length c0) (.slice A1 D.fl.length c1) (.slice A2 D.nn.length c2) (.slice A3 D.nl.length c3) (.slice A4 D.ss.length c4) D fs ∧ Below w.heap.size w w'

set_option maxHeartbeats 4000000 in
set_option maxRecDepth 100000 in
theorem drawDraft_any (v : Value) (zs : List Int) (w : World) (h : RB w v zs) (hle : zs.length ≤ 1048576) :
    Calls Try.prog 36 #[v] w (DrawnF w) := by
  have HRB := Lib.hid h
  clear h
  go_enter Try.func36, Try.ntmps36
  go_wp2_with fail
  have hb0 : Below w.heap.size w (w.alloc (.cells #[.slice none 0 0, .slice none 0 0, .slice none 0 0, .slice none 0 0, .slice none 0 0] 59)) := by (repeat' (first | (with_reducible exact Below.refl _ _) | (with_reducible assumption) | (with_reducible refine Below.drew ?_) | (with_reducible refine below_drewN ?_ _) | (with_reducible refine Below.alloc ?_ ?_ _) | (with_reducible refine Below.setCell ?_ ?_ _) | (with_reducible refine Below.step (by assumption) ?_ ?_))); all_goals (first | omega | (simp; done) | (simp; omega))
  have hR0 : Blk (w.alloc (.cells #[.slice none 0 0, .slice none 0 0, .slice none 0 0, .slice none 0 0, .slice none 0 0] 59)) w.heap.size 59 #[.slice none 0 0, .slice none 0 0, .slice none 0 0, .slice none 0 0, .slice none 0 0] := Blk.newAt rfl
  obtain ⟨w0, hw0⟩ : ∃ w0, w0 = w.alloc (.cells #[.slice none 0 0, .slice none 0 0, .slice none 0 0, .slice none 0 0, .slice none 0 0] 59) := ⟨_, rfl⟩
  have hs0 : w0.heap.size = w.heap.size + 1 := by rw [hw0]; simp
  rw [← hw0] at hb0 hR0 ⊢
  clear hw0
  refine (new_at v zs _ (HRB.out.below hb0) hle).mono ?_
  rintro e w1 ⟨g, rfl, hc1⟩
  go_wp2_with fail
  refine (drawDraftC_any w0 v zs g _ (HRB.out.below hb0) hle hc1).mono ?_
  rintro e w2 ⟨D, fs, A0, c0, A1, c1, A2, c2, A3, c3, A4, c4, rfl, hok, hln, ho, hc2, hg2⟩
  have hb02 := hc2.2.1
  have hz1 := hc1.2.1.size
  have hR2 := hR0.below hb02 hR0.lt
  have hRl := hR2.lt
  have hbw2 := hb0.trans (hb02.mono (by omega))
  have hz : ¬ blksD (.slice A0 D.fn.length c0) (.slice A1 D.fl.length c1) (.slice A2 D.nn.length c2) (.slice A3 D.nl.length c3) (.slice A4 D.ss.length c4) fs w.heap.size := fun hk => by have := (ho.lt _ hk).1; omega
  have HOK := Lib.hid hok
  have HO := Lib.hid (fun (u0 u1 u2 u3 u4 : Value) => (((((ho.setFar (p := ⟨w.heap.size, 0, none⟩) hz u0).setFar (p := ⟨w.heap.size, 1, none⟩) hz u1).setFar (p := ⟨w.heap.size, 2, none⟩) hz u2).setFar (p := ⟨w.heap.size, 3, none⟩) hz u3).setFar (p := ⟨w.heap.size, 4, none⟩) hz u4).mono (show w.heap.size ≤ w1.heap.size + 1 by omega))
  have HB := Lib.hid (fun (u0 u1 u2 u3 u4 : Value) => (((((hbw2.setCell (p := ⟨w.heap.size, 0, none⟩) (Nat.le_refl _) u0).setCell (p := ⟨w.heap.size, 1, none⟩) (Nat.le_refl _) u1).setCell (p := ⟨w.heap.size, 2, none⟩) (Nat.le_refl _) u2).setCell (p := ⟨w.heap.size, 3, none⟩) (Nat.le_refl _) u3).setCell (p := ⟨w.heap.size, 4, none⟩) (Nat.le_refl _) u4))
  clear hok ho hc2 hg2 hc1 hb02 hbw2 hb0 hR0 hz
  (have r_0 := hR2.cell 0); (have r_1 := hR2.cell 1); (have r_2 := hR2.cell 2); (have r_3 := hR2.cell 3); (have r_4 := hR2.cell 4); simp only [List.getElem?_toArray, List.getElem?_cons_succ, List.getElem?_cons_zero] at r_0 r_1 r_2 r_3 r_4; (have r_f0 := hR2.frozen 0); (have r_f1 := hR2.frozen 1); (have r_f2 := hR2.frozen 2); (have r_f3 := hR2.frozen 3); (have r_f4 := hR2.frozen 4)
  go_wp2
  exact bodyPost_ret (v := .agg #[.slice A0 D.fn.length c0, .slice A1 D.fl.length c1, .slice A2 D.nn.length c2, .slice A3 D.nl.length c3, .slice A4 D.ss.length c4]) (by simp [results, Try.results36, go_sem, r_0, r_1, r_2, r_3, r_4, hRl]) rfl ⟨D, fs, A0, c0, A1, c1, A2, c2, A3, c3, A4, c4, rfl, HOK.out, hln, HO.out _ _ _ _ _, HB.out _ _ _ _ _⟩

end Go.Proofs.Ytnpdincjekelaaa

namespace Go.Proofs.Ytnpdincjekelaaa
open Go.RowKit

theorem big_at (v : Value) (zs : List Int) (b : Bool) (w : World) (h : RB w v zs) (hb : decide ((1048576 : Int) < zs.length) = b) :
    Calls Try.prog 11 #[v] w fun e w' => e = .returned (.bool b) ∧ w = w' := by
  subst hb
  obtain ⟨A, c, rfl, hc, hm, hcell⟩ := h.form
  clear h hcell
  go_enter Try.func11, Try.ntmps11
  go_wp2
  go_ret
  exact ⟨rfl, rfl⟩

end Go.Proofs.Ytnpdincjekelaaa
