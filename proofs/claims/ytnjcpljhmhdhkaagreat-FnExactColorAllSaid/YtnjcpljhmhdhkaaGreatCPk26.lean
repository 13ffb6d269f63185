/- part 26 -/
import Derived.Test.YtnjcpljhmhdhkaaGreatCPk9
import Derived.Test.YtnjcpljhmhdhkaaGreatProg
import Derived.Lib.Small
import Derived.Lib.Walk
import Derived.Lib.BitFns
import Derived.Lib.Strings
set_option linter.unusedSimpArgs false
set_option linter.unusedVariables false
namespace Go.Proofs.YtnjcpljhmhdhkaaGreat
open Go.RowKit
attribute [local go_sem ↓] run_mn2 run_mx2
def joinG (a b x : Int) : Int := if x = mx2 a b then mn2 a b else x
def mgK (a b : Int) (g : List Int) (j : Nat) : List Int := (g.take j).map (joinG a b) ++ g.drop j
theorem mgK_zero (a b : Int) (g : List Int) : mgK a b g 0 = g := by simp [mgK]
theorem mgK_all (a b : Int) (g : List Int) : mgK a b g g.length = g.map (joinG a b) := by simp [mgK]
theorem mgK_len (a b : Int) (g : List Int) (j : Nat) : (mgK a b g j).length = g.length := by
  simp [mgK]; omega
theorem mgK_get (a b : Int) (g : List Int) (j : Nat) (h : j < g.length) : (mgK a b g j).getD j 0 = g.getD j 0 := by
  unfold mgK
  rw [List.getD, List.getElem?_append_right (by simp; omega)]
  simp [List.getD, show min j g.length = j by omega]
theorem mgK_succ (a b : Int) (g : List Int) (j : Nat) (h : j < g.length) : mgK a b g (j + 1) = (mgK a b g j).set j (joinG a b (g.getD j 0)) := by
  unfold mgK
  rw [List.set_append, if_neg (by simp; omega), List.take_succ_eq_append_getElem h, List.drop_eq_getElem_cons h]
  have e : ((g.take j).map (joinG a b)).length = j := by simp; omega
  rw [e, Nat.sub_self, List.set_cons_zero, List.map_append, List.map_cons, List.map_nil, List.append_assoc, List.singleton_append, show g.getD j 0 = g[j] by simp [List.getD, h]]
theorem mgK_yes {a b : Int} {g : List Int} {j : Nat} (h : j < g.length) (he : g.getD j 0 = mx2 a b) : mgK a b g (j + 1) = (mgK a b g j).set j (mn2 a b) := by
  rw [mgK_succ a b g j h, joinG, if_pos he]
theorem set_same : ∀ (l : List Int) (j : Nat) (h : j < l.length), l.set j (l.getD j 0) = l
  | x :: l, 0, _ => rfl
  | x :: l, j + 1, h => by
    have := set_same l j (by simpa using h)
    simp only [List.getD_cons_succ, List.set_cons_succ, this]
theorem mgK_no {a b : Int} {g : List Int} {j : Nat} (h : j < g.length) (he : ¬ g.getD j 0 = mx2 a b) : mgK a b g (j + 1) = mgK a b g j := by
  rw [mgK_succ a b g j h, joinG, if_neg he, ← mgK_get a b g j h]
  exact set_same _ _ (by rw [mgK_len]; exact h)
def pstep (g : List Int) (l : Pr) : List Int := g.map (joinG (g.getD l.1.toNat 0) (g.getD l.2.toNat 0))
def partsK (n : Nat) (ls : List Pr) (k : Nat) : List Int := (ls.take k).foldl pstep (natI (List.range n))
theorem foldl_pstep_len : ∀ (l : List Pr) (g : List Int), (l.foldl pstep g).length = g.length
  | [], g => rfl
  | p :: l, g => by rw [List.foldl_cons, foldl_pstep_len l]; simp [pstep]
theorem partsK_len (n : Nat) (ls : List Pr) (k : Nat) : (partsK n ls k).length = n := by
  unfold partsK
  rw [foldl_pstep_len]; simp [natI]
theorem partsK_zero (n : Nat) (ls : List Pr) : partsK n ls 0 = natI (List.range n) := rfl
theorem partsK_succ (n : Nat) (ls : List Pr) (k : Nat) (h : k < ls.length) (p q : Nat) (hp : (ndI ls k).1 = p) (hq : (ndI ls k).2 = q) :
    partsK n ls (k + 1) = (partsK n ls k).map (joinG ((partsK n ls k).getD p 0) ((partsK n ls k).getD q 0)) := by
  unfold partsK
  rw [List.take_succ_eq_append_getElem h, List.foldl_append, List.foldl_cons, List.foldl_nil, pstep]
  have e : ls[k] = ndI ls k := (ndI_nat ls k h).symm
  rw [e, hp, hq, Int.toNat_natCast, Int.toNat_natCast]
theorem natI_snoc (k : Nat) : natI (List.range (k + 1)) = natI (List.range k) ++ [(k : Int)] := by simp [natI, List.range_succ]
set_option maxHeartbeats 8000000 in
set_option maxRecDepth 100000 in
theorem sParts_any (vn vl : Value) (ns ls : List Pr) (w : World) (hn : RP w vn ns) (hl : RP w vl ls) (hm : ls.length ≤ 20) (hn12 : ns.length ≤ 12) (hn0 : 0 < ns.length) (hld : ∀ j : Nat, j < ls.length → leadB ns (ndI ls j) = true) :
    Calls Tryz.prog 119 #[.agg #[vn, vl]] w (RetI (partsK ns.length ls ls.length) w) := by
  obtain ⟨An, cn, rfl, hcn, hmn, _⟩ := hn.formI
  obtain ⟨Al, cl, rfl, hcl, hml, hcell⟩ := hl.formI
  unfold maxLen at hmn hml
  obtain ⟨i0, hi, iz0, iz1, iz2⟩ := info_parts infoInt
  have HLD := Lib.hid hld
  have HCELL := Lib.hid hcell
  clear hld hcell
  go_enter Tryz.func119, Tryz.ntmps119
  go_wp2
  go_loopw [3, 4] (fun v i wr => ∃ k : Nat, k ≤ ns.length ∧ i = .int .i64 k ∧ OwnI (w.heap.size + 1) wr v (natI (List.range k)) ∧ Blk wr w.heap.size 27 #[.slice An ns.length cn, .slice Al ls.length cl] ∧ Below w.heap.size w wr) (fun _ i _ => ns.length - (intOf i).toNat)
  case atStart => exact ⟨0, Nat.zero_le _, rfl, OwnI.made (by simp) (by simp), (Blk.newAt rfl).alloc _, by exact bel_⟩
  case round =>
    obtain ⟨k, hk, rfl, ho, hW, hbl⟩ := hrel
    have hsz := hW.lt
    obtain ⟨a_0, a_1⟩ := hW.c2
    obtain ⟨A1, c1, hv1⟩ := ho.form
    rw [natI_length, List.length_range] at hv1
    subst hv1
    by_cases hlt : k < ns.length
    · have HS := Lib.hid (natI_snoc k)
      have HGL : Hid ((natI (List.range k)).length = k) := Lib.hid (by simp [natI])
      generalize natI (List.range k) = G at *
      go_wp2_with (at_builtin; refine wpList_append_own _ rfl _ _ 31 rfl (w.heap.size + 1) 3 i0 (.int .i64 0) 1 8 Tryz.underlying31 hi iz0 iz1 iz2 rfl (by decide) _ _ _ rfl (World.ownsRow.alloc ho _) ⟨wr.heap.size, 0, none⟩ 1 1 [.int .i64 _] rfl rfl (cell_one_new _ _ _) (by intro u hu; simp at hu; subst hu; rfl) (by rw [HGL.out]; unfold maxLen; omega) (by rw [HGL.out]; omega) (by simp; omega) ?_)
      intro v2 w2 hown2 hg2 hne2
      have hb2 := (hbl.alloc (show w.heap.size ≤ wr.heap.size by omega) (.cells #[.int .i64 (k : Int)] 3)).grown hg2 (by simp; omega) (fun k hk => by have := (ho.lt k hk).1; omega)
      have hW2 : Blk w2 w.heap.size 27 #[.slice An ns.length cn, .slice Al ls.length cl] := (hg2.block _ (by simp; omega) (fun e => by have := (ho.lt _ e.symm).1; omega)).trans (hW.alloc _)
      have ho2 := Lib.hid (OwnI.snoc hown2)
      clear hg2 hne2 hown2 ho hW hbl a_0 a_1
      go_wp2
      go_roundw
      case rel => exact ⟨k + 1, by omega, by go_num, by rw [HS.out]; exact ho2.out, hW2, hb2⟩
      case measure => simp [intOf]; omega
    · have hkk : k = ns.length := by omega
      subst hkk
      rcases hcase : ho.2 with ⟨e0, e1⟩ | ⟨gb, cap, cur, e0, hbg, hrest⟩
      · rw [natI_length, List.length_range] at e1; omega
      clear hcase hrest
      injection e0 with e0 e1 e2
      subst e0 e2
      clear e1
      have hgz := (ho.lt gb rfl).2
      have hne : ¬ gb = w.heap.size := by omega
      have ho' := Lib.hid (show OwnI (w.heap.size + 1) wr (.slice (some ⟨gb, 0, none⟩) ns.length c1) (partsK ns.length ls 0) from ho)
      clear ho hlt hk
      go_wp2
      go_loopw [5] (fun i wr => ∃ k : Nat, k ≤ ls.length ∧ i = .int .i64 k ∧ OwnI (w.heap.size + 1) wr (.slice (some ⟨gb, 0, none⟩) ns.length c1) (partsK ns.length ls k) ∧ Blk wr w.heap.size 27 #[.slice An ns.length cn, .slice Al ls.length cl] ∧ Below w.heap.size w wr ∧ gb < wr.heap.size) (fun i _ => ls.length - (intOf i).toNat)
      case atStart => exact ⟨0, Nat.zero_le _, rfl, ho'.out, hW, hbl, hgz⟩
      case round =>
        clear ho' hW hbl hgz hsz a_0 a_1
        obtain ⟨k, hk, rfl, ho, hW, hbl, hgz⟩ := hrel
        have hsz := hW.lt
        obtain ⟨a_0, a_1⟩ := hW.c2
        by_cases hlt : k < ls.length
        · obtain ⟨b, off, rfl, hb, hcl⟩ := HCELL.out (by omega)
          obtain ⟨k0, k1⟩ := hcl k hlt
          have q0 := (hbl.cell (p := ⟨b, off + k * 2, none⟩) hb).trans k0
          have q1 := (hbl.cell (p := ⟨b, off + k * 2 + 1, none⟩) hb).trans k1
          obtain ⟨h1, h2, h3, _⟩ := leadB_iff.1 (HLD.out k hlt)
          obtain ⟨p, hp⟩ : ∃ p : Nat, (ndI ls k).1 = p := ⟨(ndI ls k).1.toNat, by omega⟩
          obtain ⟨q, hq⟩ : ∃ q : Nat, (ndI ls k).2 = q := ⟨(ndI ls k).2.toNat, by omega⟩
          have HS := Lib.hid (partsK_succ ns.length ls k hlt p q hp hq)
          have HGL := Lib.hid (partsK_len ns.length ls k)
          rw [hp] at q0 h1 h2
          rw [hq] at q1 h2 h3
          have hpn : p < ns.length := by omega
          have hqn : q < ns.length := by omega
          generalize partsK ns.length ls k = G at *
          have x0 := ho.cell (q := p) (by rw [HGL.out]; exact hpn)
          have x1 := ho.cell (q := q) (by rw [HGL.out]; exact hqn)
          obtain ⟨a, ha⟩ : ∃ a, G.getD p 0 = a := ⟨_, rfl⟩
          obtain ⟨c, hc⟩ : ∃ c, G.getD q 0 = c := ⟨_, rfl⟩
          rw [ha] at x0 HS
          rw [hc] at x1 HS
          have ip1 : (0 : Int) ≤ (p : Int) := by omega
          have ip2 : (p : Int) < (ns.length : Int) := by omega
          have iq1 : (0 : Int) ≤ (q : Int) := by omega
          have iq2 : (q : Int) < (ns.length : Int) := by omega
          have ho' := Lib.hid (show OwnI (w.heap.size + 1) wr (.slice (some ⟨gb, 0, none⟩) ns.length c1) (mgK a c G 0) by rw [mgK_zero]; exact ho)
          clear hcl k0 k1 hp hq ha hc ho h1 h2 h3
          go_wp2
          go_loopw [8] (fun x wr => ∃ j : Nat, j ≤ ns.length ∧ x = .int .i64 j ∧ OwnI (w.heap.size + 1) wr (.slice (some ⟨gb, 0, none⟩) ns.length c1) (mgK a c G j) ∧ Blk wr w.heap.size 27 #[.slice An ns.length cn, .slice (some ⟨b, off, none⟩) ls.length cl] ∧ Below w.heap.size w wr ∧ gb < wr.heap.size) (fun x _ => ns.length - (intOf x).toNat)
          case atStart => exact ⟨0, Nat.zero_le _, rfl, ho'.out, hW, hbl, hgz⟩
          case round =>
            clear ho' hW hbl hgz hsz a_0 a_1 q0 q1 x0 x1
            obtain ⟨j, hj, rfl, ho, hW, hbl, hgz⟩ := hrel
            have hsz := hW.lt
            obtain ⟨a_0, a_1⟩ := hW.c2
            by_cases hlj : j < ns.length
            · have hjg : j < G.length := by rw [HGL.out]; exact hlj
              have x0 := ho.cell (q := j) (by rw [mgK_len]; exact hjg)
              rw [mgK_get a c G j hjg] at x0
              have HY := Lib.hid (fun he => mgK_yes (a := a) (b := c) hjg he)
              have HN := Lib.hid (fun he => mgK_no (a := a) (b := c) hjg he)
              generalize G.getD j 0 = x at *
              by_cases he : x = mx2 a c
              · have e1 : (x == mx2 a c) = true := beq_iff_eq.2 he
                have fp := ho.frz j
                have HO := Lib.hid (show OwnI (w.heap.size + 1) (wr.setCell ⟨gb, j, none⟩ (.int .i64 (mn2 a c))) (.slice (some ⟨gb, 0, none⟩) ns.length c1) (mgK a c G (j + 1)) by rw [HY.out he]; exact ho.set_ j _)
                have HB2 := Lib.hid (hbl.setCell (p := ⟨gb, j, none⟩) (show w.heap.size ≤ gb by omega) (.int .i64 (mn2 a c)))
                have HW2 := Lib.hid (hW.far (p := ⟨gb, j, none⟩) (Ne.symm hne) (.int .i64 (mn2 a c)))
                clear ho hW hbl he a_0 a_1
                go_wp2
                go_roundw
                case rel => exact ⟨j + 1, by omega, by go_num, HO.out, HW2.out, HB2.out, by simpa using hgz⟩
                case measure => simp [intOf]; omega
              · have e1 : (x == mx2 a c) = false := beq_eq_false_iff_ne.2 he
                have HO := Lib.hid (show OwnI (w.heap.size + 1) wr (.slice (some ⟨gb, 0, none⟩) ns.length c1) (mgK a c G (j + 1)) by rw [HN.out he]; exact ho)
                clear ho he
                go_wp2
                go_roundw
                case rel => exact ⟨j + 1, by omega, by go_num, HO.out, hW, hbl, hgz⟩
                case measure => simp [intOf]; omega
            · have hjj : j = ns.length := by omega
              subst hjj
              have HO := Lib.hid (show OwnI (w.heap.size + 1) wr (.slice (some ⟨gb, 0, none⟩) ns.length c1) (partsK ns.length ls (k + 1)) by
                rw [HS.out, ← mgK_all]; rw [HGL.out]; exact ho)
              clear ho
              go_wp2
              go_roundw
              case rel => exact ⟨k + 1, by omega, by go_num, HO.out, hW, hbl, hgz⟩
              case measure => simp [intOf]; omega
        · have hkk : k = ls.length := by omega
          subst hkk
          have HO := Lib.hid ho
          clear ho
          go_wp2
          go_ret
          exact ⟨_, rfl, HO.out.mono (by omega), hbl⟩
noncomputable def wholeB (ns ls : List Pr) : Bool := winB ns ls && (decide (0 < ls.length) && (partsK ns.length ls ls.length).all (· == 0))
theorem whole_win {ns ls : List Pr} (h : wholeB ns ls = true) : WinOk ns ls ∧ 0 < ls.length := by
  unfold wholeB at h
  rw [Bool.and_eq_true, Bool.and_eq_true] at h
  exact ⟨winB_true.1 h.1, by simpa using h.2.1⟩
set_option maxHeartbeats 4000000 in
set_option maxRecDepth 100000 in
theorem sWhole_any (vn vl : Value) (ns ls : List Pr) (w : World) (hn : RP w vn ns) (hl : RP w vl ls) :
    Calls Tryz.prog 45 #[.agg #[vn, vl]] w fun e w' => e = .returned (.bool (wholeB ns ls)) ∧ Below w.heap.size w w' := by
  obtain ⟨An, cn, rfl, hcn, hmn, _⟩ := hn.formI
  obtain ⟨Al, cl, rfl, hcl, hml, _⟩ := hl.formI
  unfold maxLen at hmn hml
  have hb0 : Below w.heap.size w (w.alloc (.cells #[.slice An ns.length cn, .slice Al ls.length cl] 27)) := by exact bel_
  cases hw : winB ns ls
  · have HR : Hid (wholeB ns ls = false) := Lib.hid (by simp [wholeB, hw])
    go_enter Tryz.func45, Tryz.ntmps45
    go_wp2_with fail
    refine (sWinOk_at _ _ ns ls _ _ (hn.below hb0) (hl.below hb0) hw).mono ?_
    rintro e w1 ⟨rfl, hb1⟩; (first | (with_reducible have hcf1 := bcell_drew hb1) | have hcf1 := bcell hb1); obtain ⟨hc1, hf1⟩ := hcf1; have hz1 := hb1.size; (try simp at hz1); (try have hp1_0 : w.heap.size < w1.heap.size := by omega); (try have hp1_1 : w.heap.size + 1 < w1.heap.size := by omega); (try have hp1_2 : w.heap.size + 1 + 1 < w1.heap.size := by omega); (try have hp1_3 : w.heap.size + 1 + 1 + 1 < w1.heap.size := by omega)
    go_wp2
    go_ret
    exact ⟨ret_bool HR.out.symm, by exact bel_⟩
  · by_cases h0 : ls.length = 0
    · have HR : Hid (wholeB ns ls = false) := Lib.hid (by simp [wholeB, hw, h0])
      have e1 : ((ls.length : Int) == 0) = true := by simp [h0]
      clear h0
      go_enter Tryz.func45, Tryz.ntmps45
      go_wp2_with fail
      refine (sWinOk_at _ _ ns ls _ _ (hn.below hb0) (hl.below hb0) hw).mono ?_
      rintro e w1 ⟨rfl, hb1⟩; (first | (with_reducible have hcf1 := bcell_drew hb1) | have hcf1 := bcell hb1); obtain ⟨hc1, hf1⟩ := hcf1; have hz1 := hb1.size; (try simp at hz1); (try have hp1_0 : w.heap.size < w1.heap.size := by omega); (try have hp1_1 : w.heap.size + 1 < w1.heap.size := by omega); (try have hp1_2 : w.heap.size + 1 + 1 < w1.heap.size := by omega); (try have hp1_3 : w.heap.size + 1 + 1 + 1 < w1.heap.size := by omega)
      go_wp2
      go_ret
      exact ⟨ret_bool HR.out.symm, by exact bel_⟩
    · have hok := winB_true.1 hw
      have HR : Hid (wholeB ns ls = (partsK ns.length ls ls.length).all (· == 0)) := Lib.hid (by simp [wholeB, hw]; omega)
      have e1 : ((ls.length : Int) == 0) = false := by simp [h0]
      have HOK := Lib.hid hok
      clear hok h0
      go_enter Tryz.func45, Tryz.ntmps45
      go_wp2_with fail
      refine (sWinOk_at _ _ ns ls _ _ (hn.below hb0) (hl.below hb0) hw).mono ?_
      rintro e w1 ⟨rfl, hb1⟩
      have hbw1 : Below w.heap.size w w1 := by exact bel_
      have hW1 : Blk w1 w.heap.size 27 #[.slice An ns.length cn, .slice Al ls.length cl] := (Blk.newAt rfl).below hb1 (by simp)
      have hsz := hW1.lt
      obtain ⟨a_0, a_1⟩ := hW1.c2
      clear hb1
      go_wp2_with fail
      refine (sParts_any _ _ ns ls _ (hn.below hbw1) (hl.below hbw1) HOK.out.2.2.1 HOK.out.2.1 HOK.out.1 (fun j hj => (HOK.out.2.2.2.2.2 j hj).1)).mono ?_
      rintro e w2 ⟨v, rfl, ho2, hb2⟩
      have hbw2 := hbw1.trans (hb2.mono hbw1.size)
      have HGL := Lib.hid (partsK_len ns.length ls ls.length)
      obtain ⟨A, c, rfl, hc, hm, hcell⟩ := ho2.reads.form
      generalize partsK ns.length ls ls.length = G at *
      unfold maxLen at hm
      clear hb2 ho2 hW1 a_0 a_1 hsz hbw1 hw
      go_wp2
      go_loop [4] (fun i => ∃ k : Nat, k ≤ G.length ∧ i = .int .i64 k ∧ (G.take k).all (· == 0) = true) (fun i => G.length - (intOf i).toNat)
      case atStart => exact ⟨0, Nat.zero_le _, rfl, by simp⟩
      case round =>
        obtain ⟨k, hk, rfl, hall⟩ := hrel
        by_cases hlt : k < G.length
        · obtain ⟨b, off, rfl, hb, hcl⟩ := hcell (by omega)
          have hck := hcl k hlt
          clear hcl hcell
          have hts : (G.take (k + 1)).all (· == 0) = (G.getD k 0 == 0) := by
            rw [List.take_succ_eq_append_getElem hlt, List.all_append, hall]
            simp [List.getD, List.getElem?_eq_getElem hlt]
          have hex : (G.getD k 0 == 0) = false → G.all (· == 0) = false := by
            intro h0
            rw [List.all_eq_false]
            exact ⟨G[k], List.getElem_mem hlt, by simpa [List.getD, List.getElem?_eq_getElem hlt] using h0⟩
          generalize hx : G.getD k 0 = x at *
          have HTS := Lib.hid hts
          have HEX := Lib.hid hex
          clear hts hex hall hx
          by_cases hq : x = 0
          · have HQ : Hid ((x == 0) = true) := Lib.hid (by simp [hq])
            have e2 : (x != 0) = false := by simp [hq]
            clear hq
            go_wp2
            go_round
            case rel => exact ⟨k + 1, by omega, by go_num, by rw [HTS.out]; exact HQ.out⟩
            case measure => simp [intOf]; omega
          · have HQ : Hid ((x == 0) = false) := Lib.hid (by simp [hq])
            have e2 : (x != 0) = true := by simp [hq]
            clear hq
            go_wp2
            go_ret
            exact ⟨ret_bool (by rw [HR.out]; exact (HEX.out HQ.out).symm), hbw2⟩
        · have hkk : G.length ≤ k := by omega
          rw [List.take_of_length_le hkk] at hall
          have HA := Lib.hid hall
          clear hall hcell
          go_wp2
          go_ret
          exact ⟨ret_bool (by rw [HR.out]; exact HA.out.symm), hbw2⟩
theorem sWhole_at (vn vl : Value) (ns ls : List Pr) (b : Bool) (w : World) (hn : RP w vn ns) (hl : RP w vl ls) (hb : wholeB ns ls = b) :
    Calls Tryz.prog 45 #[.agg #[vn, vl]] w fun e w' => e = .returned (.bool b) ∧ Below w.heap.size w w' := by
  subst hb; exact sWhole_any vn vl ns ls w hn hl
end Go.Proofs.YtnjcpljhmhdhkaaGreat

namespace Go.Proofs.YtnjcpljhmhdhkaaGreat
open Go.RowKit
theorem bits_or_nat {a b : Nat} (ha : a < 2 ^ 63) (hb : b < 2 ^ 63) : bits .or .i64 (a : Int) (b : Int) = ((a ||| b : Nat) : Int) := by
  have e : bits .or .i64 (a : Int) (b : Int) = IntKind.i64.wrap ((BitVec.ofInt 64 (a : Int) ||| BitVec.ofInt 64 (b : Int)).toNat : Int) := rfl
  have h : a ||| b < 2 ^ 63 := Nat.or_lt_two_pow ha hb
  rw [e, BitVec.ofInt_natCast, BitVec.ofInt_natCast, BitVec.toNat_or, BitVec.toNat_ofNat, BitVec.toNat_ofNat, Nat.mod_eq_of_lt (by omega), Nat.mod_eq_of_lt (by omega)]
  exact IntWalk.i64_in _ (by omega)
theorem bits_and_nat {a b : Nat} (ha : a < 2 ^ 63) (hb : b < 2 ^ 63) : bits .and .i64 (a : Int) (b : Int) = ((a &&& b : Nat) : Int) := by
  have e : bits .and .i64 (a : Int) (b : Int) = IntKind.i64.wrap ((BitVec.ofInt 64 (a : Int) &&& BitVec.ofInt 64 (b : Int)).toNat : Int) := rfl
  have h : a &&& b ≤ a := Nat.and_le_left
  rw [e, BitVec.ofInt_natCast, BitVec.ofInt_natCast, BitVec.toNat_and, BitVec.toNat_ofNat, BitVec.toNat_ofNat, Nat.mod_eq_of_lt (by omega), Nat.mod_eq_of_lt (by omega)]
  exact IntWalk.i64_in _ (by omega)
theorem bits_xor_nat {a b : Nat} (ha : a < 2 ^ 63) (hb : b < 2 ^ 63) : bits .xor .i64 (a : Int) (b : Int) = ((a ^^^ b : Nat) : Int) := by
  have e : bits .xor .i64 (a : Int) (b : Int) = IntKind.i64.wrap ((BitVec.ofInt 64 (a : Int) ^^^ BitVec.ofInt 64 (b : Int)).toNat : Int) := rfl
  have h : a ^^^ b < 2 ^ 63 := Nat.xor_lt_two_pow ha hb
  rw [e, BitVec.ofInt_natCast, BitVec.ofInt_natCast, BitVec.toNat_xor, BitVec.toNat_ofNat, BitVec.toNat_ofNat, Nat.mod_eq_of_lt (by omega), Nat.mod_eq_of_lt (by omega)]
  exact IntWalk.i64_in _ (by omega)
theorem bit_test {s k : Nat} (hs : s < 2 ^ 62) : bits .and .i64 ((s : Int) / 2 ^ k) 1 = if s.testBit k then 1 else 0 := by
  have e : ((s : Int) / 2 ^ k) = ((s / 2 ^ k : Nat) : Int) := by rw [Int.natCast_ediv]; rfl
  have hle : s / 2 ^ k ≤ s := Nat.div_le_self _ _
  have h := bits_and_nat (a := s / 2 ^ k) (b := 1) (by omega) (by omega)
  rw [e, show (1 : Int) = ((1 : Nat) : Int) from rfl, h, Nat.and_one_is_mod, Nat.testBit_eq_decide_div_mod_eq]
  have h2 : s / 2 ^ k % 2 = 0 ∨ s / 2 ^ k % 2 = 1 := by omega
  rcases h2 with h2 | h2 <;> simp [h2]
theorem shl_one {k : Nat} (hk : k < 62) : IntKind.i64.wrap (1 * 2 ^ k) = ((2 ^ k : Nat) : Int) := by
  have h : (2 : Nat) ^ k < 2 ^ 62 := Nat.pow_lt_pow_right (by omega) hk
  have e : (1 * 2 ^ k : Int) = ((2 ^ k : Nat) : Int) := by rw [Int.one_mul, Int.natCast_pow]; rfl
  rw [e]
  clear e
  generalize (2 : Nat) ^ k = z at *
  exact IntWalk.i64_in _ (by omega)
def memS (s m : Nat) : List Nat := (List.range m).filter (s.testBit ·)
theorem memS_succ_yes {s m : Nat} (h : s.testBit m = true) : memS s (m + 1) = memS s m ++ [m] := by simp [memS, List.range_succ, List.filter_append, h]
theorem memS_succ_no {s m : Nat} (h : s.testBit m = false) : memS s (m + 1) = memS s m := by simp [memS, List.range_succ, List.filter_append, h]
theorem memS_le (s m : Nat) : (memS s m).length ≤ m := by
  have := List.length_filter_le (s.testBit ·) (List.range m)
  simpa [memS] using this
theorem memS_all {s m : Nat} : (memS s m).length = m ↔ ∀ i, i < m → s.testBit i = true := by
  constructor
  · intro h i hi
    have h2 : (List.range m).filter (s.testBit ·) = List.range m := List.length_filter_eq_length_iff.1 (by simpa [memS] using h) |> fun h3 => List.filter_eq_self.2 h3
    have := List.filter_eq_self.1 h2 i (List.mem_range.2 hi)
    exact this
  · intro h
    have h2 : (List.range m).filter (s.testBit ·) = List.range m := List.filter_eq_self.2 (fun i hi => h i (List.mem_range.1 hi))
    simp [memS, h2]
theorem memS_more {s m : Nat} (h : s < 2 ^ m) : ∀ j, memS s (m + j) = memS s m
  | 0 => rfl
  | j + 1 => by
    rw [show m + (j + 1) = (m + j) + 1 by omega, memS_succ_no (Nat.testBit_lt_two_pow (Nat.lt_of_lt_of_le h (Nat.pow_le_pow_right (by omega) (by omega))))]
    exact memS_more h j
end Go.Proofs.YtnjcpljhmhdhkaaGreat

namespace Go.Proofs.YtnjcpljhmhdhkaaGreat
def addS (s : Nat) (l : Pr) : Nat := if s.testBit l.1.toNat || s.testBit l.2.toNat then s ||| (2 ^ l.1.toNat ||| 2 ^ l.2.toNat) else s
def roundS (s : Nat) (ls : List Pr) : Nat := ls.foldl addS s
def roundsS (s : Nat) (ls : List Pr) : Nat → Nat
  | 0 => s
  | k + 1 => roundS (roundsS s ls k) ls
theorem addS_sub (s : Nat) (l : Pr) {i : Nat} (h : s.testBit i = true) : (addS s l).testBit i = true := by
  unfold addS
  split
  · rw [Nat.testBit_or, h]; rfl
  · exact h
theorem roundS_sub : ∀ (ls : List Pr) (s : Nat) {i : Nat}, s.testBit i = true → (roundS s ls).testBit i = true
  | [], s, i, h => h
  | l :: ls, s, i, h => by
    show (roundS (addS s l) ls).testBit i = true
    exact roundS_sub ls _ (addS_sub s l h)
theorem roundS_append (s : Nat) (a b : List Pr) : roundS s (a ++ b) = roundS (roundS s a) b := by simp [roundS]
theorem addS_lt {s m : Nat} {l : Pr} (hs : s < 2 ^ m) (h1 : l.1.toNat < m) (h2 : l.2.toNat < m) : addS s l < 2 ^ m := by
  unfold addS
  split
  · exact Nat.or_lt_two_pow hs (Nat.or_lt_two_pow (Nat.pow_lt_pow_right (by omega) h1) (Nat.pow_lt_pow_right (by omega) h2))
  · exact hs
theorem roundS_lt {m : Nat} : ∀ (ls : List Pr) (s : Nat), s < 2 ^ m → (∀ l ∈ ls, l.1.toNat < m ∧ l.2.toNat < m) → roundS s ls < 2 ^ m
  | [], s, h, _ => h
  | l :: ls, s, h, hl => by
    show roundS (addS s l) ls < 2 ^ m
    exact roundS_lt ls _ (addS_lt h (hl l (by simp)).1 (hl l (by simp)).2) (fun x hx => hl x (by simp [hx]))
theorem roundsS_lt {m : Nat} {ls : List Pr} {s : Nat} (h : s < 2 ^ m) (hl : ∀ l ∈ ls, l.1.toNat < m ∧ l.2.toNat < m) : ∀ k, roundsS s ls k < 2 ^ m
  | 0 => h
  | k + 1 => roundS_lt ls _ (roundsS_lt h hl k) hl
theorem round_fix {s : Nat} {ls : List Pr} (h : roundS s ls = s) : ∀ l ∈ ls, (s.testBit l.1.toNat = true ↔ s.testBit l.2.toNat = true) := by
  have key : ∀ (ls : List Pr) (t : Nat), (∀ i, s.testBit i = true → t.testBit i = true) → (∀ i, (roundS t ls).testBit i = true → s.testBit i = true) → ∀ l ∈ ls, (s.testBit l.1.toNat = true ↔ s.testBit l.2.toNat = true) := by
    intro ls
    induction ls with
    | nil => intro t _ _ l hl; cases hl
    | cons x ls ih =>
      intro t h1 h2 l hl
      have h3 : ∀ i, (addS t x).testBit i = true → s.testBit i = true := fun i hi => h2 i (roundS_sub ls _ hi)
      rcases List.mem_cons.1 hl with rfl | hl
      · have h4 : s.testBit l.1.toNat = true ∨ s.testBit l.2.toNat = true → s.testBit l.1.toNat = true ∧ s.testBit l.2.toNat = true := by
          intro hor
          have ht : (t.testBit l.1.toNat || t.testBit l.2.toNat) = true := by
            rcases hor with h5 | h5
            · rw [h1 _ h5]; rfl
            · rw [h1 _ h5, Bool.or_true]
          have e : addS t l = t ||| (2 ^ l.1.toNat ||| 2 ^ l.2.toNat) := by unfold addS; rw [if_pos ht]
          constructor
          · exact h3 _ (by rw [e]; simp [Nat.testBit_or, Nat.testBit_two_pow_self])
          · exact h3 _ (by rw [e]; simp [Nat.testBit_or, Nat.testBit_two_pow_self])
        exact ⟨fun h5 => (h4 (.inl h5)).2, fun h5 => (h4 (.inr h5)).1⟩
      · exact ih (addS t x) (fun i hi => addS_sub t x (h1 i hi)) h2 l hl
  exact key ls s (fun _ h => h) (fun i hi => by rw [h] at hi; exact hi)
theorem memS_mono {s t m : Nat} (h : ∀ i, s.testBit i = true → t.testBit i = true) : (memS s m).length ≤ (memS t m).length := by
  induction m with
  | zero => simp [memS]
  | succ m ih =>
    cases hs : s.testBit m
    · rw [memS_succ_no hs]
      cases ht : t.testBit m
      · rw [memS_succ_no ht]; exact ih
      · rw [memS_succ_yes ht]; simp; omega
    · rw [memS_succ_yes hs, memS_succ_yes (h m hs)]; simp; exact ih
theorem memS_strict {s t m : Nat} (h : ∀ i, s.testBit i = true → t.testBit i = true) (hs : s < 2 ^ m) (ht : t < 2 ^ m) (hne : s ≠ t) : (memS s m).length < (memS t m).length := by
  have hi : ∃ i, i < m ∧ s.testBit i = false ∧ t.testBit i = true := by
    apply Classical.byContradiction
    intro hc
    apply hne
    apply Nat.eq_of_testBit_eq
    intro i
    cases h1 : s.testBit i
    · cases h2 : t.testBit i
      · rfl
      · have hm : i < m := by
          apply Classical.byContradiction
          intro hm
          rw [Nat.testBit_lt_two_pow (Nat.lt_of_lt_of_le ht (Nat.pow_le_pow_right (by omega) (by omega)))] at h2
          cases h2
        exact absurd ⟨i, hm, h1, h2⟩ hc
    · exact (h i h1).symm
  obtain ⟨i, him, h1, h2⟩ := hi
  clear hs ht hne
  induction m with
  | zero => omega
  | succ m ih =>
    by_cases he : i = m
    · subst he
      rw [memS_succ_no h1, memS_succ_yes h2]
      have := memS_mono (m := i) h
      simp; omega
    · have := ih (by omega)
      cases hs : s.testBit m
      · rw [memS_succ_no hs]
        cases ht : t.testBit m
        · rw [memS_succ_no ht]; exact this
        · rw [memS_succ_yes ht]; simp; omega
      · rw [memS_succ_yes hs, memS_succ_yes (h m hs)]; simp; exact this
theorem rounds_fix {s m : Nat} {ls : List Pr} (hs : s < 2 ^ m) (h0 : 0 < (memS s m).length) (hl : ∀ l ∈ ls, l.1.toNat < m ∧ l.2.toNat < m) : roundS (roundsS s ls m) ls = roundsS s ls m := by
  apply Classical.byContradiction
  intro hc
  have stay : ∀ k j, roundS (roundsS s ls k) ls = roundsS s ls k → roundsS s ls (k + j) = roundsS s ls k := by
    intro k j hk
    induction j with
    | zero => rfl
    | succ j ih => show roundS (roundsS s ls (k + j)) ls = _; rw [ih, hk]
  have hne : ∀ k, k ≤ m → roundS (roundsS s ls k) ls ≠ roundsS s ls k := by
    intro k hk he
    have := stay k (m - k) he
    rw [show k + (m - k) = m by omega] at this
    rw [this] at hc
    exact hc he
  have grow : ∀ k, k ≤ m → k < (memS (roundsS s ls k) m).length := by
    intro k
    induction k with
    | zero => intro _; exact h0
    | succ k ih =>
      intro hk
      have h1 := ih (by omega)
      have h2 := memS_strict (s := roundsS s ls k) (t := roundS (roundsS s ls k) ls) (m := m) (fun i hi => roundS_sub ls _ hi) (roundsS_lt hs hl k) (roundS_lt ls _ (roundsS_lt hs hl k) hl) (fun e => hne k (by omega) e.symm)
      show k + 1 < (memS (roundS (roundsS s ls k) ls) m).length
      omega
  have h1 := grow m (Nat.le_refl _)
  have h2 := memS_le (roundsS s ls m) m
  omega
theorem joinG_cases (a b x : Int) : joinG a b x = x ∨ (x = mx2 a b ∧ joinG a b x = mn2 a b) := by
  unfold joinG; split
  · rename_i h; exact .inr ⟨h, rfl⟩
  · exact .inl rfl
theorem mxmn (a b : Int) : (mx2 a b = a ∧ mn2 a b = b) ∨ (mx2 a b = b ∧ mn2 a b = a) := by
  rw [mx2_eq, mn2_eq]; omega
theorem getD_mapG {g : List Int} {f : Int → Int} {i : Nat} (h : i < g.length) : (g.map f).getD i 0 = f (g.getD i 0) := by
  simp [List.getD, h]
def EndsIn (n : Nat) (ls : List Pr) : Prop := ∀ j : Nat, j < ls.length → ∃ p q : Nat, (ndI ls j).1 = p ∧ (ndI ls j).2 = q ∧ p < n ∧ q < n
theorem parts_bd {n : Nat} {ls : List Pr} (hl : EndsIn n ls) : ∀ k, k ≤ ls.length → ∀ i, i < n → 0 ≤ (partsK n ls k).getD i 0 ∧ (partsK n ls k).getD i 0 ≤ i
  | 0, _, i, hi => by
    rw [partsK_zero]
    have : (natI (List.range n)).getD i 0 = (i : Int) := by simp [natI, List.getD, hi]
    rw [this]; omega
  | k + 1, hk, i, hi => by
    obtain ⟨p, q, h1, h2, h3, h4⟩ := hl k (by omega)
    rw [partsK_succ n ls k (by omega) p q h1 h2, getD_mapG (by rw [partsK_len]; exact hi)]
    have hb := parts_bd hl k (by omega)
    have hp := hb p h3
    have hq := hb q h4
    have h0 := hb i hi
    rcases joinG_cases ((partsK n ls k).getD p 0) ((partsK n ls k).getD q 0) ((partsK n ls k).getD i 0) with h | ⟨h, h'⟩
    · rw [h]; exact h0
    · rw [h']
      rw [mx2_eq] at h
      rw [mn2_eq]
      omega
theorem parts_closed {n : Nat} {ls : List Pr} (hl : EndsIn n ls) (C : Nat → Prop) (hC : ∀ j : Nat, j < ls.length → ∀ p q : Nat, (ndI ls j).1 = p → (ndI ls j).2 = q → (C p ↔ C q)) : ∀ k, k ≤ ls.length → ∀ i, i < n → (C i ↔ C ((partsK n ls k).getD i 0).toNat)
  | 0, _, i, hi => by
    rw [partsK_zero]
    have : (natI (List.range n)).getD i 0 = (i : Int) := by simp [natI, List.getD, hi]
    rw [this, Int.toNat_natCast]
  | k + 1, hk, i, hi => by
    obtain ⟨p, q, h1, h2, h3, h4⟩ := hl k (by omega)
    rw [partsK_succ n ls k (by omega) p q h1 h2, getD_mapG (by rw [partsK_len]; exact hi)]
    have ih := parts_closed hl C hC k (by omega)
    have hp := ih p h3
    have hq := ih q h4
    have h0 := ih i hi
    have hpq := hC k (by omega) p q h1 h2
    generalize (partsK n ls k).getD p 0 = a at *
    generalize (partsK n ls k).getD q 0 = b at *
    generalize (partsK n ls k).getD i 0 = x at *
    rcases joinG_cases a b x with h | ⟨h, h'⟩
    · rw [h]; exact h0
    · rw [h', h0, h]
      rcases mxmn a b with ⟨e1, e2⟩ | ⟨e1, e2⟩ <;> rw [e1, e2]
      · rw [← hp, ← hq, hpq]
      · rw [← hp, ← hq, hpq]
theorem parts_same {n : Nat} {ls : List Pr} (hl : EndsIn n ls) : ∀ k, k ≤ ls.length → ∀ j, j < k → ∀ p q : Nat, (ndI ls j).1 = p → (ndI ls j).2 = q → (partsK n ls k).getD p 0 = (partsK n ls k).getD q 0
  | 0, _, j, hj, _, _, _, _ => absurd hj (by omega)
  | k + 1, hk, j, hj, p, q, hp, hq => by
    obtain ⟨p', q', h1, h2, h3, h4⟩ := hl k (by omega)
    obtain ⟨p2, q2, g1, g2, g3, g4⟩ := hl j (by omega)
    have e1 : p2 = p := by rw [hp] at g1; omega
    have e2 : q2 = q := by rw [hq] at g2; omega
    subst e1 e2
    rw [partsK_succ n ls k (by omega) p' q' h1 h2, getD_mapG (by rw [partsK_len]; exact g3), getD_mapG (by rw [partsK_len]; exact g4)]
    by_cases he : j = k
    · subst he
      have e3 : p' = p2 := by rw [hp] at h1; omega
      have e4 : q' = q2 := by rw [hq] at h2; omega
      subst e3 e4
      generalize (partsK n ls j).getD p' 0 = a
      generalize (partsK n ls j).getD q' 0 = b
      unfold joinG
      rcases mxmn a b with ⟨x1, x2⟩ | ⟨x1, x2⟩ <;> rw [x1, x2] <;> split <;> split <;> simp_all
    · rw [parts_same hl k (by omega) j (by omega) p2 q2 hp hq]
theorem whole_set {n : Nat} {ls : List Pr} (hl : EndsIn n ls) (hn : 0 < n) :
    (memS (roundsS 1 ls n) n).length = n ↔ (partsK n ls ls.length).all (· == 0) = true := by
  have hl' : ∀ l ∈ ls, l.1.toNat < n ∧ l.2.toNat < n := by
    intro l hm
    obtain ⟨j, hj, e⟩ := List.getElem_of_mem hm
    obtain ⟨p, q, h1, h2, h3, h4⟩ := hl j hj
    rw [ndI_nat ls j hj, e] at h1 h2
    rw [h1, h2, Int.toNat_natCast, Int.toNat_natCast]
    exact ⟨h3, h4⟩
  have h1 : (1 : Nat) < 2 ^ n := Nat.one_lt_two_pow (by omega)
  have hm1 : 0 < (memS 1 n).length := List.length_pos_of_mem (a := 0) (by simp [memS, hn])
  have hf := round_fix (rounds_fix h1 hm1 hl')
  have hsub : ∀ k, (roundsS 1 ls k).testBit 0 = true := by
    intro k
    induction k with
    | zero => show (1 : Nat).testBit 0 = true; decide
    | succ k ih => exact roundS_sub ls _ ih
  generalize hS : roundsS 1 ls n = S at *
  rw [memS_all, List.all_eq_true]
  constructor
  · intro hall x hx
    obtain ⟨i, hi, e⟩ := List.getElem_of_mem hx
    have hin : i < n := by rw [partsK_len] at hi; exact hi
    have lab : ∀ k, ∀ i, i < n → (roundsS 1 ls k).testBit i = true → (partsK n ls ls.length).getD i 0 = (partsK n ls ls.length).getD 0 0 := by
      have step : ∀ (m : Nat), m ≤ ls.length → ∀ s : Nat, (∀ i, i < n → s.testBit i = true → (partsK n ls ls.length).getD i 0 = (partsK n ls ls.length).getD 0 0) → ∀ i, i < n → (roundS s (ls.take m)).testBit i = true → (partsK n ls ls.length).getD i 0 = (partsK n ls ls.length).getD 0 0 := by
        intro m
        induction m with
        | zero => intro _ s h i hi hb; exact h i hi (by simpa [roundS] using hb)
        | succ m ih =>
          intro hm s h i hi hb
          have ih' := ih (by omega) s h
          rw [List.take_succ_eq_append_getElem (by omega), roundS_append] at hb
          generalize roundS s (ls.take m) = t at *
          obtain ⟨p, q, g1, g2, g3, g4⟩ := hl m (by omega)
          have hpq := parts_same hl ls.length (Nat.le_refl _) m (by omega) p q g1 g2
          rw [ndI_nat ls m (by omega)] at g1 g2
          have hb' : (addS t ls[m]).testBit i = true := hb
          unfold addS at hb'
          rw [g1, g2, Int.toNat_natCast, Int.toNat_natCast] at hb'
          split at hb'
          · rename_i hor
            rw [Nat.testBit_or, Nat.testBit_or, Bool.or_eq_true, Bool.or_eq_true] at hb'
            have hlab : (partsK n ls ls.length).getD p 0 = (partsK n ls ls.length).getD 0 0 := by
              rw [Bool.or_eq_true] at hor
              rcases hor with h5 | h5
              · exact ih' p g3 h5
              · rw [hpq]; exact ih' q g4 h5
            rcases hb' with h5 | h5 | h5
            · exact ih' i hi h5
            · rw [Nat.testBit_two_pow] at h5
              have : p = i := by simpa using h5
              rw [← this]; exact hlab
            · rw [Nat.testBit_two_pow] at h5
              have : q = i := by simpa using h5
              rw [← this, ← hpq]; exact hlab
          · exact ih' i hi hb'
      intro k
      induction k with
      | zero =>
        intro i hi hb
        have : i = 0 := by
          apply Classical.byContradiction
          intro h
          rw [show roundsS 1 ls 0 = 2 ^ 0 from rfl, Nat.testBit_two_pow] at hb
          have : 0 = i := by simpa using hb
          omega
        rw [this]
      | succ k ih =>
        intro i hi hb
        have := step ls.length (Nat.le_refl _) (roundsS 1 ls k) ih i hi
        rw [List.take_length] at this
        exact this hb
    have h2 := lab n i hin (by rw [hS]; exact hall i hin)
    have h3 := parts_bd hl ls.length (Nat.le_refl _) 0 hn
    have h4 : (partsK n ls ls.length).getD i 0 = x := by simp [List.getD, hi, e]
    rw [h4] at h2
    have : x = 0 := by omega
    simp [this]
  · intro hall i hi
    have hc := parts_closed hl (fun i => S.testBit i = true) (fun j hj p q hp hq => by
      have := hf ls[j] (List.getElem_mem hj)
      rw [ndI_nat ls j hj] at hp hq
      rw [hp, hq, Int.toNat_natCast, Int.toNat_natCast] at this
      exact this) ls.length (Nat.le_refl _) i hi
    rw [hc]
    have hlen : i < (partsK n ls ls.length).length := by rw [partsK_len]; exact hi
    have h2 := hall (partsK n ls ls.length)[i] (List.getElem_mem hlen)
    have h3 : (partsK n ls ls.length).getD i 0 = 0 := by simpa [List.getD, hlen] using h2
    rw [h3]
    have := hsub n
    rw [hS] at this
    exact this
end Go.Proofs.YtnjcpljhmhdhkaaGreat

namespace Go.Proofs.YtnjcpljhmhdhkaaGreat
open Go.RowKit
set_option maxHeartbeats 2000000 in
set_option maxRecDepth 100000 in
theorem len64_any (x : Int) (w : World) (h0 : 0 ≤ x) (h : x ≤ 12) :
    Calls Tryz.prog 285 #[.int .u64 x] w fun e w' => (∃ k : Int, e = .returned (.int .i64 k)) ∧ w = w' := by
  go_enter Tryz.func285, Tryz.ntmps285
  go_wp2
  all_goals go_ret
  all_goals exact ⟨⟨_, rfl⟩, rfl⟩
set_option maxHeartbeats 2000000 in
set_option maxRecDepth 100000 in
theorem len_any (x : Int) (w : World) (h0 : 0 ≤ x) (h : x ≤ 12) :
    Calls Tryz.prog 274 #[.int .u64 x] w fun e w' => (∃ k : Int, e = .returned (.int .i64 k)) ∧ w = w' := by
  go_enter Tryz.func274, Tryz.ntmps274
  go_wp2_with (go_at_call 285; refine (len64_any _ _ h0 h).mono ?_; rintro e w' ⟨⟨k, rfl⟩, rfl⟩)
  all_goals go_ret
  all_goals exact ⟨⟨_, rfl⟩, rfl⟩
end Go.Proofs.YtnjcpljhmhdhkaaGreat
