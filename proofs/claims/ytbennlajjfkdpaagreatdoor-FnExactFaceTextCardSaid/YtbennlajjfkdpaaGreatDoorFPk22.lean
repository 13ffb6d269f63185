/- part 22 -/
import Derived.Test.YtbennlajjfkdpaaGreatDoorFPk18
set_option linter.unusedSimpArgs false
set_option linter.unusedVariables false
namespace Go.Proofs.YtbennlajjfkdpaaGreatDoor
open Go.RowKit
attribute [local go_sem ↓] run_mn2 run_mx2
def joinG (a b x : Int) : Int := if x = mx2 a b then mn2 a b else x
def mgK (a b : Int) (g : List Int) (j : Nat) : List Int := (g.take j).map (joinG a b) ++ g.drop j
theorem mgK_zero (a b : Int) (g : List Int) : mgK a b g 0 = g := by simp [mgK]
theorem mgK_all (a b : Int) (g : List Int) : mgK a b g g.length = g.map (joinG a b) := by simp [mgK]
theorem mgK_len (a b : Int) (g : List Int) (j : Nat) : (mgK a b g j).length = g.length := by
  simp [mgK]; omega
theorem mgK_get (a b : Int) (g : List Int) (j : Nat) (h : j < g.length) : (mgK a b g j).getD j 0 = g.getD j 0 := by
  unfold mgK
  rw [List.getD, List.getElem?_append_right (by simp; omega)]
  simp [List.getD, show min j g.length = j by omega]
theorem mgK_succ (a b : Int) (g : List Int) (j : Nat) (h : j < g.length) : mgK a b g (j + 1) = (mgK a b g j).set j (joinG a b (g.getD j 0)) := by
  unfold mgK
  rw [List.set_append, if_neg (by simp; omega), List.take_succ_eq_append_getElem h, List.drop_eq_getElem_cons h]
  have e : ((g.take j).map (joinG a b)).length = j := by simp; omega
  rw [e, Nat.sub_self, List.set_cons_zero, List.map_append, List.map_cons, List.map_nil, List.append_assoc, List.singleton_append, show g.getD j 0 = g[j] by simp [List.getD, h]]
theorem mgK_yes {a b : Int} {g : List Int} {j : Nat} (h : j < g.length) (he : g.getD j 0 = mx2 a b) : mgK a b g (j + 1) = (mgK a b g j).set j (mn2 a b) := by
  rw [mgK_succ a b g j h, joinG, if_pos he]
theorem set_same : ∀ (l : List Int) (j : Nat) (h : j < l.length), l.set j (l.getD j 0) = l
  | x :: l, 0, _ => rfl
  | x :: l, j + 1, h => by
    have := set_same l j (by simpa using h)
    simp only [List.getD_cons_succ, List.set_cons_succ, this]
theorem mgK_no {a b : Int} {g : List Int} {j : Nat} (h : j < g.length) (he : ¬ g.getD j 0 = mx2 a b) : mgK a b g (j + 1) = mgK a b g j := by
  rw [mgK_succ a b g j h, joinG, if_neg he, ← mgK_get a b g j h]
  exact set_same _ _ (by rw [mgK_len]; exact h)
def pstep (g : List Int) (l : Pr) : List Int := g.map (joinG (g.getD l.1.toNat 0) (g.getD l.2.toNat 0))
def partsK (n : Nat) (ls : List Pr) (k : Nat) : List Int := (ls.take k).foldl pstep (natI (List.range n))
theorem foldl_pstep_len : ∀ (l : List Pr) (g : List Int), (l.foldl pstep g).length = g.length
  | [], g => rfl
  | p :: l, g => by rw [List.foldl_cons, foldl_pstep_len l]; simp [pstep]
theorem partsK_len (n : Nat) (ls : List Pr) (k : Nat) : (partsK n ls k).length = n := by
  unfold partsK
  rw [foldl_pstep_len]; simp [natI]
theorem partsK_zero (n : Nat) (ls : List Pr) : partsK n ls 0 = natI (List.range n) := rfl
theorem partsK_succ (n : Nat) (ls : List Pr) (k : Nat) (h : k < ls.length) (p q : Nat) (hp : (ndI ls k).1 = p) (hq : (ndI ls k).2 = q) :
    partsK n ls (k + 1) = (partsK n ls k).map (joinG ((partsK n ls k).getD p 0) ((partsK n ls k).getD q 0)) := by
  unfold partsK
  rw [List.take_succ_eq_append_getElem h, List.foldl_append, List.foldl_cons, List.foldl_nil, pstep]
  have e : ls[k] = ndI ls k := (ndI_nat ls k h).symm
  rw [e, hp, hq, Int.toNat_natCast, Int.toNat_natCast]
theorem natI_snoc (k : Nat) : natI (List.range (k + 1)) = natI (List.range k) ++ [(k : Int)] := by simp [natI, List.range_succ]
set_option maxHeartbeats 8000000 in
set_option maxRecDepth 100000 in
theorem sParts_any (vn vl : Value) (ns ls : List Pr) (w : World) (hn : RP w vn ns) (hl : RP w vl ls) (hm : ls.length ≤ 20) (hn12 : ns.length ≤ 12) (hn0 : 0 < ns.length) (hld : ∀ j : Nat, j < ls.length → leadB ns (ndI ls j) = true) :
    Calls Tryz.prog 88 #[.agg #[vn, vl]] w (RetI (partsK ns.length ls ls.length) w) := by
  obtain ⟨An, cn, rfl, hcn, hmn, _⟩ := hn.formI
  obtain ⟨Al, cl, rfl, hcl, hml, hcell⟩ := hl.formI
  unfold maxLen at hmn hml
  obtain ⟨i0, hi, iz0, iz1, iz2⟩ := info_parts infoInt
  have HLD := Lib.hid hld
  have HCELL := Lib.hid hcell
  clear hld hcell
  go_enter Tryz.func88, Tryz.ntmps88
  go_wp2
  go_loopw [3, 4] (fun v i wr => ∃ k : Nat, k ≤ ns.length ∧ i = .int .i64 k ∧ OwnI (w.heap.size + 1) wr v (natI (List.range k)) ∧ Blk wr w.heap.size 31 #[.slice An ns.length cn, .slice Al ls.length cl] ∧ Below w.heap.size w wr) (fun _ i _ => ns.length - (intOf i).toNat)
  case atStart => exact ⟨0, Nat.zero_le _, rfl, OwnI.made (by simp) (by simp), (Blk.newAt rfl).alloc _, by exact bel_⟩
  case round =>
    obtain ⟨k, hk, rfl, ho, hW, hbl⟩ := hrel
    have hsz := hW.lt
    obtain ⟨a_0, a_1⟩ := hW.c2
    obtain ⟨A1, c1, hv1⟩ := ho.form
    rw [natI_length, List.length_range] at hv1
    subst hv1
    by_cases hlt : k < ns.length
    · have HS := Lib.hid (natI_snoc k)
      have HGL : Hid ((natI (List.range k)).length = k) := Lib.hid (by simp [natI])
      generalize natI (List.range k) = G at *
      go_wp2_with (at_builtin; refine wpList_append_own _ rfl _ _ 42 rfl (w.heap.size + 1) 3 i0 (.int .i64 0) 1 8 Tryz.underlying42 hi iz0 iz1 iz2 rfl (by decide) _ _ _ rfl (World.ownsRow.alloc ho _) ⟨wr.heap.size, 0, none⟩ 1 1 [.int .i64 _] rfl rfl (cell_one_new _ _ _) (by intro u hu; simp at hu; subst hu; rfl) (by rw [HGL.out]; unfold maxLen; omega) (by rw [HGL.out]; omega) (by simp; omega) ?_)
      intro v2 w2 hown2 hg2 hne2
      have hb2 := (hbl.alloc (show w.heap.size ≤ wr.heap.size by omega) (.cells #[.int .i64 (k : Int)] 3)).grown hg2 (by simp; omega) (fun k hk => by have := (ho.lt k hk).1; omega)
      have hW2 : Blk w2 w.heap.size 31 #[.slice An ns.length cn, .slice Al ls.length cl] := (hg2.block _ (by simp; omega) (fun e => by have := (ho.lt _ e.symm).1; omega)).trans (hW.alloc _)
      have ho2 := Lib.hid (OwnI.snoc hown2)
      clear hg2 hne2 hown2 ho hW hbl a_0 a_1
      go_wp2
      go_roundw
      case rel => exact ⟨k + 1, by omega, by go_num, by rw [HS.out]; exact ho2.out, hW2, hb2⟩
      case measure => simp [intOf]; omega
    · have hkk : k = ns.length := by omega
      subst hkk
      rcases hcase : ho.2 with ⟨e0, e1⟩ | ⟨gb, cap, cur, e0, hbg, hrest⟩
      · rw [natI_length, List.length_range] at e1; omega
      clear hcase hrest
      injection e0 with e0 e1 e2
      subst e0 e2
      clear e1
      have hgz := (ho.lt gb rfl).2
      have hne : ¬ gb = w.heap.size := by omega
      have ho' := Lib.hid (show OwnI (w.heap.size + 1) wr (.slice (some ⟨gb, 0, none⟩) ns.length c1) (partsK ns.length ls 0) from ho)
      clear ho hlt hk
      go_wp2
      go_loopw [5] (fun i wr => ∃ k : Nat, k ≤ ls.length ∧ i = .int .i64 k ∧ OwnI (w.heap.size + 1) wr (.slice (some ⟨gb, 0, none⟩) ns.length c1) (partsK ns.length ls k) ∧ Blk wr w.heap.size 31 #[.slice An ns.length cn, .slice Al ls.length cl] ∧ Below w.heap.size w wr ∧ gb < wr.heap.size) (fun i _ => ls.length - (intOf i).toNat)
      case atStart => exact ⟨0, Nat.zero_le _, rfl, ho'.out, hW, hbl, hgz⟩
      case round =>
        clear ho' hW hbl hgz hsz a_0 a_1
        obtain ⟨k, hk, rfl, ho, hW, hbl, hgz⟩ := hrel
        have hsz := hW.lt
        obtain ⟨a_0, a_1⟩ := hW.c2
        by_cases hlt : k < ls.length
        · obtain ⟨b, off, rfl, hb, hcl⟩ := HCELL.out (by omega)
          obtain ⟨k0, k1⟩ := hcl k hlt
          have q0 := (hbl.cell (p := ⟨b, off + k * 2, none⟩) hb).trans k0
          have q1 := (hbl.cell (p := ⟨b, off + k * 2 + 1, none⟩) hb).trans k1
          obtain ⟨h1, h2, h3, _⟩ := leadB_iff.1 (HLD.out k hlt)
          obtain ⟨p, hp⟩ : ∃ p : Nat, (ndI ls k).1 = p := ⟨(ndI ls k).1.toNat, by omega⟩
          obtain ⟨q, hq⟩ : ∃ q : Nat, (ndI ls k).2 = q := ⟨(ndI ls k).2.toNat, by omega⟩
          have HS := Lib.hid (partsK_succ ns.length ls k hlt p q hp hq)
          have HGL := Lib.hid (partsK_len ns.length ls k)
          rw [hp] at q0 h1 h2
          rw [hq] at q1 h2 h3
          have hpn : p < ns.length := by omega
          have hqn : q < ns.length := by omega
          generalize partsK ns.length ls k = G at *
          have x0 := ho.cell (q := p) (by rw [HGL.out]; exact hpn)
          have x1 := ho.cell (q := q) (by rw [HGL.out]; exact hqn)
          obtain ⟨a, ha⟩ : ∃ a, G.getD p 0 = a := ⟨_, rfl⟩
          obtain ⟨c, hc⟩ : ∃ c, G.getD q 0 = c := ⟨_, rfl⟩
          rw [ha] at x0 HS
          rw [hc] at x1 HS
          have ip1 : (0 : Int) ≤ (p : Int) := by omega
          have ip2 : (p : Int) < (ns.length : Int) := by omega
          have iq1 : (0 : Int) ≤ (q : Int) := by omega
          have iq2 : (q : Int) < (ns.length : Int) := by omega
          have ho' := Lib.hid (show OwnI (w.heap.size + 1) wr (.slice (some ⟨gb, 0, none⟩) ns.length c1) (mgK a c G 0) by rw [mgK_zero]; exact ho)
          clear hcl k0 k1 hp hq ha hc ho h1 h2 h3
          go_wp2
          go_loopw [8] (fun x wr => ∃ j : Nat, j ≤ ns.length ∧ x = .int .i64 j ∧ OwnI (w.heap.size + 1) wr (.slice (some ⟨gb, 0, none⟩) ns.length c1) (mgK a c G j) ∧ Blk wr w.heap.size 31 #[.slice An ns.length cn, .slice (some ⟨b, off, none⟩) ls.length cl] ∧ Below w.heap.size w wr ∧ gb < wr.heap.size) (fun x _ => ns.length - (intOf x).toNat)
          case atStart => exact ⟨0, Nat.zero_le _, rfl, ho'.out, hW, hbl, hgz⟩
          case round =>
            clear ho' hW hbl hgz hsz a_0 a_1 q0 q1 x0 x1
            obtain ⟨j, hj, rfl, ho, hW, hbl, hgz⟩ := hrel
            have hsz := hW.lt
            obtain ⟨a_0, a_1⟩ := hW.c2
            by_cases hlj : j < ns.length
            · have hjg : j < G.length := by rw [HGL.out]; exact hlj
              have x0 := ho.cell (q := j) (by rw [mgK_len]; exact hjg)
              rw [mgK_get a c G j hjg] at x0
              have HY := Lib.hid (fun he => mgK_yes (a := a) (b := c) hjg he)
              have HN := Lib.hid (fun he => mgK_no (a := a) (b := c) hjg he)
              generalize G.getD j 0 = x at *
              by_cases he : x = mx2 a c
              · have e1 : (x == mx2 a c) = true := beq_iff_eq.2 he
                have fp := ho.frz j
                have HO := Lib.hid (show OwnI (w.heap.size + 1) (wr.setCell ⟨gb, j, none⟩ (.int .i64 (mn2 a c))) (.slice (some ⟨gb, 0, none⟩) ns.length c1) (mgK a c G (j + 1)) by rw [HY.out he]; exact ho.set_ j _)
                have HB2 := Lib.hid (hbl.setCell (p := ⟨gb, j, none⟩) (show w.heap.size ≤ gb by omega) (.int .i64 (mn2 a c)))
                have HW2 := Lib.hid (hW.far (p := ⟨gb, j, none⟩) (Ne.symm hne) (.int .i64 (mn2 a c)))
                clear ho hW hbl he a_0 a_1
                go_wp2
                go_roundw
                case rel => exact ⟨j + 1, by omega, by go_num, HO.out, HW2.out, HB2.out, by simpa using hgz⟩
                case measure => simp [intOf]; omega
              · have e1 : (x == mx2 a c) = false := beq_eq_false_iff_ne.2 he
                have HO := Lib.hid (show OwnI (w.heap.size + 1) wr (.slice (some ⟨gb, 0, none⟩) ns.length c1) (mgK a c G (j + 1)) by rw [HN.out he]; exact ho)
                clear ho he
                go_wp2
                go_roundw
                case rel => exact ⟨j + 1, by omega, by go_num, HO.out, hW, hbl, hgz⟩
                case measure => simp [intOf]; omega
            · have hjj : j = ns.length := by omega
              subst hjj
              have HO := Lib.hid (show OwnI (w.heap.size + 1) wr (.slice (some ⟨gb, 0, none⟩) ns.length c1) (partsK ns.length ls (k + 1)) by
                rw [HS.out, ← mgK_all]; rw [HGL.out]; exact ho)
              clear ho
              go_wp2
              go_roundw
              case rel => exact ⟨k + 1, by omega, by go_num, HO.out, hW, hbl, hgz⟩
              case measure => simp [intOf]; omega
        · have hkk : k = ls.length := by omega
          subst hkk
          have HO := Lib.hid ho
          clear ho
          go_wp2
          go_ret
          exact ⟨_, rfl, HO.out.mono (by omega), hbl⟩
noncomputable def wholeB (ns ls : List Pr) : Bool := winB ns ls && (decide (0 < ls.length) && (partsK ns.length ls ls.length).all (· == 0))
theorem whole_win {ns ls : List Pr} (h : wholeB ns ls = true) : WinOk ns ls ∧ 0 < ls.length := by
  unfold wholeB at h
  rw [Bool.and_eq_true, Bool.and_eq_true] at h
  exact ⟨winB_true.1 h.1, by simpa using h.2.1⟩
set_option maxHeartbeats 4000000 in
set_option maxRecDepth 100000 in
theorem sWhole_any (vn vl : Value) (ns ls : List Pr) (w : World) (hn : RP w vn ns) (hl : RP w vl ls) :
    Calls Tryz.prog 68 #[.agg #[vn, vl]] w fun e w' => e = .returned (.bool (wholeB ns ls)) ∧ Below w.heap.size w w' := by
  obtain ⟨An, cn, rfl, hcn, hmn, _⟩ := hn.formI
  obtain ⟨Al, cl, rfl, hcl, hml, _⟩ := hl.formI
  unfold maxLen at hmn hml
  have hb0 : Below w.heap.size w (w.alloc (.cells #[.slice An ns.length cn, .slice Al ls.length cl] 31)) := by exact bel_
  cases hw : winB ns ls
  · have HR : Hid (wholeB ns ls = false) := Lib.hid (by simp [wholeB, hw])
    go_enter Tryz.func68, Tryz.ntmps68
    go_wp2_with fail
    refine (sWinOk_at _ _ ns ls _ _ (hn.below hb0) (hl.below hb0) hw).mono ?_
    rintro e w1 ⟨rfl, hb1⟩; (first | (with_reducible have hc1 := bdC hb1) | have hc1 := bcC hb1); (first | (with_reducible have hf1 := bdF hb1) | have hf1 := bcF hb1); have hz1 := hb1.size; (try simp at hz1); (try have hp1_0 := p0_ w w1); (try have hp1_1 := p1_ w w1); (try have hp1_2 := p2_ w w1); (try have hp1_3 := p3_ w w1)
    go_wp2
    go_ret
    exact ⟨ret_bool HR.out.symm, by exact bel_⟩
  · by_cases h0 : ls.length = 0
    · have HR : Hid (wholeB ns ls = false) := Lib.hid (by simp [wholeB, hw, h0])
      have e1 : ((ls.length : Int) == 0) = true := by simp [h0]
      clear h0
      go_enter Tryz.func68, Tryz.ntmps68
      go_wp2_with fail
      refine (sWinOk_at _ _ ns ls _ _ (hn.below hb0) (hl.below hb0) hw).mono ?_
      rintro e w1 ⟨rfl, hb1⟩; (first | (with_reducible have hc1 := bdC hb1) | have hc1 := bcC hb1); (first | (with_reducible have hf1 := bdF hb1) | have hf1 := bcF hb1); have hz1 := hb1.size; (try simp at hz1); (try have hp1_0 := p0_ w w1); (try have hp1_1 := p1_ w w1); (try have hp1_2 := p2_ w w1); (try have hp1_3 := p3_ w w1)
      go_wp2
      go_ret
      exact ⟨ret_bool HR.out.symm, by exact bel_⟩
    · have hok := winB_true.1 hw
      have HR : Hid (wholeB ns ls = (partsK ns.length ls ls.length).all (· == 0)) := Lib.hid (by simp [wholeB, hw]; omega)
      have e1 : ((ls.length : Int) == 0) = false := by simp [h0]
      have HOK := Lib.hid hok
      clear hok h0
      go_enter Tryz.func68, Tryz.ntmps68
      go_wp2_with fail
      refine (sWinOk_at _ _ ns ls _ _ (hn.below hb0) (hl.below hb0) hw).mono ?_
      rintro e w1 ⟨rfl, hb1⟩
      have hbw1 : Below w.heap.size w w1 := by exact bel_
      have hW1 : Blk w1 w.heap.size 31 #[.slice An ns.length cn, .slice Al ls.length cl] := (Blk.newAt rfl).below hb1 (by simp)
      have hsz := hW1.lt
      obtain ⟨a_0, a_1⟩ := hW1.c2
      clear hb1
      go_wp2_with fail
      refine (sParts_any _ _ ns ls _ (hn.below hbw1) (hl.below hbw1) HOK.out.2.2.1 HOK.out.2.1 HOK.out.1 (fun j hj => (HOK.out.2.2.2.2.2 j hj).1)).mono ?_
      rintro e w2 ⟨v, rfl, ho2, hb2⟩
      have hbw2 := hbw1.trans (hb2.mono hbw1.size)
      have HGL := Lib.hid (partsK_len ns.length ls ls.length)
      obtain ⟨A, c, rfl, hc, hm, hcell⟩ := ho2.reads.form
      generalize partsK ns.length ls ls.length = G at *
      unfold maxLen at hm
      clear hb2 ho2 hW1 a_0 a_1 hsz hbw1 hw
      go_wp2
      go_loop [4] (fun i => ∃ k : Nat, k ≤ G.length ∧ i = .int .i64 k ∧ (G.take k).all (· == 0) = true) (fun i => G.length - (intOf i).toNat)
      case atStart => exact ⟨0, Nat.zero_le _, rfl, by simp⟩
      case round =>
        obtain ⟨k, hk, rfl, hall⟩ := hrel
        by_cases hlt : k < G.length
        · obtain ⟨b, off, rfl, hb, hcl⟩ := hcell (by omega)
          have hck := hcl k hlt
          clear hcl hcell
          have hts : (G.take (k + 1)).all (· == 0) = (G.getD k 0 == 0) := by
            rw [List.take_succ_eq_append_getElem hlt, List.all_append, hall]
            simp [List.getD, List.getElem?_eq_getElem hlt]
          have hex : (G.getD k 0 == 0) = false → G.all (· == 0) = false := by
            intro h0
            rw [List.all_eq_false]
            exact ⟨G[k], List.getElem_mem hlt, by simpa [List.getD, List.getElem?_eq_getElem hlt] using h0⟩
          generalize hx : G.getD k 0 = x at *
          have HTS := Lib.hid hts
          have HEX := Lib.hid hex
          clear hts hex hall hx
          by_cases hq : x = 0
          · have HQ : Hid ((x == 0) = true) := Lib.hid (by simp [hq])
            have e2 : (x != 0) = false := by simp [hq]
            clear hq
            go_wp2
            go_round
            case rel => exact ⟨k + 1, by omega, by go_num, by rw [HTS.out]; exact HQ.out⟩
            case measure => simp [intOf]; omega
          · have HQ : Hid ((x == 0) = false) := Lib.hid (by simp [hq])
            have e2 : (x != 0) = true := by simp [hq]
            clear hq
            go_wp2
            go_ret
            exact ⟨ret_bool (by rw [HR.out]; exact (HEX.out HQ.out).symm), hbw2⟩
        · have hkk : G.length ≤ k := by omega
          rw [List.take_of_length_le hkk] at hall
          have HA := Lib.hid hall
          clear hall hcell
          go_wp2
          go_ret
          exact ⟨ret_bool (by rw [HR.out]; exact HA.out.symm), hbw2⟩
theorem sWhole_at (vn vl : Value) (ns ls : List Pr) (b : Bool) (w : World) (hn : RP w vn ns) (hl : RP w vl ls) (hb : wholeB ns ls = b) :
    Calls Tryz.prog 68 #[.agg #[vn, vl]] w fun e w' => e = .returned (.bool b) ∧ Below w.heap.size w w' := by
  subst hb; exact sWhole_any vn vl ns ls w hn hl
end Go.Proofs.YtbennlajjfkdpaaGreatDoor
