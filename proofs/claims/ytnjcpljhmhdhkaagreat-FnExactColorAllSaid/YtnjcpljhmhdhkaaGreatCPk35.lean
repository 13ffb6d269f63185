/- part 35 -/
import Derived.Test.YtnjcpljhmhdhkaaGreatCPk34
set_option linter.unusedSimpArgs false
set_option linter.unusedVariables false
namespace Go.Proofs.YtnjcpljhmhdhkaaGreat
open Go.RowKit
theorem besK_same {s : List Int} {F k : Nat} (h : s.getD (2 * k) 0 = s.getD (2 * k + 1) 0) : besK s F (k + 1) = besK s F k := by simp only [besK]; rw [if_pos h]
theorem besK_diff {s : List Int} {F k a b : Nat} (ha : s.getD (2 * k) 0 = (a : Int)) (hb : s.getD (2 * k + 1) 0 = (b : Int)) (h : a ≠ b) : besK s F (k + 1) = setT (setT (besK s F k) a b) b a := by
  simp only [besK]; rw [if_neg (by omega), ha, hb, Int.toNat_natCast, Int.toNat_natCast]
theorem infoRowB : (Tryz.prog.info? 182).map (fun i => (i.zero, i.size, i.bytes)) = some (some (.slice none 0 0), 1, 24) := by kernel_rfl
theorem wpList_append_tab {w : World} {ops : Array Oper} {rest : List Oper} {o : Oper} {a : Act} {Q : Exit → Act → World → Prop} (hgd : o.guard = none) (s x : Operand)
    (ho : o.op = .call { callee := .builtin .append, args := #[s, x], argTypes := #[169, 169] })
    (base : Nat) (v : Value) (F g : Nat) (gs : List Nat) (T : List (List Bool)) (r : List Bool) (hs : a.eval s = v) (g1 : Nat) (hx : a.eval x = .slice (some ⟨g1, 0, none⟩) 1 1) (hg : w.cell? ⟨g1, 0, none⟩ = some (rowV F g))
    (hown : OwnTab base w v F gs T) (hr : OwnE 4 Value.bool base w (rowV F g) r) (hgn : ∀ k, k < T.length → gs.getD k 0 ≠ g) (hlen : T.length ≤ 1048576) (hbase : base ≤ w.heap.size)
    (h : ∀ v' w', OwnTab base w' v' F (gs ++ [g]) (T ++ [r]) → w.grownBy w' v.ownBlock → wpList Tryz.prog ops Q rest (a.put o.dst v') w') : wpList Tryz.prog ops Q (o :: rest) a w := by
  obtain ⟨i, hi, hz, hsize, hby⟩ := info_parts infoRowB
  have hl := hown.len
  exact wpList_append_own w hgd s x 169 ho base 182 i (.slice none 0 0) 1 24 Tryz.underlying169 hi hz hsize hby rfl (by decide) v gs.length (gs.map (rowV F)) hs hown.out ⟨g1, 0, none⟩ 1 1 [rowV F g] hx rfl
    (fun j y hj => by
      match j, hj with
      | 0, hj => cases hj; exact hg
      | j + 1, hj => simp at hj)
    (by
      intro y hy
      simp at hy
      subst hy
      rfl) (by unfold maxLen; omega) (by omega) hbase fun v' w' e1 e2 _ => h v' w' (hown.snoc hr hgn e2 (by rw [← hl]; exact e1)) e2
def RetTab (F : Nat) (T : List (List Bool)) (w : World) (e : Ending) (w' : World) : Prop := ∃ v gs, e = .returned v ∧ OwnTab w.heap.size w' v F gs T ∧ Below w.heap.size w w'
theorem OwnTab.mono {base base' : Nat} {w : World} {v : Value} {F : Nat} {gs : List Nat} {T : List (List Bool)} (h : OwnTab base w v F gs T) (hb : base' ≤ base) : OwnTab base' w v F gs T :=
  ⟨World.ownsRow.mono h.out hb, h.len, h.nd, fun k hk => World.ownsRow.mono (h.row k hk) hb⟩
theorem rep_snoc {α : Type} (k : Nat) (x : α) : List.replicate k x ++ [x] = List.replicate (k + 1) x := by rw [List.replicate_succ']
set_option maxHeartbeats 16000000 in
set_option maxRecDepth 100000 in
theorem sBeside_any (vn vl : Value) (ns ls : List Pr) (w : World) (hn : RP w vn ns) (hl : RP w vl ls) (hw : wholeB ns ls = true) :
    Calls Tryz.prog 179 #[.agg #[vn, vl]] w (RetTab (facesW ns ls).length (besW ns ls) w) := by
  obtain ⟨Al, cl, rfl, hcl, hml, _⟩ := hl.formI
  unfold maxLen at hml
  have hb0 : Below w.heap.size w (w.alloc (.cells #[vn, .slice Al ls.length cl] 27)) := by exact bel_
  have hW0 : Blk (w.alloc (.cells #[vn, .slice Al ls.length cl] 27)) w.heap.size 27 #[vn, .slice Al ls.length cl] := Blk.newAt rfl
  obtain ⟨i0, hi, iz0, iz1, iz2⟩ := info_parts infoBool
  have hfp := face_pos hw
  have hm20 := (whole_win hw).1.2.2.1
  have hfl := facesW_len ns ls
  have HBD := Lib.hid (fun d (hd : d < 2 * ls.length) => sidesL_bd (ns := ns) (ls := ls) hfp hd)
  have HSL := Lib.hid (sidesL_len ns ls)
  have HR : Hid (besW ns ls = besK (sidesL ns ls) (facesW ns ls).length ls.length) := Lib.hid (by unfold besW; rw [facesW_whole hw])
  have HBL := Lib.hid (fun k => besK_len (sidesL ns ls) (facesW ns ls).length k)
  have HBR := Lib.hid (fun k f hf => besK_row (sidesL ns ls) (facesW ns ls).length k f hf)
  have HSA := Lib.hid (fun k h => besK_same (s := sidesL ns ls) (F := (facesW ns ls).length) (k := k) h)
  have HDI := Lib.hid (fun k a b ha hb h => besK_diff (s := sidesL ns ls) (F := (facesW ns ls).length) (k := k) (a := a) (b := b) ha hb h)
  have HZ : Hid (besK (sidesL ns ls) (facesW ns ls).length 0 = List.replicate (facesW ns ls).length (List.replicate (facesW ns ls).length false)) := Lib.hid rfl
  have HSD := Lib.hid (fun (v : World) (h1 : RP v vn ns) (h2 : RP v (.slice Al ls.length cl) ls) => sSides_any vn (.slice Al ls.length cl) ns ls v h1 h2 hw)
  clear hw
  go_enter Tryz.func179, Tryz.ntmps179
  go_wp2_with fail
  refine (sFaces_any _ _ ns ls _ (hn.below hb0) (hl.below hb0)).mono ?_
  rintro e w1 ⟨v1, rfl, ho1, hb1⟩
  have hbw1 := hb0.trans (hb1.mono hb0.size)
  have hW1 := hW0.below hb1 hW0.lt
  have hz1 := hW1.lt
  obtain ⟨A1, c1, rfl⟩ := ho1.form
  clear hb1 ho1 hb0 hW0
  generalize (facesW ns ls).length = F at *
  generalize sidesL ns ls = s at *
  have hT1 : OwnTab (w.heap.size + 1) (w1.alloc (.cells #[] 182)) (.slice (some ⟨w1.heap.size, 0, none⟩) 0 0) F [] (List.replicate 0 (List.replicate F false)) := by
    refine ⟨?_, rfl, List.nodup_nil, fun k hk => absurd hk (by simp)⟩
    exact World.ownsRow_made w1 #[] 0 (by omega) (by decide) (by simp)
  have hbw2 : Below w.heap.size w (w1.alloc (.cells #[] 182)) := hbw1.alloc hbw1.size _
  have hW2 := hW1.alloc (.cells #[] 182)
  clear hbw1 hW1
  go_wp2
  go_loopw [4, 5] (fun v x wr => ∃ (k : Nat) (gs : List Nat), k ≤ F ∧ x = .int .i64 k ∧ OwnTab (w.heap.size + 1) wr v F gs (List.replicate k (List.replicate F false)) ∧ Blk wr w.heap.size 27 #[vn, .slice Al ls.length cl] ∧ Below w.heap.size w wr) (fun _ x _ => F - (intOf x).toNat)
  case atStart => exact ⟨0, [], Nat.zero_le _, rfl, hT1, hW2, hbw2⟩
  case round =>
    clear hT1 hW2 hbw2
    obtain ⟨k, gs, hk, rfl, ho, hW, hB⟩ := hrel
    have hz2 := hW.lt
    by_cases hlt : k < F
    · have hlt1 : (k : Int) < (F : Int) := by omega
      go_wp2_with (at_make; refine wpList_make_full _ rfl _ _ 182 rfl (w.heap.size + 1) 4 i0 (.bool false) 1 Tryz.underlying182 hi iz0 iz1 .i64 .i64 _ _ F rfl rfl rfl rfl (by rw [iz2]; omega) (by unfold maxLen; omega) (by omega) ?_)
      intro w3 hown1 hgr1
      have hB3 : Below wr.heap.size wr w3 := (Below.refl _ _).grown hgr1 (Nat.le_refl _) (by intro k hk; cases hk)
      have hrow : OwnE 4 Value.bool (w.heap.size + 1) w3 (rowV F wr.heap.size) (List.replicate F false) := by
        unfold OwnE
        rw [List.length_replicate, ← madeB]; exact hown1
      have ho3 := ho.kept hB3
      have hW3 := hW.below hB3 hz2
      have hBw3 := hB.trans (hB3.mono hB.size)
      have hgn : ∀ j, j < (List.replicate k (List.replicate F false)).length → gs.getD j 0 ≠ wr.heap.size := fun j hj => by have := (gs_lt ho hj).2; omega
      have hz3 := hW3.lt
      clear hown1 hgr1
      have ho4 := ho3.kept (Below.alloc (Below.refl w3.heap.size w3) (Nat.le_refl _) (.cells #[rowV F wr.heap.size] 182))
      have hrow4 := OwnE.alloc hrow (.cells #[rowV F wr.heap.size] 182)
      have hW4 := hW3.alloc (.cells #[rowV F wr.heap.size] 182)
      have hB4 : Below w.heap.size w (w3.alloc (.cells #[rowV F wr.heap.size] 182)) := hBw3.alloc hBw3.size _
      clear ho hW hB hB3 ho3 hW3 hrow hBw3
      go_wp2_with (at_builtin; refine wpList_append_tab rfl _ _ rfl (w.heap.size + 1) _ F wr.heap.size gs (List.replicate k (List.replicate F false)) (List.replicate F false) rfl w3.heap.size rfl (cell_new1 rfl) ho4 hrow4 hgn (by simp; omega) (by simp; omega) ?_)
      intro v5 w5 ho5 hg5
      rw [rep_snoc] at ho5
      have hW5 : Blk w5 w.heap.size 27 #[vn, .slice Al ls.length cl] := (hg5.block w.heap.size (by simp; omega) (fun e => by have := (ho4.out.lt _ e.symm).1; omega)).trans hW4
      have hB5 := hB4.grown hg5 (by simp; omega) (fun q hq => by have := (ho4.out.lt q hq).1; omega)
      clear ho4 hrow4 hW4 hB4 hg5 hgn
      go_wp2
      go_roundw
      case rel => exact ⟨k + 1, _, by omega, by go_num, ho5, hW5, hB5⟩
      case measure => simp [intOf]; omega
    · have hkk : k = F := by omega
      subst hkk
      have hgl : gs.length = k := by have := ho.len; simpa using this
      have hT0 := ho
      rw [← HZ.out] at hT0
      obtain ⟨g, cg, rfl, hgb, hgw⟩ := hT0.blk (by rw [HBL.out]; exact hfp)
      have hik : ∀ p : Nat, p < k → (p : Int) < (gs.length : Int) := fun p hp => by omega
      obtain ⟨a_0, a_1⟩ := hW.c2
      clear ho
      go_wp2_with fail
      refine (HSD.out _ (hn.below hB) (hl.below hB)).mono ?_
      rintro e w3 ⟨v3, rfl, ho3, hb3⟩
      have hT3 := hT0.kept hb3
      have hW3 := hW.below hb3 hz2
      have hB3 := hB.trans (hb3.mono hB.size)
      have ho3' := OwnI.mono ho3 (show w.heap.size + 1 ≤ wr.heap.size by omega)
      clear hT0 hW hB hb3 ho3 a_0 a_1
      obtain ⟨As, cS, rfl⟩ := OwnE.form (t := 3) (enc := vI) ho3'
      rw [HSL.out] at ho3' ⊢
      go_wp2
      go_loopw [7] (fun x wr => ∃ j : Nat, j ≤ ls.length ∧ x = .int .i64 j ∧ OwnTab (w.heap.size + 1) wr (.slice (some ⟨g, 0, none⟩) gs.length cg) k gs (besK s k j) ∧ OwnI (w.heap.size + 1) wr (.slice As (2 * ls.length) cS) s ∧ Blk wr w.heap.size 27 #[vn, .slice Al ls.length cl] ∧ Below w.heap.size w wr) (fun x _ => ls.length - (intOf x).toNat)
      case atStart => exact ⟨0, Nat.zero_le _, rfl, hT3, ho3', hW3, hB3⟩
      case round =>
        clear hT3 ho3' hW3 hB3
        obtain ⟨j, hj, rfl, hT, hS, hW, hB⟩ := hrel
        have hsz := hW.lt
        obtain ⟨a_0, a_1⟩ := hW.c2
        by_cases hlt : j < ls.length
        · obtain ⟨p, hp, hpF⟩ := HBD.out (2 * j) (by omega)
          obtain ⟨q, hq, hqF⟩ := HBD.out (2 * j + 1) (by omega)
          obtain ⟨b, cb, eb, hcb, hbb, hbl, hcl2⟩   := OwnI.blk hS (by rw [HSL.out]; omega)
          injection eb with eb1 eb2 eb3
          subst eb1
          have hx0 := hcl2 (2 * j) (by rw [HSL.out]; omega)
          have hx1 := hcl2 (2 * j + 1) (by rw [HSL.out]; omega)
          rw [hp] at hx0
          rw [hq] at hx1
          have e0w : IntKind.i64.wrap (2 * (j : Int)) = ((2 * j : Nat) : Int) := by rw [show 2 * (j : Int) = ((2 * j : Nat) : Int) by omega]; exact IntWalk.i64_in _ (by omega)
          have e1w : IntKind.i64.wrap (((2 * j : Nat) : Int) + 1) = ((2 * j + 1 : Nat) : Int) := by rw [show ((2 * j : Nat) : Int) + 1 = ((2 * j + 1 : Nat) : Int) by omega]; exact IntWalk.i64_in _ (by omega)
          have i0 : (0 : Int) ≤ ((2 * j : Nat) : Int) := by omega
          have i1 : ((2 * j : Nat) : Int) < ((2 * ls.length : Nat) : Int) := by omega
          have i2 : (0 : Int) ≤ ((2 * j + 1 : Nat) : Int) := by omega
          have i3 : ((2 * j + 1 : Nat) : Int) < ((2 * ls.length : Nat) : Int) := by omega
          have i4 : (0 : Int) ≤ (p : Int) := by omega
          have i5 := hik p hpF
          have i6 : (0 : Int) ≤ (q : Int) := by omega
          have i7 := hik q hqF
          have i8 : (p : Int) < (k : Int) := by omega
          have i9 : (q : Int) < (k : Int) := by omega
          have ij : (j : Int) < (ls.length : Int) := by omega
          have HSA1 := Lib.hid (HSA.out j)
          have HDI1 := Lib.hid (HDI.out j p q hp hq)
          rw [hp, hq] at HSA1
          clear hcl2 hp hq eb2 eb3 hcb hbb
          by_cases hpq : p = q
          · have e1 : ((p : Int) == (q : Int)) = true := beq_iff_eq.2 (by omega)
            have e2 : ((p : Int) != (q : Int)) = false := by rw [bne, e1]; rfl
            have HX := Lib.hid (HSA1.out (by omega))
            clear hpq
            go_wp2
            go_roundw
            case rel => exact ⟨j + 1, by omega, by go_num, by rw [HX.out]; exact hT, hS, hW, hB⟩
            case measure => simp [intOf]; omega
          · have e1 : ((p : Int) == (q : Int)) = false := beq_eq_false_iff_ne.2 (by omega)
            have e2 : ((p : Int) != (q : Int)) = true := by rw [bne, e1]; rfl
            have HX := Lib.hid (HDI1.out hpq)
            have hTl := HBL.out j
            have HTR := Lib.hid (HBR.out j)
            generalize besK s k j = T at *
            have hpT : p < T.length := by omega
            have hqT : q < T.length := by omega
            have u0 := hT.cell hpT
            have u1 := hT.cell hqT
            have v0 := hT.cell2 hpT (j := q) (by rw [HTR.out p hpF]; exact hqF)
            have v1 := hT.cell2 hqT (j := p) (by rw [HTR.out q hqF]; exact hpF)
            have f0 := hT.frz2 hpT q
            have f1 := hT.frz2 hqT p
            obtain ⟨l0a, l0⟩ := gs_lt hT hpT
            obtain ⟨l1a, l1⟩ := gs_lt hT hqT
            have hgr := (hT.out.lt g rfl).2
            have HS1 := hT.set_ hpT q true
            have HS2 := HS1.set_ (a := q) (by simpa using hqT) p true
            have hTT : (T.set p ((T.getD p []).set q true)).set q (((T.set p ((T.getD p []).set q true)).getD q []).set p true) = besK s k (j + 1) := by rw [HX.out]; rfl
            rw [hTT] at HS2
            have hne := gs_ne hT hpT hqT hpq
            have hg0 := hT.apart hpT rfl
            have hg1 := hT.apart hqT rfl
            have HO := Lib.hid (show OwnI (w.heap.size + 1) ((wr.setCell ⟨gs.getD p 0, q, none⟩ (.bool true)).setCell ⟨gs.getD q 0, p, none⟩ (.bool true)) (.slice (some ⟨b, 0, none⟩) (2 * ls.length) cS) s from OwnE.other (t := 3) (enc := vI) (OwnE.other (t := 3) (enc := vI) hS (hT.row p hpT) ty_nb (grown_set (grown_refl _ _) q _)) (HS1.row q (by simpa using hqT)) ty_nb (grown_set (grown_refl _ _) p _))
            have HS2' := Lib.hid HS2
            have HW := Lib.hid (show Blk ((wr.setCell ⟨gs.getD p 0, q, none⟩ (.bool true)).setCell ⟨gs.getD q 0, p, none⟩ (.bool true)) w.heap.size 27 #[vn, .slice Al ls.length cl] from (hW.far (p := ⟨gs.getD p 0, q, none⟩) (show w.heap.size ≠ gs.getD p 0 by omega) _).far (p := ⟨gs.getD q 0, p, none⟩) (show w.heap.size ≠ gs.getD q 0 by omega) _)
            have HB := Lib.hid (show Below w.heap.size w ((wr.setCell ⟨gs.getD p 0, q, none⟩ (.bool true)).setCell ⟨gs.getD q 0, p, none⟩ (.bool true)) from (hB.setCell (p := ⟨gs.getD p 0, q, none⟩) (show w.heap.size ≤ gs.getD p 0 by omega) _).setCell (p := ⟨gs.getD q 0, p, none⟩) (show w.heap.size ≤ gs.getD q 0 by omega) _)
            clear HS1 HS2 hTT hT hS hW hB HTR
            generalize gs.getD p 0 = ga at *
            generalize gs.getD q 0 = gb at *
            generalize (T.getD p []).getD q false = x0 at *
            generalize (T.getD q []).getD p false = x1 at *
            have d1 : ¬ ga = gb := hne
            have d2 : ¬ gb = ga := fun e => hne e.symm
            have d3 : ¬ g = ga := hg0
            have d4 : ¬ ga = g := fun e => hg0 e.symm
            have d5 : ¬ g = gb := hg1
            clear hne hg0 hg1
            go_wp2
            go_roundw
            case rel => exact ⟨j + 1, by omega, by go_num, HS2'.out, HO.out, HW.out, HB.out⟩
            case measure => simp [intOf]; omega
        · have hjj : j = ls.length := by omega
          subst hjj
          have hT' := hT
          rw [hgl] at hT'
          have HT := Lib.hid hT'
          have HB := Lib.hid hB
          clear hT hT' hS hB
          go_wp2
          go_ret
          exact ⟨_, _, rfl, by rw [HR.out]; exact OwnTab.mono HT.out (show w.heap.size ≤ w.heap.size + 1 by omega), HB.out⟩
end Go.Proofs.YtnjcpljhmhdhkaaGreat

namespace Go.Proofs.YtnjcpljhmhdhkaaGreat
theorem findSome_at {β : Type} {f : Nat → Option β} {x : Nat} {L : β} (hp : ∀ y, y < x → f y = none) (h : f x = some L) : ∀ n, x < n → (List.range n).findSome? f = some L
  | 0, hx => absurd hx (by omega)
  | n + 1, hx => by
    rw [List.range_succ, List.findSome?_append]
    by_cases hn : x < n
    · rw [findSome_at hp h n hn]; rfl
    · have : x = n := by omega
      subst this
      have h0 : (List.range x).findSome? f = none := by
        rw [List.findSome?_eq_none_iff]
        intro y hy
        exact hp y (List.mem_range.1 hy)
      rw [h0]
      simp [h]
theorem findSome_no {β : Type} {f : Nat → Option β} {n : Nat} (hp : ∀ y, y < n → f y = none) : (List.range n).findSome? f = none := by
  rw [List.findSome?_eq_none_iff]
  intro y hy
  exact hp y (List.mem_range.1 hy)
def srF (adj : Nat → Nat → Bool) (gv : List Int) (n r : Nat) (hd : List Int) (x : Nat) : Option (List Int) := if wishC gv hd.length x && okC adj hd hd.length x then srch adj gv n r (hd ++ [(x : Int)]) else none
theorem srch_hit {adj : Nat → Nat → Bool} {gv : List Int} {n r : Nat} {hd L : List Int} {x : Nat} (hx : x < n) (hp : ∀ y, y < x → srF adj gv n r hd y = none) (h : srF adj gv n r hd x = some L) : srch adj gv n (r + 1) hd = some L :=
  findSome_at hp h n hx
theorem srch_miss {adj : Nat → Nat → Bool} {gv : List Int} {n r : Nat} {hd : List Int} (hp : ∀ y, y < n → srF adj gv n r hd y = none) : srch adj gv n (r + 1) hd = none :=
  findSome_no hp
theorem srF_ok {adj : Nat → Nat → Bool} {gv : List Int} {n r : Nat} {hd : List Int} {x : Nat} (h : okC adj hd hd.length x = false) : srF adj gv n r hd x = none := by
  unfold srF; rw [h, Bool.and_false]; rfl
theorem srF_go {adj : Nat → Nat → Bool} {gv : List Int} {n r : Nat} {hd : List Int} {x : Nat} (h1 : wishC gv hd.length x = true) (h2 : okC adj hd hd.length x = true) : srF adj gv n r hd x = srch adj gv n r (hd ++ [(x : Int)]) := by
  unfold srF; rw [h1, h2]; rfl
theorem next_none {f : Nat → Option (List Int)} {x : Nat} (hp : ∀ y, y < x → f y = none) (h : f x = none) : ∀ y, y < x + 1 → f y = none := by
  intro y hy
  by_cases e : y = x
  · subst e; exact h
  · exact hp y (by omega)
def okP (adj : Nat → Nat → Bool) (hd : List Int) (k : Nat) (x : Int) (i : Nat) : Bool := (List.range i).all (fun i => !(adj i k && (hd.getD i 0 == x)))
theorem okP_succ {adj : Nat → Nat → Bool} {hd : List Int} {k : Nat} {x : Int} {i : Nat} : okP adj hd k x (i + 1) = (okP adj hd k x i && !(adj i k && (hd.getD i 0 == x))) := by
  unfold okP
  rw [List.range_succ, List.all_append]
  simp
theorem srch_len {adj : Nat → Nat → Bool} {gv : List Int} {n r : Nat} {hd L : List Int} (h : srch adj gv n r hd = some L) : L.length = hd.length + r := by
  induction r generalizing hd with
  | zero => simp only [srch, Option.some.injEq] at h; subst h; rfl
  | succ r ih =>
    rw [srch] at h
    obtain ⟨x, hx, hf⟩ := List.exists_of_findSome?_eq_some h
    split at hf
    · have := ih hf
      rw [this]; simp; omega
    · cases hf
end Go.Proofs.YtnjcpljhmhdhkaaGreat

namespace Go.Proofs.YtnjcpljhmhdhkaaGreat
open Go.RowKit
theorem run_append_rs {P : Program} {w : World} {t ty e : TypeId} {i : TypeInfo} {base : Nat} {z : Value} {sz by_ : Nat} (ht : P.underlying t = some (.slice e)) (hi : P.info? e = some i) (hz : i.zero = some z) (hsize : i.size = sz) (hby : i.bytes = by_) (hzs : z.cells.size = sz) (hsz : 0 < sz)
    {v u : Value} {n m : Nat} {xs l : List Value} (hown : w.ownsRow base e sz v n xs) (hr : RS w sz u m l) (hone : ∀ x ∈ l, x.oneCell' = true) (hlen : n + m ≤ 1048576 + 1048576) (hbb : by_ ≤ 100) (hbase : base ≤ w.heap.size) :
    ∃ A c w', (Builtin.append_ #[t, t] ty #[v, u]).run P w = .ok (.slice A (n + m) c) w' ∧ w'.ownsRow base e sz (.slice A (n + m) c) (n + m) (xs ++ l) ∧ w.grownBy w' v.ownBlock ∧
      ((Value.slice A (n + m) c).ownBlock = v.ownBlock ∨ (Value.slice A (n + m) c).ownBlock = some w.heap.size) := by
  have hform : ∀ {w0 : World} {v0 : Value} {n0 : Nat} {xs0 : List Value}, w0.ownsRow base e sz v0 n0 xs0 → ∃ A c, v0 = .slice A n0 c ∧ n0 ≤ c := by
    intro w0 v0 n0 xs0 h
    rcases h.2 with ⟨rfl, hn⟩ | ⟨g, cap, cur, rfl, _, _, hnc, _⟩
    · exact ⟨none, 0, by rw [hn], by omega⟩
    · exact ⟨_, cap, rfl, hnc⟩
  obtain ⟨hll, A, c, rfl, hc, hm, hcell⟩ := hr
  cases A with
  | none =>
    have hm0 : m = 0 := by
      rcases Nat.eq_zero_or_pos m with h | h
      · exact h
      · obtain ⟨b, off, h1, _⟩ := hcell h
        cases h1
    subst hm0
    have hl : l = [] := List.eq_nil_of_length_eq_zero (by omega)
    subst hl
    obtain ⟨A, cp, rfl, hcp⟩ := hform hown
    refine ⟨A, cp, w, ?_, by rw [List.append_nil]; exact hown, World.grownBy.refl _ _, .inl rfl⟩
    exact run_append_none ht hi A _ cp c hcp
  | some a =>
    have hn : ∀ (j : Nat) (x : Value), l[j]? = some x → w.cell? (a.add j) = some x := by
      intro j x hx
      have hj := (List.getElem?_eq_some_iff.1 hx).1
      have hm1 : 0 < m := by
        rcases Nat.eq_zero_or_pos m with h | h
        · subst h; omega
        · exact h
      obtain ⟨b, off, e5, _, e6⟩ := hcell hm1
      cases e5
      rw [addr_add]
      exact e6 j x hx
    have hbm : (n + m) * by_ ≤ (1048576 + 1048576) * 100 := Nat.mul_le_mul hlen hbb
    obtain ⟨v', w', h1, h2, h3, _, h5⟩ := run_append_own_at (P := P) w base t ty e i z sz by_ ht hi hz hsize hby hzs hsz v n xs hown a m c l hll hn hone (by unfold maxLen; omega) (by omega) hbase
    obtain ⟨A', c', rfl, _⟩ := hform h2
    exact ⟨A', c', w', h1, h2, h3, h5⟩
theorem wpList_append_rs {P : Program} {w : World} {ops : Array Oper} {rest : List Oper} {o : Oper} {a : Act} {Q : Exit → Act → World → Prop} (hgd : o.guard = none) (s x : Operand) (t : TypeId)
    (ho : o.op = .call { callee := .builtin .append, args := #[s, x], argTypes := #[t, t] })
    (base : Nat) (e : TypeId) (i : TypeInfo) (z : Value) (sz by_ : Nat) (ht : P.underlying t = some (.slice e)) (hi : P.info? e = some i) (hz : i.zero = some z) (hsize : i.size = sz) (hby : i.bytes = by_) (hzs : z.cells.size = sz) (hsz : 0 < sz)
    (v u : Value) (n m : Nat) (xs l : List Value) (hs : a.eval s = v) (hx : a.eval x = u) (hown : w.ownsRow base e sz v n xs) (hr : RS w sz u m l) (hone : ∀ x ∈ l, x.oneCell' = true) (hlen : n + m ≤ 1048576 + 1048576) (hbb : by_ ≤ 100) (hbase : base ≤ w.heap.size)
    (h : ∀ A c w', w'.ownsRow base e sz (.slice A (n + m) c) (n + m) (xs ++ l) → w.grownBy w' v.ownBlock → ((Value.slice A (n + m) c).ownBlock = v.ownBlock ∨ (Value.slice A (n + m) c).ownBlock = some w.heap.size) → wpList P ops Q rest (a.put o.dst (.slice A (n + m) c)) w') :
    wpList P ops Q (o :: rest) a w :=
  wpList_plain hgd fun K hK => by
    obtain ⟨A, c, w', hrun, h2, h3, h4⟩ := run_append_rs (ty := o.type) ht hi hz hsize hby hzs hsz hown hr hone hlen hbb hbase
    unfold Oper.wp execOp
    simp only [ho, resolve, invoke, builtin, Sem.run_bind, Sem.run_pure, Result.andThen_ok, List.map_toArray, List.map_cons, List.map_nil, hs, hx, hrun]
    exact hK _ _ (h A c w' h2 h3 h4)
theorem one_ints (zs : List Int) : ∀ x ∈ zs.map vI, x.oneCell' = true := by
  intro x hx
  rw [List.mem_map] at hx
  obtain ⟨z, _, rfl⟩ := hx
  rfl
theorem one_deps (l : List Dp) : ∀ x ∈ l.flatMap Dp.cs, x.oneCell' = true := by
  intro x hx
  rw [List.mem_flatMap] at hx
  obtain ⟨d, _, hd⟩ := hx
  simp only [Dp.cs, List.mem_cons, List.mem_nil_iff, or_false] at hd
  rcases hd with rfl | rfl | rfl <;> rfl
set_option maxHeartbeats 2000000 in
set_option maxRecDepth 100000 in
theorem iCopyInts_any (v : Value) (zs : List Int) (w : World) (h : RI w v zs) (hle : zs.length ≤ 1048576) :
    Calls Tryz.prog 133 #[v] w (RetI zs w) := by
  obtain ⟨i0, hi, iz0, iz1, iz2⟩ := info_parts infoInt
  have HR := Lib.hid h
  clear h
  go_enter Tryz.func133, Tryz.ntmps133
  go_wp2_with (at_builtin; refine wpList_append_rs rfl _ _ _ rfl w.heap.size 3 i0 (.int .i64 0) 1 8 Tryz.underlying31 hi iz0 iz1 iz2 rfl (by decide) (.slice none 0 0) v 0 zs.length [] (zs.map vI) rfl rfl (World.ownsRow_nil _ _ _ _) HR.out (one_ints zs) (by omega) (by decide) (Nat.le_refl _) ?_)
  intro A c w1 ho hg ha
  have hb := below_nil hg
  have HO : Hid (OwnI w.heap.size w1 (.slice A zs.length c) zs) := Lib.hid ho
  clear ho hg ha
  go_wp2
  go_ret
  exact ⟨_, rfl, HO.out, hb⟩
theorem infoDep2 : (Tryz.prog.info? 48).map (fun i => (i.zero, i.size, i.bytes)) = some (some (.agg #[.int .i64 0, .int .i64 0, .int .i64 0]), 3, 24) := infoDep
set_option maxHeartbeats 2000000 in
set_option maxRecDepth 100000 in
theorem iCopyDeps_any (v : Value) (l : List Dp) (w : World) (h : RDp w v l) (hle : l.length ≤ 1048576) :
    Calls Tryz.prog 134 #[v] w (RetDp l w) := by
  obtain ⟨i0, hi, iz0, iz1, iz2⟩ := info_parts infoDep
  have HR := Lib.hid h
  clear h
  go_enter Tryz.func134, Tryz.ntmps134
  go_wp2_with (at_builtin; refine wpList_append_rs rfl _ _ _ rfl w.heap.size 48 i0 (.agg #[.int .i64 0, .int .i64 0, .int .i64 0]) 3 24 Tryz.underlying32 hi iz0 iz1 iz2 rfl (by decide) (.slice none 0 0) v 0 l.length [] (l.flatMap Dp.cs) rfl rfl (World.ownsRow_nil _ _ _ _) HR.out (one_deps l) (by omega) (by decide) (Nat.le_refl _) ?_)
  intro A c w1 ho hg ha
  have hb := below_nil hg
  have HO : Hid (OwnDp w.heap.size w1 (.slice A l.length c) l) := Lib.hid ho
  clear ho hg ha
  go_wp2
  go_ret
  exact ⟨_, rfl, HO.out, hb⟩
end Go.Proofs.YtnjcpljhmhdhkaaGreat

namespace Go.Proofs.YtnjcpljhmhdhkaaGreat
open Go.RowKit
theorem run_append_rs0 {P : Program} {w : World} {t ty e : TypeId} {i : TypeInfo} {base g : Nat} {z : Value} {sz by_ : Nat} (ht : P.underlying t = some (.slice e)) (hi : P.info? e = some i) (hz : i.zero = some z) (hsize : i.size = sz) (hby : i.bytes = by_) (hzs : z.cells.size = sz) (hsz : 0 < sz)
    {u : Value} {m : Nat} {l : List Value} (hown : w.ownsRow base e sz (.slice (some ⟨g, 0, none⟩) 0 0) 0 []) (hr : RS w sz u m l) (hone : ∀ x ∈ l, x.oneCell' = true) (hlen : m ≤ 1048576) (hbb : by_ ≤ 100) (hbase : base ≤ w.heap.size) :
    ∃ A c w', (Builtin.append_ #[t, t] ty #[.slice (some ⟨g, 0, none⟩) 0 0, u]).run P w = .ok (.slice A m c) w' ∧ w'.ownsRow base e sz (.slice A m c) m l ∧ Below w.heap.size w w' ∧
      (∀ k, (Value.slice A m c).ownBlock = some k → k = g ∨ k = w.heap.size) := by
  obtain ⟨A, c, w', hrun, ho, hg, ha⟩ := run_append_rs (ty := ty) ht hi hz hsize hby hzs hsz hown hr hone (by omega) hbb hbase
  simp only [Nat.zero_add, List.nil_append] at hrun ho ha
  refine ⟨A, c, w', hrun, ho, ?_, ?_⟩
  · have key : w'.heap[g]? = w.heap[g]? := by
      rcases hown.2 with ⟨h, _⟩ | ⟨g', cap, cur, h, _, hgg, _, _, hcs, _⟩
      · cases h
      · cases h
        subst hsize
        have hcur : cur = #[] := Array.eq_empty_of_size_eq_zero (by simpa using hcs)
        subst hcur
        obtain ⟨hll, A0, c0, rfl, hc, hm, hcell⟩ := hr
        cases A0 with
        | none =>
          have hr2 := run_append_none (P := P) (w := w) (ty := ty) ht hi (some ⟨g, 0, none⟩) 0 0 c0 (Nat.le_refl _)
          have hm0 : m = 0 := by
            rcases Nat.eq_zero_or_pos m with h | h
            · exact h
            · obtain ⟨b, off, h1, _⟩ := hcell h
              cases h1
          subst hm0
          have := hrun.symm.trans hr2
          cases this
          rfl
        | some a =>
          have hn : ∀ (j : Nat) (x : Value), l[j]? = some x → w.cell? (a.add j) = some x := by
            intro j x hx
            have hj := (List.getElem?_eq_some_iff.1 hx).1
            have hm1 : 0 < m := by
              rcases Nat.eq_zero_or_pos m with h | h
              · subst h; omega
              · exact h
            obtain ⟨b, off, e5, _, e6⟩ := hcell hm1
            cases e5
            rw [addr_add]
            exact e6 j x hx
          by_cases hm0 : m = 0
          · subst hm0
            have hl0 : l = [] := List.eq_nil_of_length_eq_zero (by simpa using hll)
            subst hl0
            have hr2 := run_append_room (P := P) w t ty e i ht hi g 0 0 #[] hgg a 0 c0 [] (by simp) (by simp) (by simp) (by omega) (by simp)
            have := hrun.symm.trans hr2
            cases this
            rw [setRow_heap w g #[] _ e _ hgg, hgg]
            simp
          · have hbm : m * i.bytes ≤ 1048576 * 100 := Nat.mul_le_mul hlen (by omega)
            have hr2 := run_append_grow (P := P) w t ty e i z ht hi hz ⟨g, 0, none⟩ 0 0 [] (by simp) (by simp) a m c0 l hll hn (by omega) (by omega) (growslice_fits (by omega) (by simp only [Nat.zero_add]; omega))
            simp only [Nat.zero_add] at hr2
            have := hrun.symm.trans hr2
            cases this
            exact heap_alloc_old w.drew _ (Array.getElem?_eq_some_iff.1 hgg).1
    have hg' : w.grownBy w' (Value.slice none 0 0).ownBlock := ⟨hg.os, hg.tape, hg.output, hg.size, fun k hk _ => by
      by_cases hkg : k = g
      · subst hkg; exact key
      · exact hg.block k hk (by simpa [Value.ownBlock] using hkg)⟩
    exact below_nil hg'
  · intro k hk
    rcases ha with h | h
    · rw [h] at hk
      simp [Value.ownBlock] at hk
      exact .inl hk.symm
    · rw [h] at hk
      cases hk
      exact .inr rfl
theorem step_append_rs0 {P : Program} {w : World} {ops : Array Oper} {o : Oper} {a : Act} {K : Act → World → Prop} {Q : Exit → Act → World → Prop} {E : Prop} (hgd : o.guard = none) (s x : Operand) (t : TypeId)
    (ho : o.op = .call { callee := .builtin .append, args := #[s, x], argTypes := #[t, t] })
    (base g : Nat) (e : TypeId) (i : TypeInfo) (z : Value) (sz by_ : Nat) (ht : P.underlying t = some (.slice e)) (hi : P.info? e = some i) (hz : i.zero = some z) (hsize : i.size = sz) (hby : i.bytes = by_) (hzs : z.cells.size = sz) (hsz : 0 < sz)
    (u : Value) (m : Nat) (l : List Value) (hs : a.eval s = .slice (some ⟨g, 0, none⟩) 0 0) (hx : a.eval x = u) (hown : w.ownsRow base e sz (.slice (some ⟨g, 0, none⟩) 0 0) 0 []) (hr : RS w sz u m l) (hone : ∀ x ∈ l, x.oneCell' = true) (hlen : m ≤ 1048576) (hbb : by_ ≤ 100) (hbase : base ≤ w.heap.size)
    (h : ∀ A c w', w'.ownsRow base e sz (.slice A m c) m l → Below w.heap.size w w' → (∀ k, (Value.slice A m c).ownBlock = some k → k = g ∨ k = w.heap.size) → K (a.put o.dst (.slice A m c)) w') :
    if Region.wanted o (yielded ops a.tmps) = true then Oper.wp P o a w K Q else E := by
  have hw : Region.wanted o (yielded ops a.tmps) = true := by simp [Region.wanted, hgd]
  rw [if_pos hw]
  obtain ⟨A, c, w', hrun, h2, h3, h4⟩ := run_append_rs0 (ty := o.type) ht hi hz hsize hby hzs hsz hown hr hone hlen hbb hbase
  unfold Oper.wp execOp
  simp only [ho, resolve, invoke, builtin, Sem.run_bind, Sem.run_pure, Result.andThen_ok, List.map_toArray, List.map_cons, List.map_nil, hs, hx, hrun]
  exact h A c w' h2 h3 h4
theorem owns_drew {w : World} {base : Nat} {e : TypeId} {sz n : Nat} {v : Value} {xs : List Value} (h : w.ownsRow base e sz v n xs) : w.drew.ownsRow base e sz v n xs := h
theorem owns_made0 {w : World} {base g : Nat} {e : TypeId} {sz : Nat} (hb : base ≤ w.heap.size) (hg : w.heap.size = g) : (w.alloc (.cells #[] e)).ownsRow base e sz (.slice (some ⟨g, 0, none⟩) 0 0) 0 [] := by
  subst hg
  exact World.ownsRow_made w #[] 0 hb (by decide) (by simp)
end Go.Proofs.YtnjcpljhmhdhkaaGreat
