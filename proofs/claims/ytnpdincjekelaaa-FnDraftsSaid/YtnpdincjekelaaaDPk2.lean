/-
  FnDrafts: Every step can be undone, and all steps lead back to the plan. No condition.
-/
import Derived.Test.YtnpdincjekelaaaDPk1
import Derived.Test.YtnpdincjekelaaaSame
import Derived.Deep.RegionHeld3
import Derived.Test.YtnpdincjekelaaaLaw
import Derived.Test.YtnpdincjekelaaaDPk0
import Derived.ChangeSlices
set_option linter.unusedSimpArgs false
set_option linter.unusedVariables false
namespace Go.Proofs.Ytnpdincjekelaaa
open Go.RowKit

/-- A byte of a code by its place. -/
def atI (zs : List Int) (i : Int) : Int := if zs.length = 0 then 0 else zs.getD ((i * 5 + 1) % (zs.length : Int)).toNat 0

theorem atI_bd {w : World} {v : Value} {zs : List Int} (h : RB w v zs) (i : Int) : 0 ≤ atI zs i ∧ atI zs i ≤ 255 := by
  unfold atI
  split
  · omega
  · rename_i hz
    have k1 : (i * 5 + 1) % (zs.length : Int) < (zs.length : Int) := Int.emod_lt_of_pos _ (by omega)
    have k0 : 0 ≤ (i * 5 + 1) % (zs.length : Int) := Int.emod_nonneg _ (by omega)
    have hk : ((i * 5 + 1) % (zs.length : Int)).toNat < zs.length := by omega
    have := h.2 zs[((i * 5 + 1) % (zs.length : Int)).toNat] (List.getElem_mem hk)
    simpa [List.getD, hk] using this

set_option maxHeartbeats 1000000 in
set_option maxRecDepth 100000 in
theorem at_det (v : Value) (zs : List Int) (i x : Int) (w : World) (h : RB w v zs) (hle : zs.length ≤ 1048576) (h0 : 0 ≤ i) (h1 : i ≤ 100) (hx : Hid (atI zs i = x)) :
    Calls Try.prog 15 #[v, .int .i64 i] w fun e w' => e = .returned (.int .i64 x) ∧ w = w' := by
  obtain ⟨A, c, rfl, hc, hm, hcell⟩ := h.form
  unfold maxLen at hm
  by_cases hz : zs.length = 0
  · have e1 : ((zs.length : Int) == 0) = true := by simp [hz]
    have HX : Hid ((0 : Int) = x) := Lib.hid (by have := hx.out; unfold atI at this; rw [if_pos hz] at this; exact this)
    clear hz hx
    go_enter Try.func15, Try.ntmps15
    go_wp2
    go_ret
    exact ⟨ret_int HX.out, rfl⟩
  · obtain ⟨b, off, rfl, hb, hcl⟩ := hcell (by omega)
    have e1 : ((zs.length : Int) == 0) = false := beq_eq_false_iff_ne.2 (by omega)
    have k0 : 0 ≤ (i * 5 + 1) % (zs.length : Int) := Int.emod_nonneg _ (by omega)
    have k1 : (i * 5 + 1) % (zs.length : Int) < (zs.length : Int) := Int.emod_lt_of_pos _ (by omega)
    obtain ⟨k, hk⟩ : ∃ k : Nat, (i * 5 + 1) % (zs.length : Int) = (k : Int) := ⟨((i * 5 + 1) % (zs.length : Int)).toNat, (Int.toNat_of_nonneg k0).symm⟩
    have HX : Hid (zs.getD k 0 = x) := Lib.hid (by have := hx.out; unfold atI at this; rw [if_neg hz, hk, Int.toNat_natCast] at this; exact this)
    rw [hk] at k1
    have hkl : k < zs.length := by omega
    clear k0 hx
    obtain ⟨z, q0, z0, z1⟩ := hcl k hkl
    have HZ : Hid (zs.getD k 0 = z) := Lib.hid (by
      have := h.1.2
      obtain ⟨A', c', e, _, _, hc'⟩ := this
      injection e with e1 e2 e3
      obtain ⟨b', off', eb, _, hcl'⟩ := hc' (by omega)
      rw [← e1] at eb
      injection eb with eb
      injection eb with eb1 eb2
      subst eb1 eb2
      have hq := hcl' k (.int .u8 (zs.getD k 0)) (by rw [List.getElem?_map, List.getElem?_eq_getElem hkl]; simp [List.getD, hkl])
      rw [q0] at hq
      injection hq with hq
      injection hq with _ hq
      exact hq.symm)
    have i0 : (0 : Int) ≤ (k : Int) := by omega
    have i1 : (k : Int) < (zs.length : Int) := by omega
    clear hcl hcell h
    go_enter Try.func15, Try.ntmps15
    go_wp2
    go_ret
    exact ⟨ret_int (HZ.out.symm.trans HX.out), rfl⟩

section
variable {P : Program} {md : Region.Mode} {ops : Array Oper} {Q : Exit → Act → World → Prop} {S : World → Prop}
theorem E_step2 {n i j : Nat} {o1 o2 : Oper} {fuel : Nat} {listed : Array Bool} {a : Act} {w : World} (ho1 : (ops.toList.drop i).head? = some o1) (ho2 : (ops.toList.drop j).head? = some o2) (hr : Region.ready md ops listed = [i, j])
    (h1 : ∀ K' : Act → World → Prop, (∀ a w, ((listed.setIfInBounds i true).getD n true = false → S w) → (((listed.setIfInBounds i true).getD n true = false → S w) → anyE P md ops Q S n fuel (listed.setIfInBounds i true) a w) → K' a w) → if Region.wanted o1 (yielded ops a.tmps) = true then Oper.wp P o1 a w K' Q else K' (a.put o1.dst undef) w)
    (h2 : ∀ K' : Act → World → Prop, (∀ a w, ((listed.setIfInBounds j true).getD n true = false → S w) → (((listed.setIfInBounds j true).getD n true = false → S w) → anyE P md ops Q S n fuel (listed.setIfInBounds j true) a w) → K' a w) → if Region.wanted o2 (yielded ops a.tmps) = true then Oper.wp P o2 a w K' Q else K' (a.put o2.dst undef) w) :
    anyE P md ops Q S n (fuel + 1) listed a w := by
  refine ⟨fun h0 => (by rw [h0] at hr; cases hr), fun k hk => ?_⟩
  rw [hr] at hk
  simp only [List.mem_cons, List.mem_nil_iff, or_false] at hk
  rcases hk with rfl | rfl
  · exact wpOp_step (op_of_head ho1) (fun K' hK => h1 K' (fun a w hS hW => hK a w ⟨hS, hW hS⟩))
  · exact wpOp_step (op_of_head ho2) (fun K' hK => h2 K' (fun a w hS hW => hK a w ⟨hS, hW hS⟩))
end

theorem undoAll_win {D : Dr} (h : okD D = true) : undoAllD D = ⟨D.fn, D.fl, D.fn, D.fl, []⟩ := by unfold undoAllD; rw [if_pos h]

theorem RD.ofOwn {base : Nat} {w : World} {a b c d e : Value} {D : Dr} {fs : List SF} (h : OwnD base w a b c d e D fs) {Z : Nat} (hz : Z < base) (u0 u1 u2 u3 u4 : Value) :
    RD (((((w.setCell ⟨Z, 0, none⟩ u0).setCell ⟨Z, 1, none⟩ u1).setCell ⟨Z, 2, none⟩ u2).setCell ⟨Z, 3, none⟩ u3).setCell ⟨Z, 4, none⟩ u4) a b c d e D := by
  have hn : ¬ blksD a b c d e fs Z := fun hk => by have := (h.lt _ hk).1; omega
  exact (((((h.setFar (p := ⟨Z, 0, none⟩) hn u0).setFar (p := ⟨Z, 1, none⟩) hn u1).setFar (p := ⟨Z, 2, none⟩) hn u2).setFar (p := ⟨Z, 3, none⟩) hn u3).setFar (p := ⟨Z, 4, none⟩) hn u4).reads

set_option maxHeartbeats 40000000 in
set_option maxRecDepth 100000 in
theorem draftsLaw_any (v : Value) (zs : List Int) (w : World) (h : RB w v zs) :
    Calls Try.prog 7 #[v] w fun e w' => e = .returned (.bool true) ∧ Below w.heap.size w w' := by
  cases hbg : decide ((1048576 : Int) < zs.length)
  case true =>
    go_enter Try.func7, Try.ntmps7
    go_wp2_with fail
    refine (big_at v zs _ _ h hbg).mono ?_
    rintro e w' ⟨rfl, rfl⟩
    go_wp2
    go_ret
    exact ⟨rfl, Below.refl _ _⟩
  case false =>
    have hle : zs.length ≤ 1048576 := by have := of_decide_eq_false hbg; omega
    obtain ⟨x0, hx0⟩ : ∃ x, atI zs 0 = x := ⟨_, rfl⟩
    obtain ⟨x1, hx1⟩ : ∃ x, atI zs 1 = x := ⟨_, rfl⟩
    obtain ⟨x2, hx2⟩ : ∃ x, atI zs 2 = x := ⟨_, rfl⟩
    have bd0 := atI_bd h 0
    rw [hx0] at bd0
    have HX0 := Lib.hid hx0
    have bd1 := atI_bd h 1
    rw [hx1] at bd1
    have HX1 := Lib.hid hx1
    have bd2 := atI_bd h 2
    rw [hx2] at bd2
    have HX2 := Lib.hid hx2
    have HRB := Lib.hid h
    have HBG := Lib.hid hbg
    obtain ⟨a, ha⟩ : ∃ a, Int.tmod x1 8 = a := ⟨_, rfl⟩
    obtain ⟨b, hb⟩ : ∃ b, Int.tmod x2 8 = b := ⟨_, rfl⟩
    obtain ⟨kr, hkr⟩ : ∃ a, x0 % 3 = a := ⟨_, rfl⟩
    have kr0 : 0 ≤ kr ∧ kr < 3 := by omega
    have hwr : IntKind.i64.wrap (1 + kr) = 1 + kr := IntWalk.i64_in _ (by omega)
    obtain ⟨kd, hkd⟩ : ∃ a, 1 + kr = a := ⟨_, rfl⟩
    have HA := Lib.hid ha
    have HBq := Lib.hid hb
    have HKR := Lib.hid hkr
    have HWR := Lib.hid hwr
    have HKD := Lib.hid hkd
    clear h hbg hx0 hx1 hx2 ha hb hkr hwr hkd
    go_enter Try.func7, Try.ntmps7
    go_wp2_with fail
    refine (big_at v zs _ _ HRB.out HBG.out).mono ?_
    rintro e w' ⟨rfl, rfl⟩
    go_wp2_with fail
    refine (drawDraft_any v zs _ HRB.out hle).mono ?_
    rintro e w1 ⟨D, fs, A30, c30, A31, c31, A32, c32, A33, c33, A34, c34, rfl, hok, hln, ho, hb1⟩
    have HOK := Lib.hid hok
    have HLE := Lib.hid (okD_le hok)
    have HCAN := Lib.hid (do_can hok (by omega) kd a b)
    have hr1 := ho.reads
    have hbw1 := hb1
    clear hok ho hb1
    obtain ⟨w2, hw2⟩ : ∃ u, u = w1.alloc (.cells #[.slice A30 D.fn.length c30, .slice A31 D.fl.length c31, .slice A32 D.nn.length c32, .slice A33 D.nl.length c33, .slice A34 D.ss.length c34] 59) := ⟨_, rfl⟩
    have hby : Below w1.heap.size w1 w2 := hw2 ▸ (Below.refl _ _).alloc (Nat.le_refl _) _
    have hB3_2 : Blk w2 w1.heap.size 59 #[.slice A30 D.fn.length c30, .slice A31 D.fl.length c31, .slice A32 D.nn.length c32, .slice A33 D.nl.length c33, .slice A34 D.ss.length c34] := hw2 ▸ Blk.newAt rfl
    have hD3_2 := hr1.below hby
    have hbw2 := hbw1.trans (hby.mono hbw1.size)
    go_wp2_with fail
    rw [← hw2]
    clear hw2 hr1 hbw1 hby
    generalize w1.heap.size = X3 at *
    refine (at_det v zs 0 x0 _ (HRB.out.below hbw2) hle (by omega) (by omega) HX0).mono ?_
    rintro e w' ⟨rfl, rfl⟩
    have hkr := HKR.out
    have hwr := HWR.out
    have hkd := HKD.out
    go_upto_region 5 with (fail)
    clear hkr hwr hkd
    have ha := HA.out
    have hb := HBq.out
    (have b3_0 := hB3_2.cell 0); (have b3_1 := hB3_2.cell 1); (have b3_2 := hB3_2.cell 2); (have b3_3 := hB3_2.cell 3); (have b3_4 := hB3_2.cell 4); simp only [List.getElem?_toArray, List.getElem?_cons_succ, List.getElem?_cons_zero] at b3_0 b3_1 b3_2 b3_3 b3_4
    have l3 := hB3_2.lt
    obtain ⟨E, hE⟩ : ∃ E, doStepD D kd a b = E := ⟨_, rfl⟩
    obtain ⟨bb, hbb⟩ : ∃ E, doStepB D kd a b = E := ⟨_, rfl⟩
    have HE := Lib.hid hE
    have HBB := Lib.hid hbb
    clear hE hbb
    go_cut [5, 6] (fun s5 s6 wx => ∃ (Z : Nat) (A50 : Option Addr) (c50 : Nat) (A51 : Option Addr) (c51 : Nat) (A52 : Option Addr) (c52 : Nat) (A53 : Option Addr) (c53 : Nat) (A54 : Option Addr) (c54 : Nat), s5 = .pointer (some ⟨Z, 0, none⟩) ∧ s6 = .bool bb ∧ Blk wx Z 59 #[.slice A50 E.fn.length c50, .slice A51 E.fl.length c51, .slice A52 E.nn.length c52, .slice A53 E.nl.length c53, .slice A54 E.ss.length c54] ∧ RD wx (.slice A50 E.fn.length c50) (.slice A51 E.fl.length c51) (.slice A52 E.nn.length c52) (.slice A53 E.nl.length c53) (.slice A54 E.ss.length c54) E ∧ Below w2.heap.size w2 wx)
    case first =>
      refine region_E (n := 13) (S := fun w' => w'.cell? ⟨X3, 0, none⟩ = some (.slice A30 D.fn.length c30) ∧ w'.cell? ⟨X3, 1, none⟩ = some (.slice A31 D.fl.length c31) ∧ w'.cell? ⟨X3, 2, none⟩ = some (.slice A32 D.nn.length c32) ∧ w'.cell? ⟨X3, 3, none⟩ = some (.slice A33 D.nl.length c33) ∧ w'.cell? ⟨X3, 4, none⟩ = some (.slice A34 D.ss.length c34)) (by kernel_rfl) ⟨hB3_2.cell 0, hB3_2.cell 1, hB3_2.cell 2, hB3_2.cell 3, hB3_2.cell 4⟩ (fun hS => ?_)
      (refine E_take (i := 0) (v := ?_) rfl rfl (by kernel_rfl) (by kernel_rfl) (by kernel_rfl) (by kernel_rfl) (by kernel_rfl) (fun _ _ _ h => h) (Or.inl ⟨by rfl, ?_⟩) (by assumption) ?_); rotate_left; (focus (intro w' hSw; (try dsimp only at hSw); go_simp; (try with_reducible rfl))); (try simp only [Act.put, List.setIfInBounds_toArray, List.set_cons_zero, List.set_cons_succ])
      (refine E_take (i := 1) (v := ?_) rfl rfl (by kernel_rfl) (by kernel_rfl) (by kernel_rfl) (by kernel_rfl) (by kernel_rfl) (fun _ _ _ h => h) (Or.inl ⟨by rfl, ?_⟩) (by assumption) ?_); rotate_left; (focus (intro w' hSw; (try dsimp only at hSw); go_simp; (try with_reducible rfl))); (try simp only [Act.put, List.setIfInBounds_toArray, List.set_cons_zero, List.set_cons_succ])
      (refine E_take (i := 2) (v := ?_) rfl rfl (by kernel_rfl) (by kernel_rfl) (by kernel_rfl) (by kernel_rfl) (by kernel_rfl) (fun _ _ _ h => h) (Or.inl ⟨by rfl, ?_⟩) (by assumption) ?_); rotate_left; (focus (intro w' hSw; (try dsimp only at hSw); go_simp; (try with_reducible rfl))); (try simp only [Act.put, List.setIfInBounds_toArray, List.set_cons_zero, List.set_cons_succ])
      (refine E_take (i := 5) (v := ?_) rfl rfl (by kernel_rfl) (by kernel_rfl) (by kernel_rfl) (by kernel_rfl) (by kernel_rfl) (fun _ _ _ h => h) (Or.inl ⟨by rfl, ?_⟩) (by assumption) ?_); rotate_left; (focus (intro w' hSw; (try dsimp only at hSw); go_simp; (try with_reducible rfl))); (try simp only [Act.put, List.setIfInBounds_toArray, List.set_cons_zero, List.set_cons_succ])
      have hbd0 : Below w2.heap.size w2 w2.drew := (Below.refl _ _).drew
      refine E_step2 (i := 3) (j := 12) rfl rfl (by kernel_rfl) (fun K hK => ?_) (fun K hK => ?_)
      · rw [if_pos (by rfl)]
        go_simp
        go_at_call 15
        refine (at_det v zs 1 x1 _ (HRB.out.below (hbw2.trans (hbd0.mono hbw2.size))) hle (by omega) (by omega) HX1).mono ?_
        rintro e w' ⟨rfl, rfl⟩
        go_wp2_with fail
        refine hK _ _ (fun _ => ⟨(hB3_2.below hbd0 hB3_2.lt).cell 0, (hB3_2.below hbd0 hB3_2.lt).cell 1, (hB3_2.below hbd0 hB3_2.lt).cell 2, (hB3_2.below hbd0 hB3_2.lt).cell 3, (hB3_2.below hbd0 hB3_2.lt).cell 4⟩) (fun hS' => ?_)
        have hS := hS' (by kernel_rfl)
        clear hK K hS'
        (try simp only [Act.put, List.setIfInBounds_toArray, List.set_cons_zero, List.set_cons_succ])
        (refine E_take (i := 4) (v := ?_) rfl rfl (by kernel_rfl) (by kernel_rfl) (by kernel_rfl) (by kernel_rfl) (by kernel_rfl) (fun _ _ _ h => h) (Or.inl ⟨by rfl, ?_⟩) (by assumption) ?_); rotate_left; (focus (intro w' hSw; (try dsimp only at hSw); go_simp; (try with_reducible rfl))); (try simp only [Act.put, List.setIfInBounds_toArray, List.set_cons_zero, List.set_cons_succ])
        refine E_step2 (i := 6) (j := 12) rfl rfl (by kernel_rfl) (fun K hK => ?_) (fun K hK => ?_)
        · rw [if_pos (by rfl)]
          go_simp
          go_at_call 15
          refine (at_det v zs 2 x2 _ (HRB.out.below (hbw2.trans (hbd0.mono hbw2.size))) hle (by omega) (by omega) HX2).mono ?_
          rintro e w' ⟨rfl, rfl⟩
          go_wp2_with fail
          refine hK _ _ (fun _ => ⟨(hB3_2.below hbd0 hB3_2.lt).cell 0, (hB3_2.below hbd0 hB3_2.lt).cell 1, (hB3_2.below hbd0 hB3_2.lt).cell 2, (hB3_2.below hbd0 hB3_2.lt).cell 3, (hB3_2.below hbd0 hB3_2.lt).cell 4⟩) (fun hS' => ?_)
          have hS := hS' (by kernel_rfl)
          clear hK K hS'
          (try simp only [Act.put, List.setIfInBounds_toArray, List.set_cons_zero, List.set_cons_succ])
          (refine E_take (i := 7) (v := ?_) rfl rfl (by kernel_rfl) (by kernel_rfl) (by kernel_rfl) (by kernel_rfl) (by kernel_rfl) (fun _ _ _ h => h) (Or.inl ⟨by rfl, ?_⟩) (by assumption) ?_); rotate_left; (focus (intro w' hSw; (try dsimp only at hSw); go_simp; (try with_reducible rfl))); (try simp only [Act.put, List.setIfInBounds_toArray, List.set_cons_zero, List.set_cons_succ])
          refine E_step2 (i := 8) (j := 12) rfl rfl (by kernel_rfl) (fun K hK => ?_) (fun K hK => ?_)
          · rw [if_pos (by rfl)]
            go_simp
            go_at_call 37
            refine (iDoStep_at _ _ _ _ _ D kd a b _ (hD3_2.below hbd0) HLE.out).mono ?_
            rw [HE.out, HBB.out]
            rintro e w7 ⟨A50, c50, A51, c51, A52, c52, A53, c53, A54, c54, gs, rfl, ho7, hb7⟩
            have hbd := hbd0.trans (hb7.mono hbd0.size)
            go_wp2_with fail
            refine hK _ _ (fun _ => ⟨(hB3_2.below hbd hB3_2.lt).cell 0, (hB3_2.below hbd hB3_2.lt).cell 1, (hB3_2.below hbd hB3_2.lt).cell 2, (hB3_2.below hbd hB3_2.lt).cell 3, (hB3_2.below hbd hB3_2.lt).cell 4⟩) (fun hS' => ?_)
            have hS := hS' (by kernel_rfl)
            clear hK K hS'
            (try simp only [Act.put, List.setIfInBounds_toArray, List.set_cons_zero, List.set_cons_succ])
            (refine E_take (i := 9) (v := ?_) rfl rfl (by kernel_rfl) (by kernel_rfl) (by kernel_rfl) (by kernel_rfl) (by kernel_rfl) (fun _ _ _ h => h) (Or.inl ⟨by rfl, ?_⟩) (by assumption) ?_); rotate_left; (focus (intro w' hSw; (try dsimp only at hSw); go_simp; (try with_reducible rfl))); (try simp only [Act.put, List.setIfInBounds_toArray, List.set_cons_zero, List.set_cons_succ])
            (refine E_take (i := 10) (v := ?_) rfl rfl (by kernel_rfl) (by kernel_rfl) (by kernel_rfl) (by kernel_rfl) (by kernel_rfl) (fun _ _ _ h => h) (Or.inl ⟨by rfl, ?_⟩) (by assumption) ?_); rotate_left; (focus (intro w' hSw; (try dsimp only at hSw); go_simp; (try with_reducible rfl))); (try simp only [Act.put, List.setIfInBounds_toArray, List.set_cons_zero, List.set_cons_succ])
            (refine E_take0 (i := 11) (v := ?_) rfl (by decide) (by kernel_rfl) (by kernel_rfl) (by kernel_rfl) (fun _ _ _ h => h) (Or.inl ⟨by rfl, ?_⟩) (by assumption) ?_); rotate_left; (focus (intro w' hSw; (try dsimp only at hSw); go_simp; (try with_reducible rfl))); (try simp only [Act.put, List.setIfInBounds_toArray, List.set_cons_zero, List.set_cons_succ])
            (refine E_step (i := 12) rfl (by kernel_rfl) (fun K hK => ?_)); (rw [if_pos (by rfl)])
            go_simp
            refine hK _ _ (fun _ => ⟨(hB3_2.below (hbd.alloc hbd.size _) hB3_2.lt).cell 0, (hB3_2.below (hbd.alloc hbd.size _) hB3_2.lt).cell 1, (hB3_2.below (hbd.alloc hbd.size _) hB3_2.lt).cell 2, (hB3_2.below (hbd.alloc hbd.size _) hB3_2.lt).cell 3, (hB3_2.below (hbd.alloc hbd.size _) hB3_2.lt).cell 4⟩) (fun hS' => ?_)
            have hS := hS' (by kernel_rfl)
            clear hK K hS'
            (try simp only [Act.put, List.setIfInBounds_toArray, List.set_cons_zero, List.set_cons_succ])
            have hB4 := Blk.newAt (w := w7) (g := w7.heap.size) (t := 59) (cs := #[.slice none 0 0, .slice none 0 0, .slice none 0 0, .slice none 0 0, .slice none 0 0]) rfl
            (have z_0 := hB4.cell 0); (have z_1 := hB4.cell 1); (have z_2 := hB4.cell 2); (have z_3 := hB4.cell 3); (have z_4 := hB4.cell 4); simp only [List.getElem?_toArray, List.getElem?_cons_succ, List.getElem?_cons_zero] at z_0 z_1 z_2 z_3 z_4; (have z_f0 := hB4.frozen 0); (have z_f1 := hB4.frozen 1); (have z_f2 := hB4.frozen 2); (have z_f3 := hB4.frozen 3); (have z_f4 := hB4.frozen 4)
            (refine E_step (i := 13) rfl (by kernel_rfl) (fun K hK => ?_)); (rw [if_pos (by rfl)])
            go_simp
            refine hK _ _ (fun h => by cases h) (fun _ => ?_)
            clear hK K z_0 z_1 z_2 z_3 z_4 z_f0 z_f1 z_f2 z_f3 z_f4
            (try simp only [Act.put, List.setIfInBounds_toArray, List.set_cons_zero, List.set_cons_succ])
            (refine E_step (i := 14) rfl (by kernel_rfl) (fun K hK => ?_)); (rw [if_pos (by rfl)])
            go_simp
            refine hK _ _ (fun h => by cases h) (fun _ => ?_)
            clear hK K
            (try simp only [Act.put, List.setIfInBounds_toArray, List.set_cons_zero, List.set_cons_succ])
            refine E_done (by kernel_rfl) ?_ _
            go_wp2
            go_meet
            exact ⟨w7.heap.size, A50, c50, A51, c51, A52, c52, A53, c53, A54, c54, rfl, rfl, Blk.newAt rfl, ho7.reads.below ((Below.refl _ _).alloc (Nat.le_refl _) _), hbd.alloc hbd.size _⟩
          · rw [if_pos (by rfl)]
            go_simp
            have hBA := (Blk.newAt (w := w2) (g := w2.heap.size) (t := 59) (cs := #[.slice none 0 0, .slice none 0 0, .slice none 0 0, .slice none 0 0, .slice none 0 0]) rfl).drew
            have hbA : Below w2.heap.size w2 (w2.alloc (.cells #[.slice none 0 0, .slice none 0 0, .slice none 0 0, .slice none 0 0, .slice none 0 0] 59)).drew := ((Below.refl w2.heap.size w2).alloc (Below.refl w2.heap.size w2).size _).drew
            obtain ⟨wA, hwA⟩ : ∃ u, u = (w2.alloc (.cells #[.slice none 0 0, .slice none 0 0, .slice none 0 0, .slice none 0 0, .slice none 0 0] 59)).drew := ⟨_, rfl⟩
            have hsA : wA.heap.size = w2.heap.size + 1 := by rw [hwA]; simp
            rw [← hwA] at hBA hbA ⊢
            clear hwA
            refine hK _ _ (fun _ => ⟨(hB3_2.below hbA hB3_2.lt).cell 0, (hB3_2.below hbA hB3_2.lt).cell 1, (hB3_2.below hbA hB3_2.lt).cell 2, (hB3_2.below hbA hB3_2.lt).cell 3, (hB3_2.below hbA hB3_2.lt).cell 4⟩) (fun hS' => ?_)
            have hS := hS' (by kernel_rfl)
            clear hK K hS'
            (try simp only [Act.put, List.setIfInBounds_toArray, List.set_cons_zero, List.set_cons_succ])
            (refine E_step (i := 8) rfl (by kernel_rfl) (fun K hK => ?_)); (rw [if_pos (by rfl)])
            go_simp
            go_at_call 37
            refine (iDoStep_at _ _ _ _ _ D kd a b _ (hD3_2.below hbA) HLE.out).mono ?_
            rw [HE.out, HBB.out]
            rintro e w7 ⟨A50, c50, A51, c51, A52, c52, A53, c53, A54, c54, gs, rfl, ho7, hb7⟩
            have hbd := hbA.trans (hb7.mono hbA.size)
            have hBA7 := hBA.below hb7 hBA.lt
            go_wp2_with fail
            refine hK _ _ (fun _ => ⟨(hB3_2.below hbd hB3_2.lt).cell 0, (hB3_2.below hbd hB3_2.lt).cell 1, (hB3_2.below hbd hB3_2.lt).cell 2, (hB3_2.below hbd hB3_2.lt).cell 3, (hB3_2.below hbd hB3_2.lt).cell 4⟩) (fun hS' => ?_)
            have hS := hS' (by kernel_rfl)
            clear hK K hS'
            (try simp only [Act.put, List.setIfInBounds_toArray, List.set_cons_zero, List.set_cons_succ])
            (refine E_take (i := 9) (v := ?_) rfl rfl (by kernel_rfl) (by kernel_rfl) (by kernel_rfl) (by kernel_rfl) (by kernel_rfl) (fun _ _ _ h => h) (Or.inl ⟨by rfl, ?_⟩) (by assumption) ?_); rotate_left; (focus (intro w' hSw; (try dsimp only at hSw); go_simp; (try with_reducible rfl))); (try simp only [Act.put, List.setIfInBounds_toArray, List.set_cons_zero, List.set_cons_succ])
            (refine E_take (i := 10) (v := ?_) rfl rfl (by kernel_rfl) (by kernel_rfl) (by kernel_rfl) (by kernel_rfl) (by kernel_rfl) (fun _ _ _ h => h) (Or.inl ⟨by rfl, ?_⟩) (by assumption) ?_); rotate_left; (focus (intro w' hSw; (try dsimp only at hSw); go_simp; (try with_reducible rfl))); (try simp only [Act.put, List.setIfInBounds_toArray, List.set_cons_zero, List.set_cons_succ])
            (refine E_take0 (i := 11) (v := ?_) rfl (by decide) (by kernel_rfl) (by kernel_rfl) (by kernel_rfl) (fun _ _ _ h => h) (Or.inl ⟨by rfl, ?_⟩) (by assumption) ?_); rotate_left; (focus (intro w' hSw; (try dsimp only at hSw); go_simp; (try with_reducible rfl))); (try simp only [Act.put, List.setIfInBounds_toArray, List.set_cons_zero, List.set_cons_succ])
            (have z_0 := hBA7.cell 0); (have z_1 := hBA7.cell 1); (have z_2 := hBA7.cell 2); (have z_3 := hBA7.cell 3); (have z_4 := hBA7.cell 4); simp only [List.getElem?_toArray, List.getElem?_cons_succ, List.getElem?_cons_zero] at z_0 z_1 z_2 z_3 z_4; (have z_f0 := hBA7.frozen 0); (have z_f1 := hBA7.frozen 1); (have z_f2 := hBA7.frozen 2); (have z_f3 := hBA7.frozen 3); (have z_f4 := hBA7.frozen 4)
            have hzl := hBA7.lt
            (refine E_step (i := 13) rfl (by kernel_rfl) (fun K hK => ?_)); (rw [if_pos (by rfl)])
            go_simp
            refine hK _ _ (fun h => by cases h) (fun _ => ?_)
            clear hK K z_0 z_1 z_2 z_3 z_4 z_f0 z_f1 z_f2 z_f3 z_f4
            (try simp only [Act.put, List.setIfInBounds_toArray, List.set_cons_zero, List.set_cons_succ])
            (refine E_step (i := 14) rfl (by kernel_rfl) (fun K hK => ?_)); (rw [if_pos (by rfl)])
            go_simp
            refine hK _ _ (fun h => by cases h) (fun _ => ?_)
            clear hK K
            (try simp only [Act.put, List.setIfInBounds_toArray, List.set_cons_zero, List.set_cons_succ])
            refine E_done (by kernel_rfl) ?_ _
            go_wp2
            go_meet
            exact ⟨w2.heap.size, A50, c50, A51, c51, A52, c52, A53, c53, A54, c54, rfl, rfl, (((((hBA7.set_ 0 _).set_ 1 _).set_ 2 _).set_ 3 _).set_ 4 _), RD.ofOwn ho7 (by omega) _ _ _ _ _, (((((hbd.setCell (p := ⟨w2.heap.size, 0, none⟩) (Nat.le_refl _) _).setCell (p := ⟨w2.heap.size, 1, none⟩) (Nat.le_refl _) _).setCell (p := ⟨w2.heap.size, 2, none⟩) (Nat.le_refl _) _).setCell (p := ⟨w2.heap.size, 3, none⟩) (Nat.le_refl _) _).setCell (p := ⟨w2.heap.size, 4, none⟩) (Nat.le_refl _) _)⟩
        · rw [if_pos (by rfl)]
          go_simp
          have hBA := (Blk.newAt (w := w2) (g := w2.heap.size) (t := 59) (cs := #[.slice none 0 0, .slice none 0 0, .slice none 0 0, .slice none 0 0, .slice none 0 0]) rfl).drew
          have hbA : Below w2.heap.size w2 (w2.alloc (.cells #[.slice none 0 0, .slice none 0 0, .slice none 0 0, .slice none 0 0, .slice none 0 0] 59)).drew := ((Below.refl w2.heap.size w2).alloc (Below.refl w2.heap.size w2).size _).drew
          obtain ⟨wA, hwA⟩ : ∃ u, u = (w2.alloc (.cells #[.slice none 0 0, .slice none 0 0, .slice none 0 0, .slice none 0 0, .slice none 0 0] 59)).drew := ⟨_, rfl⟩
          have hsA : wA.heap.size = w2.heap.size + 1 := by rw [hwA]; simp
          rw [← hwA] at hBA hbA ⊢
          clear hwA
          refine hK _ _ (fun _ => ⟨(hB3_2.below hbA hB3_2.lt).cell 0, (hB3_2.below hbA hB3_2.lt).cell 1, (hB3_2.below hbA hB3_2.lt).cell 2, (hB3_2.below hbA hB3_2.lt).cell 3, (hB3_2.below hbA hB3_2.lt).cell 4⟩) (fun hS' => ?_)
          have hS := hS' (by kernel_rfl)
          clear hK K hS'
          (try simp only [Act.put, List.setIfInBounds_toArray, List.set_cons_zero, List.set_cons_succ])
          (refine E_step (i := 6) rfl (by kernel_rfl) (fun K hK => ?_)); (rw [if_pos (by rfl)])
          go_simp
          go_at_call 15
          refine (at_det v zs 2 x2 _ (HRB.out.below (hbw2.trans (hbA.mono hbw2.size))) hle (by omega) (by omega) HX2).mono ?_
          rintro e w' ⟨rfl, rfl⟩
          go_wp2_with fail
          refine hK _ _ (fun _ => ⟨(hB3_2.below hbA hB3_2.lt).cell 0, (hB3_2.below hbA hB3_2.lt).cell 1, (hB3_2.below hbA hB3_2.lt).cell 2, (hB3_2.below hbA hB3_2.lt).cell 3, (hB3_2.below hbA hB3_2.lt).cell 4⟩) (fun hS' => ?_)
          have hS := hS' (by kernel_rfl)
          clear hK K hS'
          (try simp only [Act.put, List.setIfInBounds_toArray, List.set_cons_zero, List.set_cons_succ])
          (refine E_take (i := 7) (v := ?_) rfl rfl (by kernel_rfl) (by kernel_rfl) (by kernel_rfl) (by kernel_rfl) (by kernel_rfl) (fun _ _ _ h => h) (Or.inl ⟨by rfl, ?_⟩) (by assumption) ?_); rotate_left; (focus (intro w' hSw; (try dsimp only at hSw); go_simp; (try with_reducible rfl))); (try simp only [Act.put, List.setIfInBounds_toArray, List.set_cons_zero, List.set_cons_succ])
          (refine E_step (i := 8) rfl (by kernel_rfl) (fun K hK => ?_)); (rw [if_pos (by rfl)])
          go_simp
          go_at_call 37
          refine (iDoStep_at _ _ _ _ _ D kd a b _ (hD3_2.below hbA) HLE.out).mono ?_
          rw [HE.out, HBB.out]
          rintro e w7 ⟨A50, c50, A51, c51, A52, c52, A53, c53, A54, c54, gs, rfl, ho7, hb7⟩
          have hbd := hbA.trans (hb7.mono hbA.size)
          have hBA7 := hBA.below hb7 hBA.lt
          go_wp2_with fail
          refine hK _ _ (fun _ => ⟨(hB3_2.below hbd hB3_2.lt).cell 0, (hB3_2.below hbd hB3_2.lt).cell 1, (hB3_2.below hbd hB3_2.lt).cell 2, (hB3_2.below hbd hB3_2.lt).cell 3, (hB3_2.below hbd hB3_2.lt).cell 4⟩) (fun hS' => ?_)
          have hS := hS' (by kernel_rfl)
          clear hK K hS'
          (try simp only [Act.put, List.setIfInBounds_toArray, List.set_cons_zero, List.set_cons_succ])
          (refine E_take (i := 9) (v := ?_) rfl rfl (by kernel_rfl) (by kernel_rfl) (by kernel_rfl) (by kernel_rfl) (by kernel_rfl) (fun _ _ _ h => h) (Or.inl ⟨by rfl, ?_⟩) (by assumption) ?_); rotate_left; (focus (intro w' hSw; (try dsimp only at hSw); go_simp; (try with_reducible rfl))); (try simp only [Act.put, List.setIfInBounds_toArray, List.set_cons_zero, List.set_cons_succ])
          (refine E_take (i := 10) (v := ?_) rfl rfl (by kernel_rfl) (by kernel_rfl) (by kernel_rfl) (by kernel_rfl) (by kernel_rfl) (fun _ _ _ h => h) (Or.inl ⟨by rfl, ?_⟩) (by assumption) ?_); rotate_left; (focus (intro w' hSw; (try dsimp only at hSw); go_simp; (try with_reducible rfl))); (try simp only [Act.put, List.setIfInBounds_toArray, List.set_cons_zero, List.set_cons_succ])
          (refine E_take0 (i := 11) (v := ?_) rfl (by decide) (by kernel_rfl) (by kernel_rfl) (by kernel_rfl) (fun _ _ _ h => h) (Or.inl ⟨by rfl, ?_⟩) (by assumption) ?_); rotate_left; (focus (intro w' hSw; (try dsimp only at hSw); go_simp; (try with_reducible rfl))); (try simp only [Act.put, List.setIfInBounds_toArray, List.set_cons_zero, List.set_cons_succ])
          (have z_0 := hBA7.cell 0); (have z_1 := hBA7.cell 1); (have z_2 := hBA7.cell 2); (have z_3 := hBA7.cell 3); (have z_4 := hBA7.cell 4); simp only [List.getElem?_toArray, List.getElem?_cons_succ, List.getElem?_cons_zero] at z_0 z_1 z_2 z_3 z_4; (have z_f0 := hBA7.frozen 0); (have z_f1 := hBA7.frozen 1); (have z_f2 := hBA7.frozen 2); (have z_f3 := hBA7.frozen 3); (have z_f4 := hBA7.frozen 4)
          have hzl := hBA7.lt
          (refine E_step (i := 13) rfl (by kernel_rfl) (fun K hK => ?_)); (rw [if_pos (by rfl)])
          go_simp
          refine hK _ _ (fun h => by cases h) (fun _ => ?_)
          clear hK K z_0 z_1 z_2 z_3 z_4 z_f0 z_f1 z_f2 z_f3 z_f4
          (try simp only [Act.put, List.setIfInBounds_toArray, List.set_cons_zero, List.set_cons_succ])
          (refine E_step (i := 14) rfl (by kernel_rfl) (fun K hK => ?_)); (rw [if_pos (by rfl)])
          go_simp
          refine hK _ _ (fun h => by cases h) (fun _ => ?_)
          clear hK K
          (try simp only [Act.put, List.setIfInBounds_toArray, List.set_cons_zero, List.set_cons_succ])
          refine E_done (by kernel_rfl) ?_ _
          go_wp2
          go_meet
          exact ⟨w2.heap.size, A50, c50, A51, c51, A52, c52, A53, c53, A54, c54, rfl, rfl, (((((hBA7.set_ 0 _).set_ 1 _).set_ 2 _).set_ 3 _).set_ 4 _), RD.ofOwn ho7 (by omega) _ _ _ _ _, (((((hbd.setCell (p := ⟨w2.heap.size, 0, none⟩) (Nat.le_refl _) _).setCell (p := ⟨w2.heap.size, 1, none⟩) (Nat.le_refl _) _).setCell (p := ⟨w2.heap.size, 2, none⟩) (Nat.le_refl _) _).setCell (p := ⟨w2.heap.size, 3, none⟩) (Nat.le_refl _) _).setCell (p := ⟨w2.heap.size, 4, none⟩) (Nat.le_refl _) _)⟩
      · rw [if_pos (by rfl)]
        go_simp
        have hBA := (Blk.newAt (w := w2) (g := w2.heap.size) (t := 59) (cs := #[.slice none 0 0, .slice none 0 0, .slice none 0 0, .slice none 0 0, .slice none 0 0]) rfl).drew
        have hbA : Below w2.heap.size w2 (w2.alloc (.cells #[.slice none 0 0, .slice none 0 0, .slice none 0 0, .slice none 0 0, .slice none 0 0] 59)).drew := ((Below.refl w2.heap.size w2).alloc (Below.refl w2.heap.size w2).size _).drew
        obtain ⟨wA, hwA⟩ : ∃ u, u = (w2.alloc (.cells #[.slice none 0 0, .slice none 0 0, .slice none 0 0, .slice none 0 0, .slice none 0 0] 59)).drew := ⟨_, rfl⟩
        have hsA : wA.heap.size = w2.heap.size + 1 := by rw [hwA]; simp
        rw [← hwA] at hBA hbA ⊢
        clear hwA
        refine hK _ _ (fun _ => ⟨(hB3_2.below hbA hB3_2.lt).cell 0, (hB3_2.below hbA hB3_2.lt).cell 1, (hB3_2.below hbA hB3_2.lt).cell 2, (hB3_2.below hbA hB3_2.lt).cell 3, (hB3_2.below hbA hB3_2.lt).cell 4⟩) (fun hS' => ?_)
        have hS := hS' (by kernel_rfl)
        clear hK K hS'
        (try simp only [Act.put, List.setIfInBounds_toArray, List.set_cons_zero, List.set_cons_succ])
        (refine E_step (i := 3) rfl (by kernel_rfl) (fun K hK => ?_)); (rw [if_pos (by rfl)])
        go_simp
        go_at_call 15
        refine (at_det v zs 1 x1 _ (HRB.out.below (hbw2.trans (hbA.mono hbw2.size))) hle (by omega) (by omega) HX1).mono ?_
        rintro e w' ⟨rfl, rfl⟩
        go_wp2_with fail
        refine hK _ _ (fun _ => ⟨(hB3_2.below hbA hB3_2.lt).cell 0, (hB3_2.below hbA hB3_2.lt).cell 1, (hB3_2.below hbA hB3_2.lt).cell 2, (hB3_2.below hbA hB3_2.lt).cell 3, (hB3_2.below hbA hB3_2.lt).cell 4⟩) (fun hS' => ?_)
        have hS := hS' (by kernel_rfl)
        clear hK K hS'
        (try simp only [Act.put, List.setIfInBounds_toArray, List.set_cons_zero, List.set_cons_succ])
        (refine E_take (i := 4) (v := ?_) rfl rfl (by kernel_rfl) (by kernel_rfl) (by kernel_rfl) (by kernel_rfl) (by kernel_rfl) (fun _ _ _ h => h) (Or.inl ⟨by rfl, ?_⟩) (by assumption) ?_); rotate_left; (focus (intro w' hSw; (try dsimp only at hSw); go_simp; (try with_reducible rfl))); (try simp only [Act.put, List.setIfInBounds_toArray, List.set_cons_zero, List.set_cons_succ])
        (refine E_step (i := 6) rfl (by kernel_rfl) (fun K hK => ?_)); (rw [if_pos (by rfl)])
        go_simp
        go_at_call 15
        refine (at_det v zs 2 x2 _ (HRB.out.below (hbw2.trans (hbA.mono hbw2.size))) hle (by omega) (by omega) HX2).mono ?_
        rintro e w' ⟨rfl, rfl⟩
        go_wp2_with fail
        refine hK _ _ (fun _ => ⟨(hB3_2.below hbA hB3_2.lt).cell 0, (hB3_2.below hbA hB3_2.lt).cell 1, (hB3_2.below hbA hB3_2.lt).cell 2, (hB3_2.below hbA hB3_2.lt).cell 3, (hB3_2.below hbA hB3_2.lt).cell 4⟩) (fun hS' => ?_)
        have hS := hS' (by kernel_rfl)
        clear hK K hS'
        (try simp only [Act.put, List.setIfInBounds_toArray, List.set_cons_zero, List.set_cons_succ])
        (refine E_take (i := 7) (v := ?_) rfl rfl (by kernel_rfl) (by kernel_rfl) (by kernel_rfl) (by kernel_rfl) (by kernel_rfl) (fun _ _ _ h => h) (Or.inl ⟨by rfl, ?_⟩) (by assumption) ?_); rotate_left; (focus (intro w' hSw; (try dsimp only at hSw); go_simp; (try with_reducible rfl))); (try simp only [Act.put, List.setIfInBounds_toArray, List.set_cons_zero, List.set_cons_succ])
        (refine E_step (i := 8) rfl (by kernel_rfl) (fun K hK => ?_)); (rw [if_pos (by rfl)])
        go_simp
        go_at_call 37
        refine (iDoStep_at _ _ _ _ _ D kd a b _ (hD3_2.below hbA) HLE.out).mono ?_
        rw [HE.out, HBB.out]
        rintro e w7 ⟨A50, c50, A51, c51, A52, c52, A53, c53, A54, c54, gs, rfl, ho7, hb7⟩
        have hbd := hbA.trans (hb7.mono hbA.size)
        have hBA7 := hBA.below hb7 hBA.lt
        go_wp2_with fail
        refine hK _ _ (fun _ => ⟨(hB3_2.below hbd hB3_2.lt).cell 0, (hB3_2.below hbd hB3_2.lt).cell 1, (hB3_2.below hbd hB3_2.lt).cell 2, (hB3_2.below hbd hB3_2.lt).cell 3, (hB3_2.below hbd hB3_2.lt).cell 4⟩) (fun hS' => ?_)
        have hS := hS' (by kernel_rfl)
        clear hK K hS'
        (try simp only [Act.put, List.setIfInBounds_toArray, List.set_cons_zero, List.set_cons_succ])
        (refine E_take (i := 9) (v := ?_) rfl rfl (by kernel_rfl) (by kernel_rfl) (by kernel_rfl) (by kernel_rfl) (by kernel_rfl) (fun _ _ _ h => h) (Or.inl ⟨by rfl, ?_⟩) (by assumption) ?_); rotate_left; (focus (intro w' hSw; (try dsimp only at hSw); go_simp; (try with_reducible rfl))); (try simp only [Act.put, List.setIfInBounds_toArray, List.set_cons_zero, List.set_cons_succ])
        (refine E_take (i := 10) (v := ?_) rfl rfl (by kernel_rfl) (by kernel_rfl) (by kernel_rfl) (by kernel_rfl) (by kernel_rfl) (fun _ _ _ h => h) (Or.inl ⟨by rfl, ?_⟩) (by assumption) ?_); rotate_left; (focus (intro w' hSw; (try dsimp only at hSw); go_simp; (try with_reducible rfl))); (try simp only [Act.put, List.setIfInBounds_toArray, List.set_cons_zero, List.set_cons_succ])
        (refine E_take0 (i := 11) (v := ?_) rfl (by decide) (by kernel_rfl) (by kernel_rfl) (by kernel_rfl) (fun _ _ _ h => h) (Or.inl ⟨by rfl, ?_⟩) (by assumption) ?_); rotate_left; (focus (intro w' hSw; (try dsimp only at hSw); go_simp; (try with_reducible rfl))); (try simp only [Act.put, List.setIfInBounds_toArray, List.set_cons_zero, List.set_cons_succ])
        (have z_0 := hBA7.cell 0); (have z_1 := hBA7.cell 1); (have z_2 := hBA7.cell 2); (have z_3 := hBA7.cell 3); (have z_4 := hBA7.cell 4); simp only [List.getElem?_toArray, List.getElem?_cons_succ, List.getElem?_cons_zero] at z_0 z_1 z_2 z_3 z_4; (have z_f0 := hBA7.frozen 0); (have z_f1 := hBA7.frozen 1); (have z_f2 := hBA7.frozen 2); (have z_f3 := hBA7.frozen 3); (have z_f4 := hBA7.frozen 4)
        have hzl := hBA7.lt
        (refine E_step (i := 13) rfl (by kernel_rfl) (fun K hK => ?_)); (rw [if_pos (by rfl)])
        go_simp
        refine hK _ _ (fun h => by cases h) (fun _ => ?_)
        clear hK K z_0 z_1 z_2 z_3 z_4 z_f0 z_f1 z_f2 z_f3 z_f4
        (try simp only [Act.put, List.setIfInBounds_toArray, List.set_cons_zero, List.set_cons_succ])
        (refine E_step (i := 14) rfl (by kernel_rfl) (fun K hK => ?_)); (rw [if_pos (by rfl)])
        go_simp
        refine hK _ _ (fun h => by cases h) (fun _ => ?_)
        clear hK K
        (try simp only [Act.put, List.setIfInBounds_toArray, List.set_cons_zero, List.set_cons_succ])
        refine E_done (by kernel_rfl) ?_ _
        go_wp2
        go_meet
        exact ⟨w2.heap.size, A50, c50, A51, c51, A52, c52, A53, c53, A54, c54, rfl, rfl, (((((hBA7.set_ 0 _).set_ 1 _).set_ 2 _).set_ 3 _).set_ 4 _), RD.ofOwn ho7 (by omega) _ _ _ _ _, (((((hbd.setCell (p := ⟨w2.heap.size, 0, none⟩) (Nat.le_refl _) _).setCell (p := ⟨w2.heap.size, 1, none⟩) (Nat.le_refl _) _).setCell (p := ⟨w2.heap.size, 2, none⟩) (Nat.le_refl _) _).setCell (p := ⟨w2.heap.size, 3, none⟩) (Nat.le_refl _) _).setCell (p := ⟨w2.heap.size, 4, none⟩) (Nat.le_refl _) _)⟩
    case rest =>
      obtain ⟨X5, A50, c50, A51, c51, A52, c52, A53, c53, A54, c54, rfl, rfl, hB5_c, hD5_c, hbc⟩ := hcut
      clear b3_0 b3_1 b3_2 b3_3 b3_4 l3
      have hB3_c := hB3_2.below hbc hB3_2.lt
      have hD3_c := hD3_2.below hbc
      have hbwc := hbw2.trans (hbc.mono hbw2.size)
      clear hB3_2 hD3_2 hbw2 hbc
      obtain ⟨N, hN⟩ : ∃ N, stepN D.nn D.nl kd a b = N := ⟨_, rfl⟩
      obtain ⟨LL, hLL⟩ : ∃ L, stepL D.nn D.nl kd a b = L := ⟨_, rfl⟩
      have HN := Lib.hid hN
      have HLL := Lib.hid hLL
      have HSB : Hid (stepB D.nn D.nl kd a b = bb) := Lib.hid (by rw [← HCAN.out, HBB.out])
      clear hN hLL
      go_upto_region 6 with (fail)
      go_cut [7, 8] (fun s7 s8 wx => ∃ (Z : Nat) (An7 : Option Addr) (cn7 : Nat) (Al7 : Option Addr) (cl7 : Nat), s7 = .pointer (some ⟨Z, 0, none⟩) ∧ s8 = .bool bb ∧ Blk wx Z 27 #[.slice An7 N.length cn7, .slice Al7 LL.length cl7] ∧ RP wx (.slice An7 N.length cn7) N ∧ RP wx (.slice Al7 LL.length cl7) LL ∧ Below wc.heap.size wc wx)
      case first =>
        refine region_E (n := 14) (S := fun w' => w'.cell? ⟨X3, 2, none⟩ = some (.slice A32 D.nn.length c32) ∧ w'.cell? ⟨X3, 3, none⟩ = some (.slice A33 D.nl.length c33)) (by kernel_rfl) ⟨hB3_c.cell 2, hB3_c.cell 3⟩ (fun hS => ?_)
        (refine E_take (i := 0) (v := ?_) rfl rfl (by kernel_rfl) (by kernel_rfl) (by kernel_rfl) (by kernel_rfl) (by kernel_rfl) (fun _ _ _ h => h) (Or.inl ⟨by rfl, ?_⟩) (by assumption) ?_); rotate_left; (focus (intro w' hSw; (try dsimp only at hSw); go_simp; (try with_reducible rfl))); (try simp only [Act.put, List.setIfInBounds_toArray, List.set_cons_zero, List.set_cons_succ])
        (refine E_take (i := 1) (v := ?_) rfl rfl (by kernel_rfl) (by kernel_rfl) (by kernel_rfl) (by kernel_rfl) (by kernel_rfl) (fun _ _ _ h => h) (Or.inl ⟨by rfl, ?_⟩) (by assumption) ?_); rotate_left; (focus (intro w' hSw; (try dsimp only at hSw); go_simp; (try with_reducible rfl))); (try simp only [Act.put, List.setIfInBounds_toArray, List.set_cons_zero, List.set_cons_succ])
        (refine E_take (i := 2) (v := ?_) rfl rfl (by kernel_rfl) (by kernel_rfl) (by kernel_rfl) (by kernel_rfl) (by kernel_rfl) (fun _ _ _ h => h) (Or.inl ⟨by rfl, ?_⟩) (by assumption) ?_); rotate_left; (focus (intro w' hSw; (try dsimp only at hSw); go_simp; (try with_reducible rfl))); (try simp only [Act.put, List.setIfInBounds_toArray, List.set_cons_zero, List.set_cons_succ])
        (refine E_take (i := 3) (v := ?_) rfl rfl (by kernel_rfl) (by kernel_rfl) (by kernel_rfl) (by kernel_rfl) (by kernel_rfl) (fun _ _ _ h => h) (Or.inl ⟨by rfl, ?_⟩) (by assumption) ?_); rotate_left; (focus (intro w' hSw; (try dsimp only at hSw); go_simp; (try with_reducible rfl))); (try simp only [Act.put, List.setIfInBounds_toArray, List.set_cons_zero, List.set_cons_succ])
        (refine E_take (i := 6) (v := ?_) rfl rfl (by kernel_rfl) (by kernel_rfl) (by kernel_rfl) (by kernel_rfl) (by kernel_rfl) (fun _ _ _ h => h) (Or.inl ⟨by rfl, ?_⟩) (by assumption) ?_); rotate_left; (focus (intro w' hSw; (try dsimp only at hSw); go_simp; (try with_reducible rfl))); (try simp only [Act.put, List.setIfInBounds_toArray, List.set_cons_zero, List.set_cons_succ])
        have hbd0 : Below wc.heap.size wc wc.drew := (Below.refl _ _).drew
        refine E_step2 (i := 4) (j := 13) rfl rfl (by kernel_rfl) (fun K hK => ?_) (fun K hK => ?_)
        · rw [if_pos (by rfl)]
          go_simp
          go_at_call 15
          refine (at_det v zs 1 x1 _ (HRB.out.below (hbwc.trans (hbd0.mono hbwc.size))) hle (by omega) (by omega) HX1).mono ?_
          rintro e w' ⟨rfl, rfl⟩
          go_wp2_with fail
          refine hK _ _ (fun _ => ⟨(hB3_c.below hbd0 hB3_c.lt).cell 2, (hB3_c.below hbd0 hB3_c.lt).cell 3⟩) (fun hS' => ?_)
          have hS := hS' (by kernel_rfl)
          clear hK K hS'
          (try simp only [Act.put, List.setIfInBounds_toArray, List.set_cons_zero, List.set_cons_succ])
          (refine E_take (i := 5) (v := ?_) rfl rfl (by kernel_rfl) (by kernel_rfl) (by kernel_rfl) (by kernel_rfl) (by kernel_rfl) (fun _ _ _ h => h) (Or.inl ⟨by rfl, ?_⟩) (by assumption) ?_); rotate_left; (focus (intro w' hSw; (try dsimp only at hSw); go_simp; (try with_reducible rfl))); (try simp only [Act.put, List.setIfInBounds_toArray, List.set_cons_zero, List.set_cons_succ])
          refine E_step2 (i := 7) (j := 13) rfl rfl (by kernel_rfl) (fun K hK => ?_) (fun K hK => ?_)
          · rw [if_pos (by rfl)]
            go_simp
            go_at_call 15
            refine (at_det v zs 2 x2 _ (HRB.out.below (hbwc.trans (hbd0.mono hbwc.size))) hle (by omega) (by omega) HX2).mono ?_
            rintro e w' ⟨rfl, rfl⟩
            go_wp2_with fail
            refine hK _ _ (fun _ => ⟨(hB3_c.below hbd0 hB3_c.lt).cell 2, (hB3_c.below hbd0 hB3_c.lt).cell 3⟩) (fun hS' => ?_)
            have hS := hS' (by kernel_rfl)
            clear hK K hS'
            (try simp only [Act.put, List.setIfInBounds_toArray, List.set_cons_zero, List.set_cons_succ])
            (refine E_take (i := 8) (v := ?_) rfl rfl (by kernel_rfl) (by kernel_rfl) (by kernel_rfl) (by kernel_rfl) (by kernel_rfl) (fun _ _ _ h => h) (Or.inl ⟨by rfl, ?_⟩) (by assumption) ?_); rotate_left; (focus (intro w' hSw; (try dsimp only at hSw); go_simp; (try with_reducible rfl))); (try simp only [Act.put, List.setIfInBounds_toArray, List.set_cons_zero, List.set_cons_succ])
            refine E_step2 (i := 9) (j := 13) rfl rfl (by kernel_rfl) (fun K hK => ?_) (fun K hK => ?_)
            · rw [if_pos (by rfl)]
              go_simp
              go_at_call 28
              refine (iStep_at _ _ D.nn D.nl N LL kd a b bb _ (hD3_c.below hbd0).nn (hD3_c.below hbd0).nl HLE.out.nn HLE.out.nl HN HLL HSB).mono ?_
              rintro e w7 ⟨An7, cn7, Al7, cl7, rfl, ho7, hb7⟩
              have hbd := hbd0.trans (hb7.mono hbd0.size)
              go_wp2_with fail
              refine hK _ _ (fun _ => ⟨(hB3_c.below hbd hB3_c.lt).cell 2, (hB3_c.below hbd hB3_c.lt).cell 3⟩) (fun hS' => ?_)
              have hS := hS' (by kernel_rfl)
              clear hK K hS'
              (try simp only [Act.put, List.setIfInBounds_toArray, List.set_cons_zero, List.set_cons_succ])
              (refine E_take (i := 10) (v := ?_) rfl rfl (by kernel_rfl) (by kernel_rfl) (by kernel_rfl) (by kernel_rfl) (by kernel_rfl) (fun _ _ _ h => h) (Or.inl ⟨by rfl, ?_⟩) (by assumption) ?_); rotate_left; (focus (intro w' hSw; (try dsimp only at hSw); go_simp; (try with_reducible rfl))); (try simp only [Act.put, List.setIfInBounds_toArray, List.set_cons_zero, List.set_cons_succ])
              (refine E_take (i := 11) (v := ?_) rfl rfl (by kernel_rfl) (by kernel_rfl) (by kernel_rfl) (by kernel_rfl) (by kernel_rfl) (fun _ _ _ h => h) (Or.inl ⟨by rfl, ?_⟩) (by assumption) ?_); rotate_left; (focus (intro w' hSw; (try dsimp only at hSw); go_simp; (try with_reducible rfl))); (try simp only [Act.put, List.setIfInBounds_toArray, List.set_cons_zero, List.set_cons_succ])
              (refine E_take0 (i := 12) (v := ?_) rfl (by decide) (by kernel_rfl) (by kernel_rfl) (by kernel_rfl) (fun _ _ _ h => h) (Or.inl ⟨by rfl, ?_⟩) (by assumption) ?_); rotate_left; (focus (intro w' hSw; (try dsimp only at hSw); go_simp; (try with_reducible rfl))); (try simp only [Act.put, List.setIfInBounds_toArray, List.set_cons_zero, List.set_cons_succ])
              (refine E_step (i := 13) rfl (by kernel_rfl) (fun K hK => ?_)); (rw [if_pos (by rfl)])
              go_simp
              refine hK _ _ (fun _ => ⟨(hB3_c.below (hbd.alloc hbd.size _) hB3_c.lt).cell 2, (hB3_c.below (hbd.alloc hbd.size _) hB3_c.lt).cell 3⟩) (fun hS' => ?_)
              have hS := hS' (by kernel_rfl)
              clear hK K hS'
              (try simp only [Act.put, List.setIfInBounds_toArray, List.set_cons_zero, List.set_cons_succ])
              have hB4 := Blk.newAt (w := w7) (g := w7.heap.size) (t := 27) (cs := #[.slice none 0 0, .slice none 0 0]) rfl
              (have z_0 := hB4.cell 0); (have z_1 := hB4.cell 1); simp only [List.getElem?_toArray, List.getElem?_cons_succ, List.getElem?_cons_zero] at z_0 z_1; (have z_f0 := hB4.frozen 0); (have z_f1 := hB4.frozen 1)
              (refine E_step (i := 14) rfl (by kernel_rfl) (fun K hK => ?_)); (rw [if_pos (by rfl)])
              go_simp
              refine hK _ _ (fun h => by cases h) (fun _ => ?_)
              clear hK K z_0 z_1 z_f0 z_f1
              (try simp only [Act.put, List.setIfInBounds_toArray, List.set_cons_zero, List.set_cons_succ])
              (refine E_step (i := 15) rfl (by kernel_rfl) (fun K hK => ?_)); (rw [if_pos (by rfl)])
              go_simp
              refine hK _ _ (fun h => by cases h) (fun _ => ?_)
              clear hK K
              (try simp only [Act.put, List.setIfInBounds_toArray, List.set_cons_zero, List.set_cons_succ])
              refine E_done (by kernel_rfl) ?_ _
              go_wp2
              go_meet
              exact ⟨w7.heap.size, An7, cn7, Al7, cl7, rfl, rfl, Blk.newAt rfl, (ho7.alloc _).1.reads, (ho7.alloc _).2.1.reads, hbd.alloc hbd.size _⟩
            · rw [if_pos (by rfl)]
              go_simp
              have hBA := (Blk.newAt (w := wc) (g := wc.heap.size) (t := 27) (cs := #[.slice none 0 0, .slice none 0 0]) rfl).drew
              have hbA : Below wc.heap.size wc (wc.alloc (.cells #[.slice none 0 0, .slice none 0 0] 27)).drew := ((Below.refl wc.heap.size wc).alloc (Below.refl wc.heap.size wc).size _).drew
              obtain ⟨wA, hwA⟩ : ∃ u, u = (wc.alloc (.cells #[.slice none 0 0, .slice none 0 0] 27)).drew := ⟨_, rfl⟩
              have hsA : wA.heap.size = wc.heap.size + 1 := by rw [hwA]; simp
              rw [← hwA] at hBA hbA ⊢
              clear hwA
              refine hK _ _ (fun _ => ⟨(hB3_c.below hbA hB3_c.lt).cell 2, (hB3_c.below hbA hB3_c.lt).cell 3⟩) (fun hS' => ?_)
              have hS := hS' (by kernel_rfl)
              clear hK K hS'
              (try simp only [Act.put, List.setIfInBounds_toArray, List.set_cons_zero, List.set_cons_succ])
              (refine E_step (i := 9) rfl (by kernel_rfl) (fun K hK => ?_)); (rw [if_pos (by rfl)])
              go_simp
              go_at_call 28
              refine (iStep_at _ _ D.nn D.nl N LL kd a b bb _ (hD3_c.below hbA).nn (hD3_c.below hbA).nl HLE.out.nn HLE.out.nl HN HLL HSB).mono ?_
              rintro e w7 ⟨An7, cn7, Al7, cl7, rfl, ho7, hb7⟩
              have hbd := hbA.trans (hb7.mono hbA.size)
              have hBA7 := hBA.below hb7 hBA.lt
              go_wp2_with fail
              refine hK _ _ (fun _ => ⟨(hB3_c.below hbd hB3_c.lt).cell 2, (hB3_c.below hbd hB3_c.lt).cell 3⟩) (fun hS' => ?_)
              have hS := hS' (by kernel_rfl)
              clear hK K hS'
              (try simp only [Act.put, List.setIfInBounds_toArray, List.set_cons_zero, List.set_cons_succ])
              (refine E_take (i := 10) (v := ?_) rfl rfl (by kernel_rfl) (by kernel_rfl) (by kernel_rfl) (by kernel_rfl) (by kernel_rfl) (fun _ _ _ h => h) (Or.inl ⟨by rfl, ?_⟩) (by assumption) ?_); rotate_left; (focus (intro w' hSw; (try dsimp only at hSw); go_simp; (try with_reducible rfl))); (try simp only [Act.put, List.setIfInBounds_toArray, List.set_cons_zero, List.set_cons_succ])
              (refine E_take (i := 11) (v := ?_) rfl rfl (by kernel_rfl) (by kernel_rfl) (by kernel_rfl) (by kernel_rfl) (by kernel_rfl) (fun _ _ _ h => h) (Or.inl ⟨by rfl, ?_⟩) (by assumption) ?_); rotate_left; (focus (intro w' hSw; (try dsimp only at hSw); go_simp; (try with_reducible rfl))); (try simp only [Act.put, List.setIfInBounds_toArray, List.set_cons_zero, List.set_cons_succ])
              (refine E_take0 (i := 12) (v := ?_) rfl (by decide) (by kernel_rfl) (by kernel_rfl) (by kernel_rfl) (fun _ _ _ h => h) (Or.inl ⟨by rfl, ?_⟩) (by assumption) ?_); rotate_left; (focus (intro w' hSw; (try dsimp only at hSw); go_simp; (try with_reducible rfl))); (try simp only [Act.put, List.setIfInBounds_toArray, List.set_cons_zero, List.set_cons_succ])
              (have z_0 := hBA7.cell 0); (have z_1 := hBA7.cell 1); simp only [List.getElem?_toArray, List.getElem?_cons_succ, List.getElem?_cons_zero] at z_0 z_1; (have z_f0 := hBA7.frozen 0); (have z_f1 := hBA7.frozen 1)
              have hzl := hBA7.lt
              have hnf : ¬ blksW (.slice An7 N.length cn7) (.slice Al7 LL.length cl7) wc.heap.size := fun hk => by have := (ho7.lt _ hk).1; omega
              (refine E_step (i := 14) rfl (by kernel_rfl) (fun K hK => ?_)); (rw [if_pos (by rfl)])
              go_simp
              refine hK _ _ (fun h => by cases h) (fun _ => ?_)
              clear hK K z_0 z_1 z_f0 z_f1
              (try simp only [Act.put, List.setIfInBounds_toArray, List.set_cons_zero, List.set_cons_succ])
              (refine E_step (i := 15) rfl (by kernel_rfl) (fun K hK => ?_)); (rw [if_pos (by rfl)])
              go_simp
              refine hK _ _ (fun h => by cases h) (fun _ => ?_)
              clear hK K
              (try simp only [Act.put, List.setIfInBounds_toArray, List.set_cons_zero, List.set_cons_succ])
              refine E_done (by kernel_rfl) ?_ _
              go_wp2
              go_meet
              exact ⟨wc.heap.size, An7, cn7, Al7, cl7, rfl, rfl, (hBA7.set_ 0 _).set_ 1 _, ((ho7.setFar (p := ⟨wc.heap.size, 0, none⟩) hnf _).setFar (p := ⟨wc.heap.size, 1, none⟩) hnf _).1.reads, ((ho7.setFar (p := ⟨wc.heap.size, 0, none⟩) hnf _).setFar (p := ⟨wc.heap.size, 1, none⟩) hnf _).2.1.reads, (hbd.setCell (p := ⟨wc.heap.size, 0, none⟩) (Nat.le_refl _) _).setCell (p := ⟨wc.heap.size, 1, none⟩) (Nat.le_refl _) _⟩
          · rw [if_pos (by rfl)]
            go_simp
            have hBA := (Blk.newAt (w := wc) (g := wc.heap.size) (t := 27) (cs := #[.slice none 0 0, .slice none 0 0]) rfl).drew
            have hbA : Below wc.heap.size wc (wc.alloc (.cells #[.slice none 0 0, .slice none 0 0] 27)).drew := ((Below.refl wc.heap.size wc).alloc (Below.refl wc.heap.size wc).size _).drew
            obtain ⟨wA, hwA⟩ : ∃ u, u = (wc.alloc (.cells #[.slice none 0 0, .slice none 0 0] 27)).drew := ⟨_, rfl⟩
            have hsA : wA.heap.size = wc.heap.size + 1 := by rw [hwA]; simp
            rw [← hwA] at hBA hbA ⊢
            clear hwA
            refine hK _ _ (fun _ => ⟨(hB3_c.below hbA hB3_c.lt).cell 2, (hB3_c.below hbA hB3_c.lt).cell 3⟩) (fun hS' => ?_)
            have hS := hS' (by kernel_rfl)
            clear hK K hS'
            (try simp only [Act.put, List.setIfInBounds_toArray, List.set_cons_zero, List.set_cons_succ])
            (refine E_step (i := 7) rfl (by kernel_rfl) (fun K hK => ?_)); (rw [if_pos (by rfl)])
            go_simp
            go_at_call 15
            refine (at_det v zs 2 x2 _ (HRB.out.below (hbwc.trans (hbA.mono hbwc.size))) hle (by omega) (by omega) HX2).mono ?_
            rintro e w' ⟨rfl, rfl⟩
            go_wp2_with fail
            refine hK _ _ (fun _ => ⟨(hB3_c.below hbA hB3_c.lt).cell 2, (hB3_c.below hbA hB3_c.lt).cell 3⟩) (fun hS' => ?_)
            have hS := hS' (by kernel_rfl)
            clear hK K hS'
            (try simp only [Act.put, List.setIfInBounds_toArray, List.set_cons_zero, List.set_cons_succ])
            (refine E_take (i := 8) (v := ?_) rfl rfl (by kernel_rfl) (by kernel_rfl) (by kernel_rfl) (by kernel_rfl) (by kernel_rfl) (fun _ _ _ h => h) (Or.inl ⟨by rfl, ?_⟩) (by assumption) ?_); rotate_left; (focus (intro w' hSw; (try dsimp only at hSw); go_simp; (try with_reducible rfl))); (try simp only [Act.put, List.setIfInBounds_toArray, List.set_cons_zero, List.set_cons_succ])
            (refine E_step (i := 9) rfl (by kernel_rfl) (fun K hK => ?_)); (rw [if_pos (by rfl)])
            go_simp
            go_at_call 28
            refine (iStep_at _ _ D.nn D.nl N LL kd a b bb _ (hD3_c.below hbA).nn (hD3_c.below hbA).nl HLE.out.nn HLE.out.nl HN HLL HSB).mono ?_
            rintro e w7 ⟨An7, cn7, Al7, cl7, rfl, ho7, hb7⟩
            have hbd := hbA.trans (hb7.mono hbA.size)
            have hBA7 := hBA.below hb7 hBA.lt
            go_wp2_with fail
            refine hK _ _ (fun _ => ⟨(hB3_c.below hbd hB3_c.lt).cell 2, (hB3_c.below hbd hB3_c.lt).cell 3⟩) (fun hS' => ?_)
            have hS := hS' (by kernel_rfl)
            clear hK K hS'
            (try simp only [Act.put, List.setIfInBounds_toArray, List.set_cons_zero, List.set_cons_succ])
            (refine E_take (i := 10) (v := ?_) rfl rfl (by kernel_rfl) (by kernel_rfl) (by kernel_rfl) (by kernel_rfl) (by kernel_rfl) (fun _ _ _ h => h) (Or.inl ⟨by rfl, ?_⟩) (by assumption) ?_); rotate_left; (focus (intro w' hSw; (try dsimp only at hSw); go_simp; (try with_reducible rfl))); (try simp only [Act.put, List.setIfInBounds_toArray, List.set_cons_zero, List.set_cons_succ])
            (refine E_take (i := 11) (v := ?_) rfl rfl (by kernel_rfl) (by kernel_rfl) (by kernel_rfl) (by kernel_rfl) (by kernel_rfl) (fun _ _ _ h => h) (Or.inl ⟨by rfl, ?_⟩) (by assumption) ?_); rotate_left; (focus (intro w' hSw; (try dsimp only at hSw); go_simp; (try with_reducible rfl))); (try simp only [Act.put, List.setIfInBounds_toArray, List.set_cons_zero, List.set_cons_succ])
            (refine E_take0 (i := 12) (v := ?_) rfl (by decide) (by kernel_rfl) (by kernel_rfl) (by kernel_rfl) (fun _ _ _ h => h) (Or.inl ⟨by rfl, ?_⟩) (by assumption) ?_); rotate_left; (focus (intro w' hSw; (try dsimp only at hSw); go_simp; (try with_reducible rfl))); (try simp only [Act.put, List.setIfInBounds_toArray, List.set_cons_zero, List.set_cons_succ])
            (have z_0 := hBA7.cell 0); (have z_1 := hBA7.cell 1); simp only [List.getElem?_toArray, List.getElem?_cons_succ, List.getElem?_cons_zero] at z_0 z_1; (have z_f0 := hBA7.frozen 0); (have z_f1 := hBA7.frozen 1)
            have hzl := hBA7.lt
            have hnf : ¬ blksW (.slice An7 N.length cn7) (.slice Al7 LL.length cl7) wc.heap.size := fun hk => by have := (ho7.lt _ hk).1; omega
            (refine E_step (i := 14) rfl (by kernel_rfl) (fun K hK => ?_)); (rw [if_pos (by rfl)])
            go_simp
            refine hK _ _ (fun h => by cases h) (fun _ => ?_)
            clear hK K z_0 z_1 z_f0 z_f1
            (try simp only [Act.put, List.setIfInBounds_toArray, List.set_cons_zero, List.set_cons_succ])
            (refine E_step (i := 15) rfl (by kernel_rfl) (fun K hK => ?_)); (rw [if_pos (by rfl)])
            go_simp
            refine hK _ _ (fun h => by cases h) (fun _ => ?_)
            clear hK K
            (try simp only [Act.put, List.setIfInBounds_toArray, List.set_cons_zero, List.set_cons_succ])
            refine E_done (by kernel_rfl) ?_ _
            go_wp2
            go_meet
            exact ⟨wc.heap.size, An7, cn7, Al7, cl7, rfl, rfl, (hBA7.set_ 0 _).set_ 1 _, ((ho7.setFar (p := ⟨wc.heap.size, 0, none⟩) hnf _).setFar (p := ⟨wc.heap.size, 1, none⟩) hnf _).1.reads, ((ho7.setFar (p := ⟨wc.heap.size, 0, none⟩) hnf _).setFar (p := ⟨wc.heap.size, 1, none⟩) hnf _).2.1.reads, (hbd.setCell (p := ⟨wc.heap.size, 0, none⟩) (Nat.le_refl _) _).setCell (p := ⟨wc.heap.size, 1, none⟩) (Nat.le_refl _) _⟩
        · rw [if_pos (by rfl)]
          go_simp
          have hBA := (Blk.newAt (w := wc) (g := wc.heap.size) (t := 27) (cs := #[.slice none 0 0, .slice none 0 0]) rfl).drew
          have hbA : Below wc.heap.size wc (wc.alloc (.cells #[.slice none 0 0, .slice none 0 0] 27)).drew := ((Below.refl wc.heap.size wc).alloc (Below.refl wc.heap.size wc).size _).drew
          obtain ⟨wA, hwA⟩ : ∃ u, u = (wc.alloc (.cells #[.slice none 0 0, .slice none 0 0] 27)).drew := ⟨_, rfl⟩
          have hsA : wA.heap.size = wc.heap.size + 1 := by rw [hwA]; simp
          rw [← hwA] at hBA hbA ⊢
          clear hwA
          refine hK _ _ (fun _ => ⟨(hB3_c.below hbA hB3_c.lt).cell 2, (hB3_c.below hbA hB3_c.lt).cell 3⟩) (fun hS' => ?_)
          have hS := hS' (by kernel_rfl)
          clear hK K hS'
          (try simp only [Act.put, List.setIfInBounds_toArray, List.set_cons_zero, List.set_cons_succ])
          (refine E_step (i := 4) rfl (by kernel_rfl) (fun K hK => ?_)); (rw [if_pos (by rfl)])
          go_simp
          go_at_call 15
          refine (at_det v zs 1 x1 _ (HRB.out.below (hbwc.trans (hbA.mono hbwc.size))) hle (by omega) (by omega) HX1).mono ?_
          rintro e w' ⟨rfl, rfl⟩
          go_wp2_with fail
          refine hK _ _ (fun _ => ⟨(hB3_c.below hbA hB3_c.lt).cell 2, (hB3_c.below hbA hB3_c.lt).cell 3⟩) (fun hS' => ?_)
          have hS := hS' (by kernel_rfl)
          clear hK K hS'
          (try simp only [Act.put, List.setIfInBounds_toArray, List.set_cons_zero, List.set_cons_succ])
          (refine E_take (i := 5) (v := ?_) rfl rfl (by kernel_rfl) (by kernel_rfl) (by kernel_rfl) (by kernel_rfl) (by kernel_rfl) (fun _ _ _ h => h) (Or.inl ⟨by rfl, ?_⟩) (by assumption) ?_); rotate_left; (focus (intro w' hSw; (try dsimp only at hSw); go_simp; (try with_reducible rfl))); (try simp only [Act.put, List.setIfInBounds_toArray, List.set_cons_zero, List.set_cons_succ])
          (refine E_step (i := 7) rfl (by kernel_rfl) (fun K hK => ?_)); (rw [if_pos (by rfl)])
          go_simp
          go_at_call 15
          refine (at_det v zs 2 x2 _ (HRB.out.below (hbwc.trans (hbA.mono hbwc.size))) hle (by omega) (by omega) HX2).mono ?_
          rintro e w' ⟨rfl, rfl⟩
          go_wp2_with fail
          refine hK _ _ (fun _ => ⟨(hB3_c.below hbA hB3_c.lt).cell 2, (hB3_c.below hbA hB3_c.lt).cell 3⟩) (fun hS' => ?_)
          have hS := hS' (by kernel_rfl)
          clear hK K hS'
          (try simp only [Act.put, List.setIfInBounds_toArray, List.set_cons_zero, List.set_cons_succ])
          (refine E_take (i := 8) (v := ?_) rfl rfl (by kernel_rfl) (by kernel_rfl) (by kernel_rfl) (by kernel_rfl) (by kernel_rfl) (fun _ _ _ h => h) (Or.inl ⟨by rfl, ?_⟩) (by assumption) ?_); rotate_left; (focus (intro w' hSw; (try dsimp only at hSw); go_simp; (try with_reducible rfl))); (try simp only [Act.put, List.setIfInBounds_toArray, List.set_cons_zero, List.set_cons_succ])
          (refine E_step (i := 9) rfl (by kernel_rfl) (fun K hK => ?_)); (rw [if_pos (by rfl)])
          go_simp
          go_at_call 28
          refine (iStep_at _ _ D.nn D.nl N LL kd a b bb _ (hD3_c.below hbA).nn (hD3_c.below hbA).nl HLE.out.nn HLE.out.nl HN HLL HSB).mono ?_
          rintro e w7 ⟨An7, cn7, Al7, cl7, rfl, ho7, hb7⟩
          have hbd := hbA.trans (hb7.mono hbA.size)
          have hBA7 := hBA.below hb7 hBA.lt
          go_wp2_with fail
          refine hK _ _ (fun _ => ⟨(hB3_c.below hbd hB3_c.lt).cell 2, (hB3_c.below hbd hB3_c.lt).cell 3⟩) (fun hS' => ?_)
          have hS := hS' (by kernel_rfl)
          clear hK K hS'
          (try simp only [Act.put, List.setIfInBounds_toArray, List.set_cons_zero, List.set_cons_succ])
          (refine E_take (i := 10) (v := ?_) rfl rfl (by kernel_rfl) (by kernel_rfl) (by kernel_rfl) (by kernel_rfl) (by kernel_rfl) (fun _ _ _ h => h) (Or.inl ⟨by rfl, ?_⟩) (by assumption) ?_); rotate_left; (focus (intro w' hSw; (try dsimp only at hSw); go_simp; (try with_reducible rfl))); (try simp only [Act.put, List.setIfInBounds_toArray, List.set_cons_zero, List.set_cons_succ])
          (refine E_take (i := 11) (v := ?_) rfl rfl (by kernel_rfl) (by kernel_rfl) (by kernel_rfl) (by kernel_rfl) (by kernel_rfl) (fun _ _ _ h => h) (Or.inl ⟨by rfl, ?_⟩) (by assumption) ?_); rotate_left; (focus (intro w' hSw; (try dsimp only at hSw); go_simp; (try with_reducible rfl))); (try simp only [Act.put, List.setIfInBounds_toArray, List.set_cons_zero, List.set_cons_succ])
          (refine E_take0 (i := 12) (v := ?_) rfl (by decide) (by kernel_rfl) (by kernel_rfl) (by kernel_rfl) (fun _ _ _ h => h) (Or.inl ⟨by rfl, ?_⟩) (by assumption) ?_); rotate_left; (focus (intro w' hSw; (try dsimp only at hSw); go_simp; (try with_reducible rfl))); (try simp only [Act.put, List.setIfInBounds_toArray, List.set_cons_zero, List.set_cons_succ])
          (have z_0 := hBA7.cell 0); (have z_1 := hBA7.cell 1); simp only [List.getElem?_toArray, List.getElem?_cons_succ, List.getElem?_cons_zero] at z_0 z_1; (have z_f0 := hBA7.frozen 0); (have z_f1 := hBA7.frozen 1)
          have hzl := hBA7.lt
          have hnf : ¬ blksW (.slice An7 N.length cn7) (.slice Al7 LL.length cl7) wc.heap.size := fun hk => by have := (ho7.lt _ hk).1; omega
          (refine E_step (i := 14) rfl (by kernel_rfl) (fun K hK => ?_)); (rw [if_pos (by rfl)])
          go_simp
          refine hK _ _ (fun h => by cases h) (fun _ => ?_)
          clear hK K z_0 z_1 z_f0 z_f1
          (try simp only [Act.put, List.setIfInBounds_toArray, List.set_cons_zero, List.set_cons_succ])
          (refine E_step (i := 15) rfl (by kernel_rfl) (fun K hK => ?_)); (rw [if_pos (by rfl)])
          go_simp
          refine hK _ _ (fun h => by cases h) (fun _ => ?_)
          clear hK K
          (try simp only [Act.put, List.setIfInBounds_toArray, List.set_cons_zero, List.set_cons_succ])
          refine E_done (by kernel_rfl) ?_ _
          go_wp2
          go_meet
          exact ⟨wc.heap.size, An7, cn7, Al7, cl7, rfl, rfl, (hBA7.set_ 0 _).set_ 1 _, ((ho7.setFar (p := ⟨wc.heap.size, 0, none⟩) hnf _).setFar (p := ⟨wc.heap.size, 1, none⟩) hnf _).1.reads, ((ho7.setFar (p := ⟨wc.heap.size, 0, none⟩) hnf _).setFar (p := ⟨wc.heap.size, 1, none⟩) hnf _).2.1.reads, (hbd.setCell (p := ⟨wc.heap.size, 0, none⟩) (Nat.le_refl _) _).setCell (p := ⟨wc.heap.size, 1, none⟩) (Nat.le_refl _) _⟩
      case rest =>
        obtain ⟨X7, An7, cn7, Al7, cl7, rfl, rfl, hB7_d, hN7_d, hL7_d, hbd⟩ := hcut
        have hB3_d := hB3_c.below hbd hB3_c.lt
        have hD3_d := hD3_c.below hbd
        have hB5_d := hB5_c.below hbd hB5_c.lt
        have hD5_d := hD5_c.below hbd
        have hbwd := hbwc.trans (hbd.mono hbwc.size)
        clear hB3_c hD3_c hB5_c hD5_c hbwc hbd ha hb
        obtain ⟨wd, hwd⟩ : ∃ u, u = wc := ⟨_, rfl⟩
        subst hwd
        have HOKE : Hid (okD E = true) := Lib.hid (by rw [← HE.out]; exact okD_do HOK.out kd a b)
        have HLEE := Lib.hid (okD_le HOKE.out)
        cases bb
        · have HED : Hid (sameWB E.nn E.nl D.nn D.nl = true) := Lib.hid (by rw [← HE.out, doStep_no HBB.out, sameWB_iff]; exact ⟨rfl, rfl⟩)
          (have b3_0 := hB3_d.cell 0); (have b3_1 := hB3_d.cell 1); (have b3_2 := hB3_d.cell 2); (have b3_3 := hB3_d.cell 3); (have b3_4 := hB3_d.cell 4); simp only [List.getElem?_toArray, List.getElem?_cons_succ, List.getElem?_cons_zero] at b3_0 b3_1 b3_2 b3_3 b3_4
          have l3 := hB3_d.lt
          go_wp2_with fail
          refine (iDok_at _ _ _ _ _ D true _ hD3_d HOK).mono ?_
          rintro e w20 ⟨rfl, hby⟩
          clear b3_0 b3_1 b3_2 b3_3 b3_4 l3
          have hz20 := hby.size
          have hB3_20 := hB3_d.below hby hB3_d.lt
          have hD3_20 := hD3_d.below hby
          have hB5_20 := hB5_d.below hby hB5_d.lt
          have hD5_20 := hD5_d.below hby
          have hB7_20 := hB7_d.below hby hB7_d.lt
          have hN7_20 := hN7_d.below hby
          have hL7_20 := hL7_d.below hby
          have hbw20 := hbwd.trans (hby.mono hbwd.size)
          clear hB3_d hD3_d hB5_d hD5_d hB7_d hN7_d hL7_d hbwd hby
          (have b3_0 := hB3_20.cell 0); (have b3_1 := hB3_20.cell 1); (have b3_2 := hB3_20.cell 2); (have b3_3 := hB3_20.cell 3); (have b3_4 := hB3_20.cell 4); simp only [List.getElem?_toArray, List.getElem?_cons_succ, List.getElem?_cons_zero] at b3_0 b3_1 b3_2 b3_3 b3_4
          have l3 := hB3_20.lt
          go_wp2_with fail
          refine (iUndoAll_at _ _ _ _ _ D _ hD3_20 HLE.out).mono ?_
          obtain ⟨AA, hAA⟩ : ∃ A, undoAllD D = A := ⟨_, rfl⟩
          have HAA := Lib.hid (hAA.symm.trans (undoAll_win HOK.out))
          rw [hAA]
          clear hAA
          have HOA : Hid (okD AA = true) := Lib.hid (by rw [HAA.out]; exact okD_new (okD_iff.1 HOK.out).1)
          have HLA := Lib.hid (okD_le HOA.out)
          have HA0 : Hid (AA.ss.length = 0) := Lib.hid (by rw [HAA.out]; rfl)
          have HA1 : Hid (sameWB AA.nn AA.nl D.fn D.fl = true) := Lib.hid (by rw [HAA.out, sameWB_iff]; exact ⟨rfl, rfl⟩)
          have HA2 : Hid (sameWB AA.fn AA.fl D.fn D.fl = true) := Lib.hid (by rw [HAA.out, sameWB_iff]; exact ⟨rfl, rfl⟩)
          have HUB : Hid (undoStepB AA = false) := Lib.hid (undoStep_no (.inr HA0.out)).2
          obtain ⟨UA, hUA⟩ : ∃ A, undoStepD AA = A := ⟨_, rfl⟩
          have HUA := Lib.hid hUA
          clear hUA
          rintro e w21 ⟨A110, c110, A111, c111, A112, c112, A113, c113, A114, c114, gs11, rfl, ho11, hby⟩
          have hr11 := ho11.reads
          clear ho11
          clear b3_0 b3_1 b3_2 b3_3 b3_4 l3
          have hz21 := hby.size
          have hB3_21 := hB3_20.below hby hB3_20.lt
          have hD3_21 := hD3_20.below hby
          have hB5_21 := hB5_20.below hby hB5_20.lt
          have hD5_21 := hD5_20.below hby
          have hB7_21 := hB7_20.below hby hB7_20.lt
          have hN7_21 := hN7_20.below hby
          have hL7_21 := hL7_20.below hby
          have hbw21 := hbw20.trans (hby.mono hbw20.size)
          clear hB3_20 hD3_20 hB5_20 hD5_20 hB7_20 hN7_20 hL7_20 hbw20 hby
          obtain ⟨w22, hw22⟩ : ∃ u, u = w21.alloc (.cells #[.slice A110 AA.fn.length c110, .slice A111 AA.fl.length c111, .slice A112 AA.nn.length c112, .slice A113 AA.nl.length c113, .slice A114 AA.ss.length c114] 59) := ⟨_, rfl⟩
          have hby : Below w21.heap.size w21 w22 := hw22 ▸ (Below.refl _ _).alloc (Nat.le_refl _) _
          have hB11_22 : Blk w22 w21.heap.size 59 #[.slice A110 AA.fn.length c110, .slice A111 AA.fl.length c111, .slice A112 AA.nn.length c112, .slice A113 AA.nl.length c113, .slice A114 AA.ss.length c114] := hw22 ▸ Blk.newAt rfl
          have hD11_22 := hr11.below hby
          have hz22 := hby.size
          have hB3_22 := hB3_21.below hby hB3_21.lt
          have hD3_22 := hD3_21.below hby
          have hB5_22 := hB5_21.below hby hB5_21.lt
          have hD5_22 := hD5_21.below hby
          have hB7_22 := hB7_21.below hby hB7_21.lt
          have hN7_22 := hN7_21.below hby
          have hL7_22 := hL7_21.below hby
          have hbw22 := hbw21.trans (hby.mono hbw21.size)
          clear hB3_21 hD3_21 hB5_21 hD5_21 hB7_21 hN7_21 hL7_21 hbw21 hby
          (have b3_0 := hB3_22.cell 0); (have b3_1 := hB3_22.cell 1); (have b3_2 := hB3_22.cell 2); (have b3_3 := hB3_22.cell 3); (have b3_4 := hB3_22.cell 4); simp only [List.getElem?_toArray, List.getElem?_cons_succ, List.getElem?_cons_zero] at b3_0 b3_1 b3_2 b3_3 b3_4
          have l3 := hB3_22.lt
          go_upto_region 14 with (fail)
          try rw [← hw22]
          clear hw22
          generalize w21.heap.size = X11 at *
          clear b3_0 b3_1 b3_2 b3_3 b3_4 l3
          clear hr11
          (have b11_0 := hB11_22.cell 0); (have b11_1 := hB11_22.cell 1); (have b11_2 := hB11_22.cell 2); (have b11_3 := hB11_22.cell 3); (have b11_4 := hB11_22.cell 4); simp only [List.getElem?_toArray, List.getElem?_cons_succ, List.getElem?_cons_zero] at b11_0 b11_1 b11_2 b11_3 b11_4
          have l11 := hB11_22.lt
          go_wp2_with fail
          refine (iUndoStep_at _ _ _ _ _ AA _ hD11_22 HLA.out).mono ?_
          rw [HUA.out, HUB.out]
          rintro e w23 ⟨A120, c120, A121, c121, A122, c122, A123, c123, A124, c124, gs12, rfl, ho12, hby⟩
          have hr12 := ho12.reads
          clear ho12
          clear b11_0 b11_1 b11_2 b11_3 b11_4 l11
          have hz23 := hby.size
          have hB3_23 := hB3_22.below hby hB3_22.lt
          have hD3_23 := hD3_22.below hby
          have hB5_23 := hB5_22.below hby hB5_22.lt
          have hD5_23 := hD5_22.below hby
          have hB11_23 := hB11_22.below hby hB11_22.lt
          have hD11_23 := hD11_22.below hby
          have hB7_23 := hB7_22.below hby hB7_22.lt
          have hN7_23 := hN7_22.below hby
          have hL7_23 := hL7_22.below hby
          have hbw23 := hbw22.trans (hby.mono hbw22.size)
          clear hB3_22 hD3_22 hB5_22 hD5_22 hB11_22 hD11_22 hB7_22 hN7_22 hL7_22 hbw22 hby
          obtain ⟨w24, hw24⟩ : ∃ u, u = w23.alloc (.cells #[.slice A120 UA.fn.length c120, .slice A121 UA.fl.length c121, .slice A122 UA.nn.length c122, .slice A123 UA.nl.length c123, .slice A124 UA.ss.length c124] 59) := ⟨_, rfl⟩
          have hby : Below w23.heap.size w23 w24 := hw24 ▸ (Below.refl _ _).alloc (Nat.le_refl _) _
          have hB12_24 : Blk w24 w23.heap.size 59 #[.slice A120 UA.fn.length c120, .slice A121 UA.fl.length c121, .slice A122 UA.nn.length c122, .slice A123 UA.nl.length c123, .slice A124 UA.ss.length c124] := hw24 ▸ Blk.newAt rfl
          have hD12_24 := hr12.below hby
          have hz24 := hby.size
          have hB3_24 := hB3_23.below hby hB3_23.lt
          have hD3_24 := hD3_23.below hby
          have hB5_24 := hB5_23.below hby hB5_23.lt
          have hD5_24 := hD5_23.below hby
          have hB11_24 := hB11_23.below hby hB11_23.lt
          have hD11_24 := hD11_23.below hby
          have hB7_24 := hB7_23.below hby hB7_23.lt
          have hN7_24 := hN7_23.below hby
          have hL7_24 := hL7_23.below hby
          have hbw24 := hbw23.trans (hby.mono hbw23.size)
          clear hB3_23 hD3_23 hB5_23 hD5_23 hB11_23 hD11_23 hB7_23 hN7_23 hL7_23 hbw23 hby
          (have b11_0 := hB11_24.cell 0); (have b11_1 := hB11_24.cell 1); (have b11_2 := hB11_24.cell 2); (have b11_3 := hB11_24.cell 3); (have b11_4 := hB11_24.cell 4); simp only [List.getElem?_toArray, List.getElem?_cons_succ, List.getElem?_cons_zero] at b11_0 b11_1 b11_2 b11_3 b11_4
          have l11 := hB11_24.lt
          go_upto_region 15 with (fail)
          try rw [← hw24]
          clear hw24
          generalize w23.heap.size = X12 at *
          clear b11_0 b11_1 b11_2 b11_3 b11_4 l11
          clear hr12
          clear hB12_24 hD12_24
          (have b3_0 := hB3_24.cell 0); (have b3_1 := hB3_24.cell 1); (have b3_2 := hB3_24.cell 2); (have b3_3 := hB3_24.cell 3); (have b3_4 := hB3_24.cell 4); simp only [List.getElem?_toArray, List.getElem?_cons_succ, List.getElem?_cons_zero] at b3_0 b3_1 b3_2 b3_3 b3_4
          have l3 := hB3_24.lt
          obtain ⟨w25, hw25⟩ : ∃ u, u = w24.alloc (.cells #[.slice A30 D.fn.length c30, .slice A31 D.fl.length c31, .slice A32 D.nn.length c32, .slice A33 D.nl.length c33, .slice A34 D.ss.length c34] 59) := ⟨_, rfl⟩
          have hby : Below w24.heap.size w24 w25 := hw25 ▸ (Below.refl _ _).alloc (Nat.le_refl _) _
          have hB14 : Blk w25 w24.heap.size 59 #[.slice A30 D.fn.length c30, .slice A31 D.fl.length c31, .slice A32 D.nn.length c32, .slice A33 D.nl.length c33, .slice A34 D.ss.length c34] := hw25 ▸ Blk.newAt rfl
          have hD14 := hD3_24.below hby
          go_upto_region 16 with (fail)
          try rw [← hw25]
          clear hw25
          clear b3_0 b3_1 b3_2 b3_3 b3_4 l3
          obtain ⟨X14, hX14⟩ : ∃ x, w24.heap.size = x := ⟨_, rfl⟩
          rw [hX14] at hB14 ⊢
          have lz3 := hB3_24.lt
          have lz5 := hB5_24.lt
          have lz11 := hB11_24.lt
          have lz7 := hB7_24.lt
          have HX14 := Lib.hid hX14
          clear hX14
          go_wp2
          go_loopw [15] (fun i wr => ∃ (q : Nat) (A140 : Option Addr) (c140 : Nat) (A141 : Option Addr) (c141 : Nat) (A142 : Option Addr) (c142 : Nat) (A143 : Option Addr) (c143 : Nat) (A144 : Option Addr) (c144 : Nat), i = .int .i64 q ∧ q ≤ D.ss.length ∧ Blk wr X14 59 #[.slice A140 (undoK D q).fn.length c140, .slice A141 (undoK D q).fl.length c141, .slice A142 (undoK D q).nn.length c142, .slice A143 (undoK D q).nl.length c143, .slice A144 (undoK D q).ss.length c144] ∧ RD wr (.slice A140 (undoK D q).fn.length c140) (.slice A141 (undoK D q).fl.length c141) (.slice A142 (undoK D q).nn.length c142) (.slice A143 (undoK D q).nl.length c143) (.slice A144 (undoK D q).ss.length c144) (undoK D q) ∧ Below w24.heap.size w24 wr) (fun i _ => D.ss.length - (intOf i).toNat)
          case atStart => exact ⟨0, _, _, _, _, _, _, _, _, _, _, rfl, Nat.zero_le _, hB14, hD14, hby⟩
          case round =>
            clear hB14 hD14 hby
            obtain ⟨q, A140, c140, A141, c141, A142, c142, A143, c143, A144, c144, rfl, hq, hB14, hD14, hby⟩ := hrel
            have hB3 := hB3_24.below hby hB3_24.lt
            (have b3_0 := hB3.cell 0); (have b3_1 := hB3.cell 1); (have b3_2 := hB3.cell 2); (have b3_3 := hB3.cell 3); (have b3_4 := hB3.cell 4); simp only [List.getElem?_toArray, List.getElem?_cons_succ, List.getElem?_cons_zero] at b3_0 b3_1 b3_2 b3_3 b3_4
            have l3 := hB3.lt
            have l14 := hB14.lt
            by_cases hlt : q < D.ss.length
            · have hlt' : (q : Int) < (D.ss.length : Int) := by omega
              (have b14_0 := hB14.cell 0); (have b14_1 := hB14.cell 1); (have b14_2 := hB14.cell 2); (have b14_3 := hB14.cell 3); (have b14_4 := hB14.cell 4); simp only [List.getElem?_toArray, List.getElem?_cons_succ, List.getElem?_cons_zero] at b14_0 b14_1 b14_2 b14_3 b14_4
              have HK := undoK_ok HOK.out q
              have HLK := Lib.hid (okD_le HK.1)
              clear HK
              have HKS : Hid (undoStepD (undoK D q) = undoK D (q + 1)) := Lib.hid rfl
              go_wp2_with fail
              refine (iUndoStep_at _ _ _ _ _ (undoK D q) _ hD14 HLK.out).mono ?_
              rw [HKS.out]
              obtain ⟨ub, hub⟩ : ∃ u, undoStepB (undoK D q) = u := ⟨_, rfl⟩
              rw [hub]
              clear hub
              rintro e w50 ⟨A150, c150, A151, c151, A152, c152, A153, c153, A154, c154, gs15, rfl, ho15, hb15⟩
              have hB14' := hB14.below hb15 l14
              have hX14b : X14 < wr.heap.size := l14
              have hbn := hby.trans (hb15.mono hby.size)
              have hsz := hb15.size
              have HR15 := Lib.hid (fun u0 u1 u2 u3 u4 => RD.ofOwn ho15 hX14b u0 u1 u2 u3 u4)
              have HB15 : Hid (∀ u0 u1 u2 u3 u4 : Value, Blk (((((w50.setCell ⟨X14, 0, none⟩ u0).setCell ⟨X14, 1, none⟩ u1).setCell ⟨X14, 2, none⟩ u2).setCell ⟨X14, 3, none⟩ u3).setCell ⟨X14, 4, none⟩ u4) X14 59 #[u0, u1, u2, u3, u4]) := Lib.hid (fun u0 u1 u2 u3 u4 => (((((hB14'.set_ 0 _).set_ 1 _).set_ 2 _).set_ 3 _).set_ 4 _))
              have HW15 : Hid (∀ u0 u1 u2 u3 u4 : Value, Below w24.heap.size w24 (((((w50.setCell ⟨X14, 0, none⟩ u0).setCell ⟨X14, 1, none⟩ u1).setCell ⟨X14, 2, none⟩ u2).setCell ⟨X14, 3, none⟩ u3).setCell ⟨X14, 4, none⟩ u4)) := Lib.hid (fun u0 u1 u2 u3 u4 => (((((hbn.setCell (p := ⟨X14, 0, none⟩) (by rw [HX14.out]; exact Nat.le_refl _) _).setCell (p := ⟨X14, 1, none⟩) (by rw [HX14.out]; exact Nat.le_refl _) _).setCell (p := ⟨X14, 2, none⟩) (by rw [HX14.out]; exact Nat.le_refl _) _).setCell (p := ⟨X14, 3, none⟩) (by rw [HX14.out]; exact Nat.le_refl _) _).setCell (p := ⟨X14, 4, none⟩) (by rw [HX14.out]; exact Nat.le_refl _) _))
              have l14' := hB14'.lt
              clear b14_0 b3_0 b14_1 b3_1 b14_2 b3_2 b14_3 b3_3 b14_4 b3_4
              (have b14_0 := hB14'.cell 0); (have b14_1 := hB14'.cell 1); (have b14_2 := hB14'.cell 2); (have b14_3 := hB14'.cell 3); (have b14_4 := hB14'.cell 4); simp only [List.getElem?_toArray, List.getElem?_cons_succ, List.getElem?_cons_zero] at b14_0 b14_1 b14_2 b14_3 b14_4; (have b14_f0 := hB14'.frozen 0); (have b14_f1 := hB14'.frozen 1); (have b14_f2 := hB14'.frozen 2); (have b14_f3 := hB14'.frozen 3); (have b14_f4 := hB14'.frozen 4)
              clear hB14 hB14' hD14 hby hb15 hbn ho15 hB3
              go_wp2
              go_roundw
              case rel => exact ⟨q + 1, A150, c150, A151, c151, A152, c152, A153, c153, A154, c154, by go_num, by omega, HB15.out _ _ _ _ _, HR15.out _ _ _ _ _, HW15.out _ _ _ _ _⟩
              case measure => simp [intOf]; omega
            · have hqq : q = D.ss.length := by omega
              subst hqq
              have HUK : Hid (sameWB (undoK D D.ss.length).nn (undoK D D.ss.length).nl D.fn D.fl = true) := Lib.hid (sameWB_iff.2 (undoK_all HOK.out))
              generalize undoK D D.ss.length = UK at *
              obtain ⟨w60, hw60⟩ : ∃ u, u = wr := ⟨_, rfl⟩
              subst hw60
              clear hB3 b3_0 b3_1 b3_2 b3_3 b3_4 l3 l14 lz3 lz5 lz11 lz7 HX14
              have hz60 := hby.size
              have hB3_60 := hB3_24.below hby hB3_24.lt
              have hD3_60 := hD3_24.below hby
              have hB5_60 := hB5_24.below hby hB5_24.lt
              have hD5_60 := hD5_24.below hby
              have hB11_60 := hB11_24.below hby hB11_24.lt
              have hD11_60 := hD11_24.below hby
              have hB7_60 := hB7_24.below hby hB7_24.lt
              have hN7_60 := hN7_24.below hby
              have hL7_60 := hL7_24.below hby
              have hbw60 := hbw24.trans (hby.mono hbw24.size)
              clear hB3_24 hD3_24 hB5_24 hD5_24 hB11_24 hD11_24 hB7_24 hN7_24 hL7_24 hbw24 hby
              have hB14_60 := hB14
              have hD14_60 := hD14
              clear hB14 hD14
              have ea : ((AA.ss.length : Int) == 0) = true := by simp [HA0.out]
              (have b11_0 := hB11_60.cell 0); (have b11_1 := hB11_60.cell 1); (have b11_2 := hB11_60.cell 2); (have b11_3 := hB11_60.cell 3); (have b11_4 := hB11_60.cell 4); simp only [List.getElem?_toArray, List.getElem?_cons_succ, List.getElem?_cons_zero] at b11_0 b11_1 b11_2 b11_3 b11_4
              have l11 := hB11_60.lt
              (have b3_0 := hB3_60.cell 0); (have b3_1 := hB3_60.cell 1); (have b3_2 := hB3_60.cell 2); (have b3_3 := hB3_60.cell 3); (have b3_4 := hB3_60.cell 4); simp only [List.getElem?_toArray, List.getElem?_cons_succ, List.getElem?_cons_zero] at b3_0 b3_1 b3_2 b3_3 b3_4
              have l3 := hB3_60.lt
              go_wp2_with fail
              refine (sSameWindow_at _ _ _ _ _ _ _ _ true _ hD11_60.nn hD11_60.nl hD3_60.fn hD3_60.fl HA1).mono ?_
              rintro e w61 ⟨rfl, hby⟩
              clear b11_0 b11_1 b11_2 b11_3 b11_4 l11 b3_0 b3_1 b3_2 b3_3 b3_4 l3
              have hz61 := hby.size
              have hB3_61 := hB3_60.below hby hB3_60.lt
              have hD3_61 := hD3_60.below hby
              have hB5_61 := hB5_60.below hby hB5_60.lt
              have hD5_61 := hD5_60.below hby
              have hB11_61 := hB11_60.below hby hB11_60.lt
              have hD11_61 := hD11_60.below hby
              have hB14_61 := hB14_60.below hby hB14_60.lt
              have hD14_61 := hD14_60.below hby
              have hB7_61 := hB7_60.below hby hB7_60.lt
              have hN7_61 := hN7_60.below hby
              have hL7_61 := hL7_60.below hby
              have hbw61 := hbw60.trans (hby.mono hbw60.size)
              clear hB3_60 hD3_60 hB5_60 hD5_60 hB11_60 hD11_60 hB14_60 hD14_60 hB7_60 hN7_60 hL7_60 hbw60 hby
              (have b11_0 := hB11_61.cell 0); (have b11_1 := hB11_61.cell 1); (have b11_2 := hB11_61.cell 2); (have b11_3 := hB11_61.cell 3); (have b11_4 := hB11_61.cell 4); simp only [List.getElem?_toArray, List.getElem?_cons_succ, List.getElem?_cons_zero] at b11_0 b11_1 b11_2 b11_3 b11_4
              have l11 := hB11_61.lt
              (have b3_0 := hB3_61.cell 0); (have b3_1 := hB3_61.cell 1); (have b3_2 := hB3_61.cell 2); (have b3_3 := hB3_61.cell 3); (have b3_4 := hB3_61.cell 4); simp only [List.getElem?_toArray, List.getElem?_cons_succ, List.getElem?_cons_zero] at b3_0 b3_1 b3_2 b3_3 b3_4
              have l3 := hB3_61.lt
              go_wp2_with fail
              refine (sSameWindow_at _ _ _ _ _ _ _ _ true _ hD11_61.fn hD11_61.fl hD3_61.fn hD3_61.fl HA2).mono ?_
              rintro e w62 ⟨rfl, hby⟩
              clear b11_0 b11_1 b11_2 b11_3 b11_4 l11 b3_0 b3_1 b3_2 b3_3 b3_4 l3
              have hz62 := hby.size
              have hB3_62 := hB3_61.below hby hB3_61.lt
              have hD3_62 := hD3_61.below hby
              have hB5_62 := hB5_61.below hby hB5_61.lt
              have hD5_62 := hD5_61.below hby
              have hB11_62 := hB11_61.below hby hB11_61.lt
              have hD11_62 := hD11_61.below hby
              have hB14_62 := hB14_61.below hby hB14_61.lt
              have hD14_62 := hD14_61.below hby
              have hB7_62 := hB7_61.below hby hB7_61.lt
              have hN7_62 := hN7_61.below hby
              have hL7_62 := hL7_61.below hby
              have hbw62 := hbw61.trans (hby.mono hbw61.size)
              clear hB3_61 hD3_61 hB5_61 hD5_61 hB11_61 hD11_61 hB14_61 hD14_61 hB7_61 hN7_61 hL7_61 hbw61 hby
              (have b11_0 := hB11_62.cell 0); (have b11_1 := hB11_62.cell 1); (have b11_2 := hB11_62.cell 2); (have b11_3 := hB11_62.cell 3); (have b11_4 := hB11_62.cell 4); simp only [List.getElem?_toArray, List.getElem?_cons_succ, List.getElem?_cons_zero] at b11_0 b11_1 b11_2 b11_3 b11_4
              have l11 := hB11_62.lt
              (have b14_0 := hB14_62.cell 0); (have b14_1 := hB14_62.cell 1); (have b14_2 := hB14_62.cell 2); (have b14_3 := hB14_62.cell 3); (have b14_4 := hB14_62.cell 4); simp only [List.getElem?_toArray, List.getElem?_cons_succ, List.getElem?_cons_zero] at b14_0 b14_1 b14_2 b14_3 b14_4
              have l14 := hB14_62.lt
              (have b3_0 := hB3_62.cell 0); (have b3_1 := hB3_62.cell 1); (have b3_2 := hB3_62.cell 2); (have b3_3 := hB3_62.cell 3); (have b3_4 := hB3_62.cell 4); simp only [List.getElem?_toArray, List.getElem?_cons_succ, List.getElem?_cons_zero] at b3_0 b3_1 b3_2 b3_3 b3_4
              have l3 := hB3_62.lt
              go_wp2_with fail
              refine (sSameWindow_at _ _ _ _ _ _ _ _ true _ hD14_62.nn hD14_62.nl hD3_62.fn hD3_62.fl HUK).mono ?_
              rintro e w63 ⟨rfl, hby⟩
              clear b11_0 b11_1 b11_2 b11_3 b11_4 l11 b14_0 b14_1 b14_2 b14_3 b14_4 l14 b3_0 b3_1 b3_2 b3_3 b3_4 l3
              have hz63 := hby.size
              have hB3_63 := hB3_62.below hby hB3_62.lt
              have hD3_63 := hD3_62.below hby
              have hB5_63 := hB5_62.below hby hB5_62.lt
              have hD5_63 := hD5_62.below hby
              have hB11_63 := hB11_62.below hby hB11_62.lt
              have hD11_63 := hD11_62.below hby
              have hB14_63 := hB14_62.below hby hB14_62.lt
              have hD14_63 := hD14_62.below hby
              have hB7_63 := hB7_62.below hby hB7_62.lt
              have hN7_63 := hN7_62.below hby
              have hL7_63 := hL7_62.below hby
              have hbw63 := hbw62.trans (hby.mono hbw62.size)
              clear hB3_62 hD3_62 hB5_62 hD5_62 hB11_62 hD11_62 hB14_62 hD14_62 hB7_62 hN7_62 hL7_62 hbw62 hby
              (have b5_0 := hB5_63.cell 0); (have b5_1 := hB5_63.cell 1); (have b5_2 := hB5_63.cell 2); (have b5_3 := hB5_63.cell 3); (have b5_4 := hB5_63.cell 4); simp only [List.getElem?_toArray, List.getElem?_cons_succ, List.getElem?_cons_zero] at b5_0 b5_1 b5_2 b5_3 b5_4
              have l5 := hB5_63.lt
              (have b3_0 := hB3_63.cell 0); (have b3_1 := hB3_63.cell 1); (have b3_2 := hB3_63.cell 2); (have b3_3 := hB3_63.cell 3); (have b3_4 := hB3_63.cell 4); simp only [List.getElem?_toArray, List.getElem?_cons_succ, List.getElem?_cons_zero] at b3_0 b3_1 b3_2 b3_3 b3_4
              have l3 := hB3_63.lt
              go_wp2_with fail
              refine (sSameWindow_at _ _ _ _ _ _ _ _ true _ hD5_63.nn hD5_63.nl hD3_63.nn hD3_63.nl HED).mono ?_
              rintro e w64 ⟨rfl, hby⟩
              clear b5_0 b5_1 b5_2 b5_3 b5_4 l5 b3_0 b3_1 b3_2 b3_3 b3_4 l3
              have hz64 := hby.size
              have hB3_64 := hB3_63.below hby hB3_63.lt
              have hD3_64 := hD3_63.below hby
              have hB5_64 := hB5_63.below hby hB5_63.lt
              have hD5_64 := hD5_63.below hby
              have hB11_64 := hB11_63.below hby hB11_63.lt
              have hD11_64 := hD11_63.below hby
              have hB14_64 := hB14_63.below hby hB14_63.lt
              have hD14_64 := hD14_63.below hby
              have hB7_64 := hB7_63.below hby hB7_63.lt
              have hN7_64 := hN7_63.below hby
              have hL7_64 := hL7_63.below hby
              have hbw64 := hbw63.trans (hby.mono hbw63.size)
              clear hB3_63 hD3_63 hB5_63 hD5_63 hB11_63 hD11_63 hB14_63 hD14_63 hB7_63 hN7_63 hL7_63 hbw63 hby
              go_wp2
              go_ret
              exact ⟨rfl, hbw64⟩
        · have HDU := do_undo HOK.out HBB.out
          rw [HE.out, HN.out, HLL.out] at HDU
          obtain ⟨u1, u2, u3, u4, u5, u6, u7⟩ := HDU
          obtain ⟨Y, hY⟩ : ∃ Y, undoStepD E = Y := ⟨_, rfl⟩
          rw [hY] at u5 u6 u7
          have HY := Lib.hid hY
          have HUY := Lib.hid u1
          have HS1 : Hid (sameWB E.nn E.nl N LL = true) := Lib.hid (sameWB_iff.2 ⟨u2, u3⟩)
          have HS2 : Hid (sameWB Y.nn Y.nl D.nn D.nl = true) := Lib.hid (sameWB_iff.2 ⟨u5, u6⟩)
          have HS3 := Lib.hid u4
          have HS4 := Lib.hid u7
          clear hY u1 u2 u3 u4 u5 u6 u7
          (have b3_0 := hB3_d.cell 0); (have b3_1 := hB3_d.cell 1); (have b3_2 := hB3_d.cell 2); (have b3_3 := hB3_d.cell 3); (have b3_4 := hB3_d.cell 4); simp only [List.getElem?_toArray, List.getElem?_cons_succ, List.getElem?_cons_zero] at b3_0 b3_1 b3_2 b3_3 b3_4
          have l3 := hB3_d.lt
          go_wp2_with fail
          refine (iDok_at _ _ _ _ _ D true _ hD3_d HOK).mono ?_
          rintro e w20 ⟨rfl, hby⟩
          clear b3_0 b3_1 b3_2 b3_3 b3_4 l3
          have hz20 := hby.size
          have hB3_20 := hB3_d.below hby hB3_d.lt
          have hD3_20 := hD3_d.below hby
          have hB5_20 := hB5_d.below hby hB5_d.lt
          have hD5_20 := hD5_d.below hby
          have hB7_20 := hB7_d.below hby hB7_d.lt
          have hN7_20 := hN7_d.below hby
          have hL7_20 := hL7_d.below hby
          have hbw20 := hbwd.trans (hby.mono hbwd.size)
          clear hB3_d hD3_d hB5_d hD5_d hB7_d hN7_d hL7_d hbwd hby
          (have b5_0 := hB5_20.cell 0); (have b5_1 := hB5_20.cell 1); (have b5_2 := hB5_20.cell 2); (have b5_3 := hB5_20.cell 3); (have b5_4 := hB5_20.cell 4); simp only [List.getElem?_toArray, List.getElem?_cons_succ, List.getElem?_cons_zero] at b5_0 b5_1 b5_2 b5_3 b5_4
          have l5 := hB5_20.lt
          go_wp2_with fail
          refine (iUndoStep_at _ _ _ _ _ E _ hD5_20 HLEE.out).mono ?_
          rw [HY.out, HUY.out]
          rintro e w21 ⟨A90, c90, A91, c91, A92, c92, A93, c93, A94, c94, gs9, rfl, ho9, hby⟩
          have hr9 := ho9.reads
          clear ho9
          clear b5_0 b5_1 b5_2 b5_3 b5_4 l5
          have hz21 := hby.size
          have hB3_21 := hB3_20.below hby hB3_20.lt
          have hD3_21 := hD3_20.below hby
          have hB5_21 := hB5_20.below hby hB5_20.lt
          have hD5_21 := hD5_20.below hby
          have hB7_21 := hB7_20.below hby hB7_20.lt
          have hN7_21 := hN7_20.below hby
          have hL7_21 := hL7_20.below hby
          have hbw21 := hbw20.trans (hby.mono hbw20.size)
          clear hB3_20 hD3_20 hB5_20 hD5_20 hB7_20 hN7_20 hL7_20 hbw20 hby
          obtain ⟨w22, hw22⟩ : ∃ u, u = w21.alloc (.cells #[.slice A90 Y.fn.length c90, .slice A91 Y.fl.length c91, .slice A92 Y.nn.length c92, .slice A93 Y.nl.length c93, .slice A94 Y.ss.length c94] 59) := ⟨_, rfl⟩
          have hby : Below w21.heap.size w21 w22 := hw22 ▸ (Below.refl _ _).alloc (Nat.le_refl _) _
          have hB9_22 : Blk w22 w21.heap.size 59 #[.slice A90 Y.fn.length c90, .slice A91 Y.fl.length c91, .slice A92 Y.nn.length c92, .slice A93 Y.nl.length c93, .slice A94 Y.ss.length c94] := hw22 ▸ Blk.newAt rfl
          have hD9_22 := hr9.below hby
          have hz22 := hby.size
          have hB3_22 := hB3_21.below hby hB3_21.lt
          have hD3_22 := hD3_21.below hby
          have hB5_22 := hB5_21.below hby hB5_21.lt
          have hD5_22 := hD5_21.below hby
          have hB7_22 := hB7_21.below hby hB7_21.lt
          have hN7_22 := hN7_21.below hby
          have hL7_22 := hL7_21.below hby
          have hbw22 := hbw21.trans (hby.mono hbw21.size)
          clear hB3_21 hD3_21 hB5_21 hD5_21 hB7_21 hN7_21 hL7_21 hbw21 hby
          (have b5_0 := hB5_22.cell 0); (have b5_1 := hB5_22.cell 1); (have b5_2 := hB5_22.cell 2); (have b5_3 := hB5_22.cell 3); (have b5_4 := hB5_22.cell 4); simp only [List.getElem?_toArray, List.getElem?_cons_succ, List.getElem?_cons_zero] at b5_0 b5_1 b5_2 b5_3 b5_4
          have l5 := hB5_22.lt
          go_upto_region 11 with (fail)
          try rw [← hw22]
          clear hw22
          generalize w21.heap.size = X9 at *
          clear b5_0 b5_1 b5_2 b5_3 b5_4 l5
          clear hr9
          (have b5_0 := hB5_22.cell 0); (have b5_1 := hB5_22.cell 1); (have b5_2 := hB5_22.cell 2); (have b5_3 := hB5_22.cell 3); (have b5_4 := hB5_22.cell 4); simp only [List.getElem?_toArray, List.getElem?_cons_succ, List.getElem?_cons_zero] at b5_0 b5_1 b5_2 b5_3 b5_4
          have l5 := hB5_22.lt
          (have b7_0 := hB7_22.cell 0); (have b7_1 := hB7_22.cell 1); simp only [List.getElem?_toArray, List.getElem?_cons_succ, List.getElem?_cons_zero] at b7_0 b7_1
          have l7 := hB7_22.lt
          go_wp2_with fail
          refine (sSameWindow_at _ _ _ _ _ _ _ _ true _ hD5_22.nn hD5_22.nl hN7_22 hL7_22 HS1).mono ?_
          rintro e w23 ⟨rfl, hby⟩
          clear b5_0 b5_1 b5_2 b5_3 b5_4 l5 b7_0 b7_1 l7
          have hz23 := hby.size
          have hB3_23 := hB3_22.below hby hB3_22.lt
          have hD3_23 := hD3_22.below hby
          have hB5_23 := hB5_22.below hby hB5_22.lt
          have hD5_23 := hD5_22.below hby
          have hB9_23 := hB9_22.below hby hB9_22.lt
          have hD9_23 := hD9_22.below hby
          have hB7_23 := hB7_22.below hby hB7_22.lt
          have hN7_23 := hN7_22.below hby
          have hL7_23 := hL7_22.below hby
          have hbw23 := hbw22.trans (hby.mono hbw22.size)
          clear hB3_22 hD3_22 hB5_22 hD5_22 hB9_22 hD9_22 hB7_22 hN7_22 hL7_22 hbw22 hby
          (have b9_0 := hB9_23.cell 0); (have b9_1 := hB9_23.cell 1); (have b9_2 := hB9_23.cell 2); (have b9_3 := hB9_23.cell 3); (have b9_4 := hB9_23.cell 4); simp only [List.getElem?_toArray, List.getElem?_cons_succ, List.getElem?_cons_zero] at b9_0 b9_1 b9_2 b9_3 b9_4
          have l9 := hB9_23.lt
          (have b3_0 := hB3_23.cell 0); (have b3_1 := hB3_23.cell 1); (have b3_2 := hB3_23.cell 2); (have b3_3 := hB3_23.cell 3); (have b3_4 := hB3_23.cell 4); simp only [List.getElem?_toArray, List.getElem?_cons_succ, List.getElem?_cons_zero] at b3_0 b3_1 b3_2 b3_3 b3_4
          have l3 := hB3_23.lt
          go_wp2_with fail
          refine (sSameWindow_at _ _ _ _ _ _ _ _ true _ hD9_23.nn hD9_23.nl hD3_23.nn hD3_23.nl HS2).mono ?_
          rintro e w24 ⟨rfl, hby⟩
          clear b9_0 b9_1 b9_2 b9_3 b9_4 l9 b3_0 b3_1 b3_2 b3_3 b3_4 l3
          have hz24 := hby.size
          have hB3_24 := hB3_23.below hby hB3_23.lt
          have hD3_24 := hD3_23.below hby
          have hB5_24 := hB5_23.below hby hB5_23.lt
          have hD5_24 := hD5_23.below hby
          have hB9_24 := hB9_23.below hby hB9_23.lt
          have hD9_24 := hD9_23.below hby
          have hB7_24 := hB7_23.below hby hB7_23.lt
          have hN7_24 := hN7_23.below hby
          have hL7_24 := hL7_23.below hby
          have hbw24 := hbw23.trans (hby.mono hbw23.size)
          clear hB3_23 hD3_23 hB5_23 hD5_23 hB9_23 hD9_23 hB7_23 hN7_23 hL7_23 hbw23 hby
          have f1 : ((E.ss.length : Int) != (D.ss.length : Int) + 1) = false := by simp [HS3.out]
          (have b5_0 := hB5_24.cell 0); (have b5_1 := hB5_24.cell 1); (have b5_2 := hB5_24.cell 2); (have b5_3 := hB5_24.cell 3); (have b5_4 := hB5_24.cell 4); simp only [List.getElem?_toArray, List.getElem?_cons_succ, List.getElem?_cons_zero] at b5_0 b5_1 b5_2 b5_3 b5_4
          have l5 := hB5_24.lt
          (have b3_0 := hB3_24.cell 0); (have b3_1 := hB3_24.cell 1); (have b3_2 := hB3_24.cell 2); (have b3_3 := hB3_24.cell 3); (have b3_4 := hB3_24.cell 4); simp only [List.getElem?_toArray, List.getElem?_cons_succ, List.getElem?_cons_zero] at b3_0 b3_1 b3_2 b3_3 b3_4
          have l3 := hB3_24.lt
          go_wp2_with fail
          refine (iDok_at _ _ _ _ _ E true _ hD5_24 HOKE).mono ?_
          rintro e w25 ⟨rfl, hby⟩
          clear b5_0 b5_1 b5_2 b5_3 b5_4 l5 b3_0 b3_1 b3_2 b3_3 b3_4 l3
          clear f1
          have hz25 := hby.size
          have hB3_25 := hB3_24.below hby hB3_24.lt
          have hD3_25 := hD3_24.below hby
          have hB5_25 := hB5_24.below hby hB5_24.lt
          have hD5_25 := hD5_24.below hby
          have hB9_25 := hB9_24.below hby hB9_24.lt
          have hD9_25 := hD9_24.below hby
          have hB7_25 := hB7_24.below hby hB7_24.lt
          have hN7_25 := hN7_24.below hby
          have hL7_25 := hL7_24.below hby
          have hbw25 := hbw24.trans (hby.mono hbw24.size)
          clear hB3_24 hD3_24 hB5_24 hD5_24 hB9_24 hD9_24 hB7_24 hN7_24 hL7_24 hbw24 hby
          have f2 : ((Y.ss.length : Int) != (D.ss.length : Int)) = false := by simp [HS4.out]
          (have b9_0 := hB9_25.cell 0); (have b9_1 := hB9_25.cell 1); (have b9_2 := hB9_25.cell 2); (have b9_3 := hB9_25.cell 3); (have b9_4 := hB9_25.cell 4); simp only [List.getElem?_toArray, List.getElem?_cons_succ, List.getElem?_cons_zero] at b9_0 b9_1 b9_2 b9_3 b9_4
          have l9 := hB9_25.lt
          (have b3_0 := hB3_25.cell 0); (have b3_1 := hB3_25.cell 1); (have b3_2 := hB3_25.cell 2); (have b3_3 := hB3_25.cell 3); (have b3_4 := hB3_25.cell 4); simp only [List.getElem?_toArray, List.getElem?_cons_succ, List.getElem?_cons_zero] at b3_0 b3_1 b3_2 b3_3 b3_4
          have l3 := hB3_25.lt
          go_upto_region 13 with (fail)
          clear b9_0 b9_1 b9_2 b9_3 b9_4 l9 b3_0 b3_1 b3_2 b3_3 b3_4 l3
          clear f2
          clear hB9_25 hD9_25
          (have b3_0 := hB3_25.cell 0); (have b3_1 := hB3_25.cell 1); (have b3_2 := hB3_25.cell 2); (have b3_3 := hB3_25.cell 3); (have b3_4 := hB3_25.cell 4); simp only [List.getElem?_toArray, List.getElem?_cons_succ, List.getElem?_cons_zero] at b3_0 b3_1 b3_2 b3_3 b3_4
          have l3 := hB3_25.lt
          go_wp2_with fail
          refine (iUndoAll_at _ _ _ _ _ D _ hD3_25 HLE.out).mono ?_
          obtain ⟨AA, hAA⟩ : ∃ A, undoAllD D = A := ⟨_, rfl⟩
          have HAA := Lib.hid (hAA.symm.trans (undoAll_win HOK.out))
          rw [hAA]
          clear hAA
          have HOA : Hid (okD AA = true) := Lib.hid (by rw [HAA.out]; exact okD_new (okD_iff.1 HOK.out).1)
          have HLA := Lib.hid (okD_le HOA.out)
          have HA0 : Hid (AA.ss.length = 0) := Lib.hid (by rw [HAA.out]; rfl)
          have HA1 : Hid (sameWB AA.nn AA.nl D.fn D.fl = true) := Lib.hid (by rw [HAA.out, sameWB_iff]; exact ⟨rfl, rfl⟩)
          have HA2 : Hid (sameWB AA.fn AA.fl D.fn D.fl = true) := Lib.hid (by rw [HAA.out, sameWB_iff]; exact ⟨rfl, rfl⟩)
          have HUB : Hid (undoStepB AA = false) := Lib.hid (undoStep_no (.inr HA0.out)).2
          obtain ⟨UA, hUA⟩ : ∃ A, undoStepD AA = A := ⟨_, rfl⟩
          have HUA := Lib.hid hUA
          clear hUA
          rintro e w26 ⟨A110, c110, A111, c111, A112, c112, A113, c113, A114, c114, gs11, rfl, ho11, hby⟩
          have hr11 := ho11.reads
          clear ho11
          clear b3_0 b3_1 b3_2 b3_3 b3_4 l3
          have hz26 := hby.size
          have hB3_26 := hB3_25.below hby hB3_25.lt
          have hD3_26 := hD3_25.below hby
          have hB5_26 := hB5_25.below hby hB5_25.lt
          have hD5_26 := hD5_25.below hby
          have hB7_26 := hB7_25.below hby hB7_25.lt
          have hN7_26 := hN7_25.below hby
          have hL7_26 := hL7_25.below hby
          have hbw26 := hbw25.trans (hby.mono hbw25.size)
          clear hB3_25 hD3_25 hB5_25 hD5_25 hB7_25 hN7_25 hL7_25 hbw25 hby
          obtain ⟨w27, hw27⟩ : ∃ u, u = w26.alloc (.cells #[.slice A110 AA.fn.length c110, .slice A111 AA.fl.length c111, .slice A112 AA.nn.length c112, .slice A113 AA.nl.length c113, .slice A114 AA.ss.length c114] 59) := ⟨_, rfl⟩
          have hby : Below w26.heap.size w26 w27 := hw27 ▸ (Below.refl _ _).alloc (Nat.le_refl _) _
          have hB11_27 : Blk w27 w26.heap.size 59 #[.slice A110 AA.fn.length c110, .slice A111 AA.fl.length c111, .slice A112 AA.nn.length c112, .slice A113 AA.nl.length c113, .slice A114 AA.ss.length c114] := hw27 ▸ Blk.newAt rfl
          have hD11_27 := hr11.below hby
          have hz27 := hby.size
          have hB3_27 := hB3_26.below hby hB3_26.lt
          have hD3_27 := hD3_26.below hby
          have hB5_27 := hB5_26.below hby hB5_26.lt
          have hD5_27 := hD5_26.below hby
          have hB7_27 := hB7_26.below hby hB7_26.lt
          have hN7_27 := hN7_26.below hby
          have hL7_27 := hL7_26.below hby
          have hbw27 := hbw26.trans (hby.mono hbw26.size)
          clear hB3_26 hD3_26 hB5_26 hD5_26 hB7_26 hN7_26 hL7_26 hbw26 hby
          (have b3_0 := hB3_27.cell 0); (have b3_1 := hB3_27.cell 1); (have b3_2 := hB3_27.cell 2); (have b3_3 := hB3_27.cell 3); (have b3_4 := hB3_27.cell 4); simp only [List.getElem?_toArray, List.getElem?_cons_succ, List.getElem?_cons_zero] at b3_0 b3_1 b3_2 b3_3 b3_4
          have l3 := hB3_27.lt
          go_upto_region 14 with (fail)
          try rw [← hw27]
          clear hw27
          generalize w26.heap.size = X11 at *
          clear b3_0 b3_1 b3_2 b3_3 b3_4 l3
          clear hr11
          (have b11_0 := hB11_27.cell 0); (have b11_1 := hB11_27.cell 1); (have b11_2 := hB11_27.cell 2); (have b11_3 := hB11_27.cell 3); (have b11_4 := hB11_27.cell 4); simp only [List.getElem?_toArray, List.getElem?_cons_succ, List.getElem?_cons_zero] at b11_0 b11_1 b11_2 b11_3 b11_4
          have l11 := hB11_27.lt
          go_wp2_with fail
          refine (iUndoStep_at _ _ _ _ _ AA _ hD11_27 HLA.out).mono ?_
          rw [HUA.out, HUB.out]
          rintro e w28 ⟨A120, c120, A121, c121, A122, c122, A123, c123, A124, c124, gs12, rfl, ho12, hby⟩
          have hr12 := ho12.reads
          clear ho12
          clear b11_0 b11_1 b11_2 b11_3 b11_4 l11
          have hz28 := hby.size
          have hB3_28 := hB3_27.below hby hB3_27.lt
          have hD3_28 := hD3_27.below hby
          have hB5_28 := hB5_27.below hby hB5_27.lt
          have hD5_28 := hD5_27.below hby
          have hB11_28 := hB11_27.below hby hB11_27.lt
          have hD11_28 := hD11_27.below hby
          have hB7_28 := hB7_27.below hby hB7_27.lt
          have hN7_28 := hN7_27.below hby
          have hL7_28 := hL7_27.below hby
          have hbw28 := hbw27.trans (hby.mono hbw27.size)
          clear hB3_27 hD3_27 hB5_27 hD5_27 hB11_27 hD11_27 hB7_27 hN7_27 hL7_27 hbw27 hby
          obtain ⟨w29, hw29⟩ : ∃ u, u = w28.alloc (.cells #[.slice A120 UA.fn.length c120, .slice A121 UA.fl.length c121, .slice A122 UA.nn.length c122, .slice A123 UA.nl.length c123, .slice A124 UA.ss.length c124] 59) := ⟨_, rfl⟩
          have hby : Below w28.heap.size w28 w29 := hw29 ▸ (Below.refl _ _).alloc (Nat.le_refl _) _
          have hB12_29 : Blk w29 w28.heap.size 59 #[.slice A120 UA.fn.length c120, .slice A121 UA.fl.length c121, .slice A122 UA.nn.length c122, .slice A123 UA.nl.length c123, .slice A124 UA.ss.length c124] := hw29 ▸ Blk.newAt rfl
          have hD12_29 := hr12.below hby
          have hz29 := hby.size
          have hB3_29 := hB3_28.below hby hB3_28.lt
          have hD3_29 := hD3_28.below hby
          have hB5_29 := hB5_28.below hby hB5_28.lt
          have hD5_29 := hD5_28.below hby
          have hB11_29 := hB11_28.below hby hB11_28.lt
          have hD11_29 := hD11_28.below hby
          have hB7_29 := hB7_28.below hby hB7_28.lt
          have hN7_29 := hN7_28.below hby
          have hL7_29 := hL7_28.below hby
          have hbw29 := hbw28.trans (hby.mono hbw28.size)
          clear hB3_28 hD3_28 hB5_28 hD5_28 hB11_28 hD11_28 hB7_28 hN7_28 hL7_28 hbw28 hby
          (have b11_0 := hB11_29.cell 0); (have b11_1 := hB11_29.cell 1); (have b11_2 := hB11_29.cell 2); (have b11_3 := hB11_29.cell 3); (have b11_4 := hB11_29.cell 4); simp only [List.getElem?_toArray, List.getElem?_cons_succ, List.getElem?_cons_zero] at b11_0 b11_1 b11_2 b11_3 b11_4
          have l11 := hB11_29.lt
          go_upto_region 15 with (fail)
          try rw [← hw29]
          clear hw29
          generalize w28.heap.size = X12 at *
          clear b11_0 b11_1 b11_2 b11_3 b11_4 l11
          clear hr12
          clear hB12_29 hD12_29
          (have b3_0 := hB3_29.cell 0); (have b3_1 := hB3_29.cell 1); (have b3_2 := hB3_29.cell 2); (have b3_3 := hB3_29.cell 3); (have b3_4 := hB3_29.cell 4); simp only [List.getElem?_toArray, List.getElem?_cons_succ, List.getElem?_cons_zero] at b3_0 b3_1 b3_2 b3_3 b3_4
          have l3 := hB3_29.lt
          obtain ⟨w30, hw30⟩ : ∃ u, u = w29.alloc (.cells #[.slice A30 D.fn.length c30, .slice A31 D.fl.length c31, .slice A32 D.nn.length c32, .slice A33 D.nl.length c33, .slice A34 D.ss.length c34] 59) := ⟨_, rfl⟩
          have hby : Below w29.heap.size w29 w30 := hw30 ▸ (Below.refl _ _).alloc (Nat.le_refl _) _
          have hB14 : Blk w30 w29.heap.size 59 #[.slice A30 D.fn.length c30, .slice A31 D.fl.length c31, .slice A32 D.nn.length c32, .slice A33 D.nl.length c33, .slice A34 D.ss.length c34] := hw30 ▸ Blk.newAt rfl
          have hD14 := hD3_29.below hby
          go_upto_region 16 with (fail)
          try rw [← hw30]
          clear hw30
          clear b3_0 b3_1 b3_2 b3_3 b3_4 l3
          obtain ⟨X14, hX14⟩ : ∃ x, w29.heap.size = x := ⟨_, rfl⟩
          rw [hX14] at hB14 ⊢
          have lz3 := hB3_29.lt
          have lz5 := hB5_29.lt
          have lz11 := hB11_29.lt
          have lz7 := hB7_29.lt
          have HX14 := Lib.hid hX14
          clear hX14
          go_wp2
          go_loopw [15] (fun i wr => ∃ (q : Nat) (A140 : Option Addr) (c140 : Nat) (A141 : Option Addr) (c141 : Nat) (A142 : Option Addr) (c142 : Nat) (A143 : Option Addr) (c143 : Nat) (A144 : Option Addr) (c144 : Nat), i = .int .i64 q ∧ q ≤ D.ss.length ∧ Blk wr X14 59 #[.slice A140 (undoK D q).fn.length c140, .slice A141 (undoK D q).fl.length c141, .slice A142 (undoK D q).nn.length c142, .slice A143 (undoK D q).nl.length c143, .slice A144 (undoK D q).ss.length c144] ∧ RD wr (.slice A140 (undoK D q).fn.length c140) (.slice A141 (undoK D q).fl.length c141) (.slice A142 (undoK D q).nn.length c142) (.slice A143 (undoK D q).nl.length c143) (.slice A144 (undoK D q).ss.length c144) (undoK D q) ∧ Below w29.heap.size w29 wr) (fun i _ => D.ss.length - (intOf i).toNat)
          case atStart => exact ⟨0, _, _, _, _, _, _, _, _, _, _, rfl, Nat.zero_le _, hB14, hD14, hby⟩
          case round =>
            clear hB14 hD14 hby
            obtain ⟨q, A140, c140, A141, c141, A142, c142, A143, c143, A144, c144, rfl, hq, hB14, hD14, hby⟩ := hrel
            have hB3 := hB3_29.below hby hB3_29.lt
            (have b3_0 := hB3.cell 0); (have b3_1 := hB3.cell 1); (have b3_2 := hB3.cell 2); (have b3_3 := hB3.cell 3); (have b3_4 := hB3.cell 4); simp only [List.getElem?_toArray, List.getElem?_cons_succ, List.getElem?_cons_zero] at b3_0 b3_1 b3_2 b3_3 b3_4
            have l3 := hB3.lt
            have l14 := hB14.lt
            by_cases hlt : q < D.ss.length
            · have hlt' : (q : Int) < (D.ss.length : Int) := by omega
              (have b14_0 := hB14.cell 0); (have b14_1 := hB14.cell 1); (have b14_2 := hB14.cell 2); (have b14_3 := hB14.cell 3); (have b14_4 := hB14.cell 4); simp only [List.getElem?_toArray, List.getElem?_cons_succ, List.getElem?_cons_zero] at b14_0 b14_1 b14_2 b14_3 b14_4
              have HK := undoK_ok HOK.out q
              have HLK := Lib.hid (okD_le HK.1)
              clear HK
              have HKS : Hid (undoStepD (undoK D q) = undoK D (q + 1)) := Lib.hid rfl
              go_wp2_with fail
              refine (iUndoStep_at _ _ _ _ _ (undoK D q) _ hD14 HLK.out).mono ?_
              rw [HKS.out]
              obtain ⟨ub, hub⟩ : ∃ u, undoStepB (undoK D q) = u := ⟨_, rfl⟩
              rw [hub]
              clear hub
              rintro e w50 ⟨A150, c150, A151, c151, A152, c152, A153, c153, A154, c154, gs15, rfl, ho15, hb15⟩
              have hB14' := hB14.below hb15 l14
              have hX14b : X14 < wr.heap.size := l14
              have hbn := hby.trans (hb15.mono hby.size)
              have hsz := hb15.size
              have HR15 := Lib.hid (fun u0 u1 u2 u3 u4 => RD.ofOwn ho15 hX14b u0 u1 u2 u3 u4)
              have HB15 : Hid (∀ u0 u1 u2 u3 u4 : Value, Blk (((((w50.setCell ⟨X14, 0, none⟩ u0).setCell ⟨X14, 1, none⟩ u1).setCell ⟨X14, 2, none⟩ u2).setCell ⟨X14, 3, none⟩ u3).setCell ⟨X14, 4, none⟩ u4) X14 59 #[u0, u1, u2, u3, u4]) := Lib.hid (fun u0 u1 u2 u3 u4 => (((((hB14'.set_ 0 _).set_ 1 _).set_ 2 _).set_ 3 _).set_ 4 _))
              have HW15 : Hid (∀ u0 u1 u2 u3 u4 : Value, Below w29.heap.size w29 (((((w50.setCell ⟨X14, 0, none⟩ u0).setCell ⟨X14, 1, none⟩ u1).setCell ⟨X14, 2, none⟩ u2).setCell ⟨X14, 3, none⟩ u3).setCell ⟨X14, 4, none⟩ u4)) := Lib.hid (fun u0 u1 u2 u3 u4 => (((((hbn.setCell (p := ⟨X14, 0, none⟩) (by rw [HX14.out]; exact Nat.le_refl _) _).setCell (p := ⟨X14, 1, none⟩) (by rw [HX14.out]; exact Nat.le_refl _) _).setCell (p := ⟨X14, 2, none⟩) (by rw [HX14.out]; exact Nat.le_refl _) _).setCell (p := ⟨X14, 3, none⟩) (by rw [HX14.out]; exact Nat.le_refl _) _).setCell (p := ⟨X14, 4, none⟩) (by rw [HX14.out]; exact Nat.le_refl _) _))
              have l14' := hB14'.lt
              clear b14_0 b3_0 b14_1 b3_1 b14_2 b3_2 b14_3 b3_3 b14_4 b3_4
              (have b14_0 := hB14'.cell 0); (have b14_1 := hB14'.cell 1); (have b14_2 := hB14'.cell 2); (have b14_3 := hB14'.cell 3); (have b14_4 := hB14'.cell 4); simp only [List.getElem?_toArray, List.getElem?_cons_succ, List.getElem?_cons_zero] at b14_0 b14_1 b14_2 b14_3 b14_4; (have b14_f0 := hB14'.frozen 0); (have b14_f1 := hB14'.frozen 1); (have b14_f2 := hB14'.frozen 2); (have b14_f3 := hB14'.frozen 3); (have b14_f4 := hB14'.frozen 4)
              clear hB14 hB14' hD14 hby hb15 hbn ho15 hB3
              go_wp2
              go_roundw
              case rel => exact ⟨q + 1, A150, c150, A151, c151, A152, c152, A153, c153, A154, c154, by go_num, by omega, HB15.out _ _ _ _ _, HR15.out _ _ _ _ _, HW15.out _ _ _ _ _⟩
              case measure => simp [intOf]; omega
            · have hqq : q = D.ss.length := by omega
              subst hqq
              have HUK : Hid (sameWB (undoK D D.ss.length).nn (undoK D D.ss.length).nl D.fn D.fl = true) := Lib.hid (sameWB_iff.2 (undoK_all HOK.out))
              generalize undoK D D.ss.length = UK at *
              obtain ⟨w60, hw60⟩ : ∃ u, u = wr := ⟨_, rfl⟩
              subst hw60
              clear hB3 b3_0 b3_1 b3_2 b3_3 b3_4 l3 l14 lz3 lz5 lz11 lz7 HX14
              have hz60 := hby.size
              have hB3_60 := hB3_29.below hby hB3_29.lt
              have hD3_60 := hD3_29.below hby
              have hB5_60 := hB5_29.below hby hB5_29.lt
              have hD5_60 := hD5_29.below hby
              have hB11_60 := hB11_29.below hby hB11_29.lt
              have hD11_60 := hD11_29.below hby
              have hB7_60 := hB7_29.below hby hB7_29.lt
              have hN7_60 := hN7_29.below hby
              have hL7_60 := hL7_29.below hby
              have hbw60 := hbw29.trans (hby.mono hbw29.size)
              clear hB3_29 hD3_29 hB5_29 hD5_29 hB11_29 hD11_29 hB7_29 hN7_29 hL7_29 hbw29 hby
              have hB14_60 := hB14
              have hD14_60 := hD14
              clear hB14 hD14
              have ea : ((AA.ss.length : Int) == 0) = true := by simp [HA0.out]
              (have b11_0 := hB11_60.cell 0); (have b11_1 := hB11_60.cell 1); (have b11_2 := hB11_60.cell 2); (have b11_3 := hB11_60.cell 3); (have b11_4 := hB11_60.cell 4); simp only [List.getElem?_toArray, List.getElem?_cons_succ, List.getElem?_cons_zero] at b11_0 b11_1 b11_2 b11_3 b11_4
              have l11 := hB11_60.lt
              (have b3_0 := hB3_60.cell 0); (have b3_1 := hB3_60.cell 1); (have b3_2 := hB3_60.cell 2); (have b3_3 := hB3_60.cell 3); (have b3_4 := hB3_60.cell 4); simp only [List.getElem?_toArray, List.getElem?_cons_succ, List.getElem?_cons_zero] at b3_0 b3_1 b3_2 b3_3 b3_4
              have l3 := hB3_60.lt
              go_wp2_with fail
              refine (sSameWindow_at _ _ _ _ _ _ _ _ true _ hD11_60.nn hD11_60.nl hD3_60.fn hD3_60.fl HA1).mono ?_
              rintro e w61 ⟨rfl, hby⟩
              clear b11_0 b11_1 b11_2 b11_3 b11_4 l11 b3_0 b3_1 b3_2 b3_3 b3_4 l3
              have hz61 := hby.size
              have hB3_61 := hB3_60.below hby hB3_60.lt
              have hD3_61 := hD3_60.below hby
              have hB5_61 := hB5_60.below hby hB5_60.lt
              have hD5_61 := hD5_60.below hby
              have hB11_61 := hB11_60.below hby hB11_60.lt
              have hD11_61 := hD11_60.below hby
              have hB14_61 := hB14_60.below hby hB14_60.lt
              have hD14_61 := hD14_60.below hby
              have hB7_61 := hB7_60.below hby hB7_60.lt
              have hN7_61 := hN7_60.below hby
              have hL7_61 := hL7_60.below hby
              have hbw61 := hbw60.trans (hby.mono hbw60.size)
              clear hB3_60 hD3_60 hB5_60 hD5_60 hB11_60 hD11_60 hB14_60 hD14_60 hB7_60 hN7_60 hL7_60 hbw60 hby
              (have b11_0 := hB11_61.cell 0); (have b11_1 := hB11_61.cell 1); (have b11_2 := hB11_61.cell 2); (have b11_3 := hB11_61.cell 3); (have b11_4 := hB11_61.cell 4); simp only [List.getElem?_toArray, List.getElem?_cons_succ, List.getElem?_cons_zero] at b11_0 b11_1 b11_2 b11_3 b11_4
              have l11 := hB11_61.lt
              (have b3_0 := hB3_61.cell 0); (have b3_1 := hB3_61.cell 1); (have b3_2 := hB3_61.cell 2); (have b3_3 := hB3_61.cell 3); (have b3_4 := hB3_61.cell 4); simp only [List.getElem?_toArray, List.getElem?_cons_succ, List.getElem?_cons_zero] at b3_0 b3_1 b3_2 b3_3 b3_4
              have l3 := hB3_61.lt
              go_wp2_with fail
              refine (sSameWindow_at _ _ _ _ _ _ _ _ true _ hD11_61.fn hD11_61.fl hD3_61.fn hD3_61.fl HA2).mono ?_
              rintro e w62 ⟨rfl, hby⟩
              clear b11_0 b11_1 b11_2 b11_3 b11_4 l11 b3_0 b3_1 b3_2 b3_3 b3_4 l3
              have hz62 := hby.size
              have hB3_62 := hB3_61.below hby hB3_61.lt
              have hD3_62 := hD3_61.below hby
              have hB5_62 := hB5_61.below hby hB5_61.lt
              have hD5_62 := hD5_61.below hby
              have hB11_62 := hB11_61.below hby hB11_61.lt
              have hD11_62 := hD11_61.below hby
              have hB14_62 := hB14_61.below hby hB14_61.lt
              have hD14_62 := hD14_61.below hby
              have hB7_62 := hB7_61.below hby hB7_61.lt
              have hN7_62 := hN7_61.below hby
              have hL7_62 := hL7_61.below hby
              have hbw62 := hbw61.trans (hby.mono hbw61.size)
              clear hB3_61 hD3_61 hB5_61 hD5_61 hB11_61 hD11_61 hB14_61 hD14_61 hB7_61 hN7_61 hL7_61 hbw61 hby
              (have b11_0 := hB11_62.cell 0); (have b11_1 := hB11_62.cell 1); (have b11_2 := hB11_62.cell 2); (have b11_3 := hB11_62.cell 3); (have b11_4 := hB11_62.cell 4); simp only [List.getElem?_toArray, List.getElem?_cons_succ, List.getElem?_cons_zero] at b11_0 b11_1 b11_2 b11_3 b11_4
              have l11 := hB11_62.lt
              (have b14_0 := hB14_62.cell 0); (have b14_1 := hB14_62.cell 1); (have b14_2 := hB14_62.cell 2); (have b14_3 := hB14_62.cell 3); (have b14_4 := hB14_62.cell 4); simp only [List.getElem?_toArray, List.getElem?_cons_succ, List.getElem?_cons_zero] at b14_0 b14_1 b14_2 b14_3 b14_4
              have l14 := hB14_62.lt
              (have b3_0 := hB3_62.cell 0); (have b3_1 := hB3_62.cell 1); (have b3_2 := hB3_62.cell 2); (have b3_3 := hB3_62.cell 3); (have b3_4 := hB3_62.cell 4); simp only [List.getElem?_toArray, List.getElem?_cons_succ, List.getElem?_cons_zero] at b3_0 b3_1 b3_2 b3_3 b3_4
              have l3 := hB3_62.lt
              go_wp2_with fail
              refine (sSameWindow_at _ _ _ _ _ _ _ _ true _ hD14_62.nn hD14_62.nl hD3_62.fn hD3_62.fl HUK).mono ?_
              rintro e w63 ⟨rfl, hby⟩
              clear b11_0 b11_1 b11_2 b11_3 b11_4 l11 b14_0 b14_1 b14_2 b14_3 b14_4 l14 b3_0 b3_1 b3_2 b3_3 b3_4 l3
              have hz63 := hby.size
              have hB3_63 := hB3_62.below hby hB3_62.lt
              have hD3_63 := hD3_62.below hby
              have hB5_63 := hB5_62.below hby hB5_62.lt
              have hD5_63 := hD5_62.below hby
              have hB11_63 := hB11_62.below hby hB11_62.lt
              have hD11_63 := hD11_62.below hby
              have hB14_63 := hB14_62.below hby hB14_62.lt
              have hD14_63 := hD14_62.below hby
              have hB7_63 := hB7_62.below hby hB7_62.lt
              have hN7_63 := hN7_62.below hby
              have hL7_63 := hL7_62.below hby
              have hbw63 := hbw62.trans (hby.mono hbw62.size)
              clear hB3_62 hD3_62 hB5_62 hD5_62 hB11_62 hD11_62 hB14_62 hD14_62 hB7_62 hN7_62 hL7_62 hbw62 hby
              go_wp2
              go_ret
              exact ⟨rfl, hbw63⟩

end Go.Proofs.Ytnpdincjekelaaa

namespace Go.Proofs.Ytnpdincjekelaaa
open Go.ChangeShapes Go.WideShapes Go.RowKit
section
variable {H : Type} {enc : TypeId × Value → H} {P : Program} {w : World} {base : Nat} {spare : Nat → Bool} {held : Bool}

theorem open_int_row {t e : TypeId} {k : IntKind} {v : Value} {d : DataW H} {p : List MemPlace} (ht : P.underlying t = some (.slice e)) (he : P.underlying e = some (.int k)) (hc : P.cellsOf e = 1)
    (hval : Value.okWide P w .any base t v) (h : DataW.Trod enc P w 0 spare held t v d p) :
    ∃ zs : List Int, RS w 1 v zs.length (zs.map (Value.int k)) ∧ ∀ n ∈ zs, (Lit.int k n).wf = true := by
  obtain ⟨A, len, cap, rfl⟩ := okWide_slice ht hval
  obtain ⟨fuel, hf⟩ := h
  rcases open_ints ht he hc hf with ⟨hcs, hx⟩ | ⟨a, len', cap', zs, hcs, _, hl, hm, hz, hx, hcell, hwz⟩
  · simp [Value.cells] at hcs
    obtain ⟨rfl, rfl, rfl⟩ := hcs
    exact ⟨[], RS.nil _ _, by simp⟩
  · simp [Value.cells] at hcs
    obtain ⟨rfl, rfl, rfl⟩ := hcs
    have hle : len ≤ zs.length := by rw [hz]; split <;> omega
    have hlen : (zs.take len).length = len := by simp; omega
    refine ⟨zs.take len, ⟨by simp, some a, cap, by rw [hlen], by rw [hlen]; exact hl, by rw [hlen]; omega, fun hn => ?_⟩, fun n hn => hwz n (List.mem_of_mem_take hn)⟩
    have hn' : 0 < len := by rw [hlen] at hn; exact hn
    have h0 := hcell 0 (by omega)
    obtain ⟨ab, ao, spot⟩ := a
    have hspot : spot = none := by simpa [Addr.add] using World.cell?_spot h0
    subst hspot
    refine ⟨ab, ao, rfl, ?_, fun j u hu => ?_⟩
    · have := World.block_lt_of_cell? w _ h0
      simpa [Addr.add] using this
    · have hj : j < len := by
        have h1 := (List.getElem?_eq_some_iff.1 hu).1
        simp at h1
        omega
      have hc := hcell j (by omega)
      have e1 : zs.getD j 0 = zs[j] := by simp [List.getD, List.getElem?_eq_getElem (show j < zs.length by omega)]
      rw [e1] at hc
      have hu' : u = .int k zs[j] := by
        rw [List.getElem?_map, List.getElem?_take, if_pos hj, List.getElem?_eq_getElem (by omega)] at hu
        simpa using hu.symm
      rw [hu']
      by_cases h0 : j = 0
      · subst h0; simpa [Addr.add] using hc
      · simpa [Addr.add, h0] using hc
end

section
variable {H : Type} {enc : TypeId × Value → H} {w : World} {base : Nat} {spare : Nat → Bool} {held : Bool}

set_option maxRecDepth 100000 in
theorem open_code {v : Value} {d : DataW H} {p : List MemPlace} (hval : Value.okWide Try.prog w .any base 22 v) (h : DataW.Trod enc Try.prog w 0 spare held 22 v d p) : ∃ zs : List Int, RB w v zs := by
  obtain ⟨zs, h1, h2⟩ := open_int_row Try.underlying22 Try.underlying5 (by kernel_rfl) hval h
  refine ⟨zs, h1, fun z hz => ?_⟩
  have := h2 z hz
  simp [Lit.wf, IntKind.min, IntKind.max, IntKind.bits, IntKind.signed] at this
  omega
end
end Go.Proofs.Ytnpdincjekelaaa

namespace Go.Proofs.Ytnpdincjekelaaa
open Go.ChangeShapes Go.WideShapes Go.ChangeAt Go.RowKit Go.Joins

set_option maxRecDepth 100000 in
theorem drafts_lifted (os : Os) (started : os.Started) (H : Type) (enc : TypeId × Value → H) : ReturnsInHanded {} Try.checked os 7 .any (Rows.fnDraftsSpec.pre6 enc Try.prog Try.f7 Rows.fnDraftsRow.domain false) (Rows.fnDraftsSpec.post enc Try.prog Try.f7 false true false false) := by
  refine returnsInHanded_of_change (C := Try.checked) ownK started (by kernel_rfl) Try.func7 (ChangeSpec.witness6 (enc := enc) (C := Try.checked) false ⟨#[], #[.slice none 0 0], []⟩ 8 (by kernel_rfl) (by kernel_rfl) (by kernel_rfl) (by kernel_rfl)) ?_
  intro W base args ds gs before hval0 hW hcnd _; have hval : ∀ (j : Nat) t v, Try.f7.params[j]? = some t → args[j]? = some v → Value.okWide Try.prog W .any base t v := hval0; have hW' := hW; obtain ⟨p, q, hA0, hV, rfl, hfz, hnd⟩ := hW; have hA : DataW.TrodAll enc Try.prog W 0 (fun _ => true) true Try.f7.params.toList args.toList ds p := hA0; rw [Try.params7] at hA hval
  obtain ⟨v0, d0, rfl, rfl, h0⟩ := trodAll_one hA
  obtain ⟨l0, hl0⟩ := open_code (hval 0 22 v0 rfl rfl) h0
  refine (draftsLaw_any _ l0 W hl0).mono fun e W' ⟨he, hb⟩ => ?_
  subst he
  exact ⟨_, rfl, law_post laidOutK Try.underlying4 rfl rfl (fun ds h => by match ds, h with | [_], _ => rfl) (by rw [Try.params7]; simp only [List.mem_cons, List.mem_nil_iff, or_false, forall_eq_or_imp, forall_eq]; repeat (first | exact ⟨by kernel_rfl, of_decide_eq_true (by kernel_rfl)⟩ | refine ⟨⟨by kernel_rfl, of_decide_eq_true (by kernel_rfl)⟩, ?_⟩)) hW' rfl hb⟩

set_option maxHeartbeats 8000000 in
theorem drafts_holds : Rows.FnDraftsSaid :=
  OpenClaim.holds_of_wide 7 Try.f7 rfl rfl rfl rfl rfl rfl rfl ⟨rfl, rfl, rfl, rfl, rfl⟩ rfl rfl rfl rfl rfl (by as_aux_lemma => kernel_rfl) Try.func7 (by show joinedFacts Try.prog 7 Try.f7 Rows.fnDraftsSpec Rows.fnDraftsRow = true; unfold joinedFacts; simp only [Bool.and_eq_true]; (repeat' apply And.intro); all_goals first | with_reducible exact laidOutK | with_reducible exact mapsRowedK | with_reducible exact mayEnterK | with_reducible exact lift_eq rfl | with_reducible exact make_eq rfl | as_aux_lemma => kernel_rfl) (by as_aux_lemma => exact of_decide_eq_true (by kernel_rfl)) (by unfold Func.isWrapper; rw [if_neg (by as_aux_lemma => exact of_decide_eq_false (by kernel_rfl))]; exact ⟨rfl, rfl⟩) (fun os started H enc _ => drafts_lifted os started H enc)

end Go.Proofs.Ytnpdincjekelaaa
