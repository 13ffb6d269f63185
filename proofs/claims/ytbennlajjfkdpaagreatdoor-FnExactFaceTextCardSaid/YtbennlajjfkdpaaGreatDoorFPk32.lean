/- part 32 -/
import Derived.Test.YtbennlajjfkdpaaGreatDoorFPk31
set_option linter.unusedSimpArgs false
set_option linter.unusedVariables false
namespace Go.Proofs.YtbennlajjfkdpaaGreatDoor
open Go.RowKit
attribute [local go_sem ↓] run_mn2 run_mx2
theorem facesW_at {ns ls : List Pr} {k : Nat} (hk : k < (facesW ns ls).length) : WinOk ns ls ∧ (∀ e ∈ (facesW ns ls).getD k [], e < 2 * ls.length) ∧ 0 < ((facesW ns ls).getD k []).length ∧ ((facesW ns ls).getD k []).length ≤ 40 := by
  cases hw : wholeB ns ls
  · simp [facesW, hw] at hk
  · have hwin := (whole_win hw).1
    have hld : ∀ j : Nat, j < ls.length → leadB ns (ndI ls j) = true := fun j hj => (hwin.2.2.2.2.2 j hj).1
    have hm20 := hwin.2.2.1
    have hF : facesW ns ls = facesK ns ls (2 * ls.length) := by simp [facesW, hw]; rfl
    rw [hF] at hk ⊢
    have hm : (facesK ns ls (2 * ls.length)).getD k [] ∈ facesK ns ls (2 * ls.length) := by rw [List.getD, List.getElem?_eq_getElem hk]; exact List.getElem_mem hk
    obtain ⟨h1, h2, h3⟩ := facesK_bd hld (2 * ls.length) (Nat.le_refl _) _ hm
    exact ⟨hwin, h1, h2, by omega⟩
theorem facesW_len (ns ls : List Pr) : (facesW ns ls).length ≤ 40 := by
  cases hw : wholeB ns ls
  · simp [facesW, hw]
  · have hm20 := (whole_win hw).1.2.2.1
    have hF : facesW ns ls = facesK ns ls (2 * ls.length) := by simp [facesW, hw]; rfl
    rw [hF]
    have := facesK_len ns ls (2 * ls.length)
    omega
end Go.Proofs.YtbennlajjfkdpaaGreatDoor

namespace Go.Proofs.YtbennlajjfkdpaaGreatDoor
open Go.RowKit
theorem OwnF.get {base : Nat} {w : World} {v : Value} {F : List (List Nat)} (h : OwnF base w v F) {k : Nat} (hk : k < F.length) : ∃ g c u, v = .slice (some ⟨g, 0, none⟩) F.length c ∧ F.length ≤ c ∧ base ≤ g ∧ g < w.heap.size ∧ w.cell? ⟨g, k, none⟩ = some u ∧ OwnI base w u (natI (F.getD k [])) := by
  obtain ⟨vs, h1, h2, h3⟩ := h
  rcases h2.2 with ⟨_, hn⟩ | ⟨g, cap, cur, rfl, hb, hh, hc, _⟩
  · omega
  · refine ⟨g, cap, vs.getD k undef, rfl, hc, hb, (World.ownsRow.lt h2 g rfl).2, ?_, h3 k hk⟩
    rw [h2.cellAt k (by omega), List.getD, List.getElem?_eq_getElem (by omega)]
    rfl
theorem OwnI.blk {base : Nat} {w : World} {u : Value} {zs : List Int} (h : OwnI base w u zs) (h0 : 0 < zs.length) : ∃ g c, u = .slice (some ⟨g, 0, none⟩) zs.length c ∧ zs.length ≤ c ∧ base ≤ g ∧ g < w.heap.size ∧ ∀ q, q < zs.length → w.cell? ⟨g, q, none⟩ = some (.int .i64 (zs.getD q 0)) := by
  rcases h.2 with ⟨_, hn⟩ | ⟨g, cap, cur, rfl, hb, hh, hc, _⟩
  · omega
  · exact ⟨g, cap, rfl, hc, hb, (h.lt g rfl).2, fun q hq => h.cell hq⟩
theorem wpList_append_i {w : World} {ops : Array Oper} {rest : List Oper} {o : Oper} {a : Act} {Q : Exit → Act → World → Prop} (hgd : o.guard = none) (s x : Operand)
    (ho : o.op = .call { callee := .builtin .append, args := #[s, x], argTypes := #[42, 42] })
    (base : Nat) (v : Value) (zs : List Int) (z : Int) (hs : a.eval s = v) (g : Nat) (hx : a.eval x = .slice (some ⟨g, 0, none⟩) 1 1) (hg : w.cell? ⟨g, 0, none⟩ = some (.int .i64 z))
    (hown : OwnI base w v zs) (hlen : zs.length ≤ 1048576) (hbase : base ≤ w.heap.size)
    (h : ∀ v' w', OwnI base w' v' (zs ++ [z]) → w.grownBy w' v.ownBlock → (v'.ownBlock = v.ownBlock ∨ v'.ownBlock = some w.heap.size) → wpList Tryz.prog ops Q rest (a.put o.dst v') w') : wpList Tryz.prog ops Q (o :: rest) a w := by
  obtain ⟨i, hi, hz, hsize, hby⟩ := info_parts infoInt
  exact wpList_append_own_at w hgd s x 42 ho base 3 i (.int .i64 0) 1 8 Tryz.underlying42 hi hz hsize hby rfl (by decide) v zs.length _ hs hown ⟨g, 0, none⟩ 1 1 [.int .i64 z] hx rfl
    (fun j y hj => by
      match j, hj with
      | 0, hj => cases hj; exact hg
      | j + 1, hj => simp at hj)
    (by intro y hy; simp at hy; subst hy; rfl) (by unfold maxLen; omega) (by omega) hbase fun v' w' e1 e2 _ e3 => h v' w' (OwnI.snoc e1) e2 e3
def nodK (ls : List Pr) (f : List Nat) (k : Nat) : List Int := (f.take k).map (dFrom ls)
theorem nodK_succ {ls : List Pr} {f : List Nat} {k : Nat} (h : k < f.length) : nodK ls f (k + 1) = nodK ls f k ++ [dFrom ls (f.getD k 0)] := by
  unfold nodK
  rw [List.take_succ_eq_append_getElem h, List.map_append, show f.getD k 0 = f[k] by simp [List.getD, h]]
  rfl
theorem nodK_len {ls : List Pr} {f : List Nat} {k : Nat} (h : k ≤ f.length) : (nodK ls f k).length = k := by simp [nodK]; omega
def nodF (ls : List Pr) (f : List Nat) : List Int := nodK ls f f.length
theorem nodF_len (ls : List Pr) (f : List Nat) : (nodF ls f).length = f.length := nodK_len (Nat.le_refl _)
noncomputable def paneN (ns ls : List Pr) (f : Int) : List Int := if inB f 0 (((facesW ns ls).length : Int) - 1) then nodF ls ((facesW ns ls).getD f.toNat []) else []
theorem paneN_no {ns ls : List Pr} {f : Int} (h : inB f 0 (((facesW ns ls).length : Int) - 1) = false) : paneN ns ls f = [] := by simp [paneN, h]
theorem paneN_yes {ns ls : List Pr} {k : Nat} (h : k < (facesW ns ls).length) : paneN ns ls k = nodF ls ((facesW ns ls).getD k []) := by
  unfold paneN
  rw [if_pos (inB_true.2 (by omega)), Int.toNat_natCast]
theorem paneN_len (ns ls : List Pr) (f : Int) : (paneN ns ls f).length ≤ 40 := by
  cases h : inB f 0 (((facesW ns ls).length : Int) - 1)
  · rw [paneN_no h]; simp
  · obtain ⟨k, rfl⟩ : ∃ k : Nat, f = k := ⟨f.toNat, by have := inB_true.1 h; omega⟩
    have hk : k < (facesW ns ls).length := by have := inB_true.1 h; omega
    rw [paneN_yes hk, nodF_len]
    exact (facesW_at hk).2.2.2
set_option maxHeartbeats 8000000 in
set_option maxRecDepth 100000 in
theorem sPaneN_any (vn vl : Value) (ns ls : List Pr) (f : Int) (w : World) (hn : RP w vn ns) (hl : RP w vl ls) :
    Calls Tryz.prog 15 #[.agg #[vn, vl], .int .i64 f] w (RetI (paneN ns ls f) w) := by
  have hba : Below w.heap.size w ((w.alloc (.cells #[vn, vl] 31)).alloc (.cells #[] 3)) := by exact bel_
  have hWA : Blk ((w.alloc (.cells #[vn, vl] 31)).alloc (.cells #[] 3)) w.heap.size 31 #[vn, vl] := (Blk.newAt rfl).alloc _
  have hOA : OwnI (w.heap.size + 1) ((w.alloc (.cells #[vn, vl] 31)).alloc (.cells #[] 3)) (.slice (some ⟨w.heap.size + 1, 0, none⟩) 0 0) [] := OwnI.made (by simp) (by simp)
  have hfl := facesW_len ns ls
  have HFA := Lib.hid (fun (v : World) (hb : Below w.heap.size w v) => sFaces_any vn vl ns ls v (hn.below hb) (hl.below hb))
  obtain ⟨i0, hi, iz0, iz1, iz2⟩ := info_parts infoInt
  cases hin : inB f 0 (((facesW ns ls).length : Int) - 1)
  · have HR := Lib.hid (paneN_no (f := f) hin)
    generalize facesW ns ls = F at *
    have HIN := Lib.hid hin
    clear hin
    go_enter Tryz.func15, Tryz.ntmps15
    go_wp2_with fail
    refine (HFA.out _ hba).mono ?_
    rintro e w1 ⟨v1, rfl, ho1, hb1⟩
    obtain ⟨A1, c1, rfl⟩ := ho1.form
    have hO1 := hOA.kept hb1
    have hbw1 := hba.trans (hb1.mono hba.size)
    go_wp2_with fail
    refine (l01In_any _ _ _ _).mono ?_
    rintro e w' ⟨rfl, rfl⟩
    rw [HIN.out]
    go_wp2
    go_ret
    exact ⟨_, rfl, by rw [HR.out]; exact hO1.mono (by omega), hbw1⟩
  · obtain ⟨k, rfl⟩ : ∃ k : Nat, f = k := ⟨f.toNat, by have := inB_true.1 hin; omega⟩
    have hk : k < (facesW ns ls).length := by have := inB_true.1 hin; omega
    have HR := Lib.hid (paneN_yes hk)
    obtain ⟨hwin, hfe, hf0, hf40⟩ := facesW_at hk
    have hm20 := hwin.2.2.1
    generalize facesW ns ls = F at *
    generalize hff : F.getD k [] = ff at *
    have HFF := Lib.hid hff
    have HFE := Lib.hid hfe
    have HNS := Lib.hid (fun j hj => nodK_succ (ls := ls) (f := ff) (k := j) hj)
    have HNL := Lib.hid (fun j hj => nodK_len (ls := ls) (f := ff) (k := j) hj)
    have HN0 : Hid (nodK ls ff 0 = []) := Lib.hid rfl
    have HNF : Hid (nodF ls ff = nodK ls ff ff.length) := Lib.hid rfl
    have HIN := Lib.hid hin
    have hk1 : (k : Int) < (F.length : Int) := by omega
    have ik1 : (0 : Int) ≤ (k : Int) := by omega
    clear hin hwin hfe hff
    go_enter Tryz.func15, Tryz.ntmps15
    go_wp2_with fail
    refine (HFA.out _ hba).mono ?_
    rintro e w1 ⟨v1, rfl, ho1, hb1⟩
    have hbw1 := hba.trans (hb1.mono hba.size)
    have hW1 := hWA.below hb1 hWA.lt
    have hO1 := hOA.kept hb1
    obtain ⟨b4, c1, rr, rfl, hc1, hB4, hb4, hcr, hrr⟩ := ho1.get hk
    rw [HFF.out] at hrr
    have hnl := natI_length ff
    obtain ⟨b5, c2, rfl, hc2, hB5, hb5, hcl5⟩ := hrr.blk (by omega)
    rw [hnl] at hcl5 hcr hc2
    have HCL5 := Lib.hid hcl5
    have hap4 : w.heap.size + 1 ≠ b4 := by simp at hB4; omega
    have hap5 : w.heap.size + 1 ≠ b5 := by simp at hB5; omega
    clear hb1 hba hWA hOA ho1 hcl5 hrr hB4 hB5 hnl
    go_wp2_with fail
    refine (l01In_any _ _ _ _).mono ?_
    rintro e w' ⟨rfl, rfl⟩
    rw [HIN.out]
    go_wp2
    go_loopw [5, 7] (fun v x wr => ∃ j : Nat, j ≤ ff.length ∧ x = .int .i64 j ∧ OwnI (w.heap.size + 1) wr v (nodK ls ff j) ∧ Blk wr w.heap.size 31 #[vn, vl] ∧ Below w.heap.size w wr ∧ wr.cell? ⟨b4, k, none⟩ = some (.slice (some ⟨b5, 0, none⟩) ff.length c2) ∧ w1.heap.size ≤ wr.heap.size ∧ (∀ q, v.ownBlock = some q → q ≠ b4 ∧ q ≠ b5) ∧ Hid (∀ q, q < ff.length → wr.cell? ⟨b5, q, none⟩ = some (.int .i64 ((natI ff).getD q 0)))) (fun _ x _ => ff.length - (intOf x).toNat)
    case atStart => exact ⟨0, Nat.zero_le _, rfl, by rw [HN0.out]; exact hO1, hW1, hbw1, hcr, Nat.le_refl _, fun q hq => (by cases hq; exact ⟨hap4, hap5⟩), HCL5⟩
    case round =>
      clear hO1 hW1 hbw1 hcr
      obtain ⟨j, hj, rfl, ho, hW, hbl, hcr, hzz, hap, HCL⟩ := hrel
      have hsz := hW.lt
      have hb42 : b4 < wr.heap.size := by omega
      have hb52 : b5 < wr.heap.size := by omega
      obtain ⟨a_0, a_1⟩ := hW.c2
      by_cases hlt : j < ff.length
      · have hlt1 : (j : Int) < (ff.length : Int) := by omega
        have ij1 : (0 : Int) ≤ (j : Int) := by omega
        have hx := HCL.out j hlt
        rw [natI_get] at hx
        have hem : ff.getD j 0 < 2 * ls.length := HFE.out _ (by rw [List.getD, List.getElem?_eq_getElem hlt]; exact List.getElem_mem hlt)
        have HS := Lib.hid (HNS.out j hlt)
        have hgl := HNL.out j hj
        generalize ff.getD j 0 = d at *
        have hlr : RP wr vl ls := hl.below hbl
        go_wp2_with fail
        (refine wp_region_quietG (by kernel_rfl) (by kernel_rfl) (fun hG => ?_))
        repeat (go_big_quiet_step ((go_at_call 36; exact quietG (sEnds_any _ _ ls d _ (RS.grw _ hlr) hem))))
        refine wpQuiet_nil ?_
        clear hG
        rintro w3 ⟨⟨_, hb3⟩, rfl⟩
        have ho3 := ho.kept hb3
        have hW3 := hW.below hb3 hsz
        have hbl3 := hbl.trans (hb3.mono hbl.size)
        have hcr3 := (hb3.cell (p := ⟨b4, k, none⟩) hb42).trans hcr
        have HCL3 : Hid (∀ q, q < ff.length → w3.cell? ⟨b5, q, none⟩ = some (.int .i64 ((natI ff).getD q 0))) := Lib.hid (fun q hq => (hb3.cell (p := ⟨b5, q, none⟩) hb52).trans (HCL.out q hq))
        have hz3 := hb3.size
        generalize dFrom ls d = z at *
        generalize nodK ls ff j = G at *
        clear hb3 ho hW hbl hcr HCL hx hlr a_0 a_1
        go_wp2_with (at_builtin; refine wpList_append_i rfl _ _ rfl (w.heap.size + 1) _ G z rfl w3.heap.size rfl (cell_new1 rfl) (ho3.alloc _) (by omega) (by simp; omega) ?_)
        intro v2 w2 ho2 hg2 hw2
        have hbl2 : Below w.heap.size w w2 := (hbl3.alloc hbl3.size (.cells #[.int .i64 z] 3)).grown hg2 (by simp; omega) (fun q hq => by have := (ho3.lt q hq).1; omega)
        have hW2 : Blk w2 w.heap.size 31 #[vn, vl] := (hg2.block _ (by simp; omega) (fun e => by have := (ho3.lt _ e.symm).1; omega)).trans (hW3.alloc _)
        have hc4 : w2.cell? ⟨b4, k, none⟩ = some (.slice (some ⟨b5, 0, none⟩) ff.length c2) := by
          rw [World.cell?_of_block (hg2.block b4 (by simp; omega) (fun e => (hap b4 e.symm).1 rfl))]
          exact (((Below.refl w3.heap.size w3).alloc (Nat.le_refl _) _).cell (p := ⟨b4, k, none⟩) (show b4 < w3.heap.size by omega)).trans hcr3
        have HC5 : Hid (∀ q, q < ff.length → w2.cell? ⟨b5, q, none⟩ = some (.int .i64 ((natI ff).getD q 0))) := Lib.hid (fun q hq => by
          rw [World.cell?_of_block (hg2.block b5 (by simp; omega) (fun e => (hap b5 e.symm).2 rfl))]
          exact (((Below.refl w3.heap.size w3).alloc (Nat.le_refl _) _).cell (p := ⟨b5, q, none⟩) (show b5 < w3.heap.size by omega)).trans (HCL3.out q hq))
        have hz2 := hg2.size
        simp at hz2
        have hap2 : ∀ q, v2.ownBlock = some q → q ≠ b4 ∧ q ≠ b5 := by
          intro q hq
          rcases hw2 with h | h
          · rw [h] at hq; exact hap q hq
          · rw [h] at hq
            simp at hq
            omega
        clear hg2 hw2 ho3 hW3 hbl3 hcr3 HCL3 hap
        go_wp2
        go_roundw
        case rel => exact ⟨j + 1, by omega, by go_num, by rw [HS.out]; exact ho2, hW2, hbl2, hc4, by omega, hap2, HC5⟩
        case measure => simp [intOf]; omega
      · have hjj : j = ff.length := by omega
        subst hjj
        go_wp2
        go_ret
        exact ⟨_, rfl, by rw [HR.out, HNF.out]; exact ho.mono (by omega), hbl⟩
end Go.Proofs.YtbennlajjfkdpaaGreatDoor
