/- part 28 -/
import Derived.Test.YtbennlajjfkdpaaGreatDoorFPk27
set_option linter.unusedSimpArgs false
set_option linter.unusedVariables false
namespace Go.Proofs.YtbennlajjfkdpaaGreatDoor
open Go.RowKit
def lenV : Value → Nat
  | .slice _ n _ => n
  | _ => 0
theorem OwnI.lenV {base : Nat} {w : World} {v : Value} {zs : List Int} (h : OwnI base w v zs) : lenV v = zs.length := by
  obtain ⟨A, c, rfl⟩ := h.form
  rfl
theorem OwnI.lit1 {base g : Nat} {w : World} {x : Int} (hg : g = w.heap.size) (hb : base ≤ w.heap.size) : OwnI base (w.alloc (.cells #[.int .i64 x] 3)) (.slice (some ⟨g, 0, none⟩) 1 1) [x] := by
  subst hg
  exact World.ownsRow_lit w #[.int .i64 x] 1 hb (by simp [maxLen]) rfl
set_option maxHeartbeats 4000000 in
set_option maxRecDepth 100000 in
theorem iWalk_any (vn vl : Value) (ns ls : List Pr) (d : Nat) (w : World) (hn : RP w vn ns) (hl : RP w vl ls) (hd : d < 2 * ls.length) (hwin : WinOk ns ls) :
    Calls Tryz.prog 71 #[.agg #[vn, vl], .int .i64 d] w (RetI (natI (walkD ns ls d)) w) := by
  have hm20 := hwin.2.2.1
  have hld : ∀ j : Nat, j < ls.length → leadB ns (ndI ls j) = true := fun j hj => (hwin.2.2.2.2.2 j hj).1
  obtain ⟨hp0, hpm, hpd, hpj⟩ := per_spec hld hd
  obtain ⟨i0, hi, iz0, iz1, iz2⟩ := info_parts infoInt
  have HNX := Lib.hid (fun (v : World) (e : Nat) (hv : Below w.heap.size w v) (he : e < 2 * ls.length) => iBeside_any vn vl ns ls (twin e) v (hn.below hv) (hl.below hv) (twin_lt he) hwin)
  have HOL := Lib.hid (fun k => orb_lt hld hd k)
  have HPJ := Lib.hid hpj
  have HPD := Lib.hid hpd
  have HWD : Hid (walkD ns ls d = walkK ns ls d (perD ns ls d)) := Lib.hid rfl
  have HWS := Lib.hid (fun k => walkK_succ ns ls d k)
  have HWL := Lib.hid (fun k => walkK_length ns ls d k)
  have HOS : Hid (∀ k, nextD ns ls (orbD ns ls d k) = orbD ns ls d (k + 1)) := Lib.hid (fun _ => rfl)
  have H01 : Hid (orbD ns ls d 1 = nextD ns ls d) := Lib.hid rfl
  have HW1 : Hid (walkK ns ls d 1 = [d]) := Lib.hid rfl
  generalize perD ns ls d = per at *
  have HTX := Lib.hid (fun (e : Nat) (he : e < 2 * ls.length) => twin_xor_int e (by omega))
  have x0 := HTX.out d hd
  have HNX : Hid (∀ (v : World) (e : Nat), Below w.heap.size w v → e < 2 * ls.length → Calls Tryz.prog 91 #[.agg #[vn, vl], .int .i64 (bits .xor .i64 (e : Int) 1), .int .i64 (-1)] v fun e' w' => e' = .returned (.int .i64 (nextD ns ls e)) ∧ Below v.heap.size v w') := Lib.hid (fun v e hv he => by rw [HTX.out e he]; exact HNX.out v e hv he)
  clear x0
  clear hwin hpj hpd hld
  go_enter Tryz.func71, Tryz.ntmps71
  go_wp2_with fail
  have hba : Below w.heap.size w ((w.alloc (.cells #[vn, vl] 31)).alloc (.cells #[.int .i64 d] 3)) := by exact bel_
  have hW0 : Blk ((w.alloc (.cells #[vn, vl] 31)).alloc (.cells #[.int .i64 d] 3)) w.heap.size 31 #[vn, vl] := (Blk.newAt rfl).alloc _
  have ho0 : OwnI (w.heap.size + 1) ((w.alloc (.cells #[vn, vl] 31)).alloc (.cells #[.int .i64 d] 3)) (.slice (some ⟨w.heap.size + 1, 0, none⟩) 1 1) [(d : Int)] := OwnI.lit1 (by simp) (by simp)
  refine (HNX.out _ d hba hd).mono ?_
  rintro e w1 ⟨rfl, hb1⟩
  have hbw1 := hba.trans (hb1.mono hba.size)
  have hW1 := hW0.below hb1 hW0.lt
  have ho1 := ho0.kept hb1
  clear hb1 hba hW0 ho0
  go_wp2
  go_loopw [5, 6] (fun v x wr => ∃ k : Nat, 1 ≤ k ∧ k ≤ per ∧ x = .int .i64 (orbD ns ls d k) ∧ OwnI (w.heap.size + 1) wr v (natI (walkK ns ls d k)) ∧ Blk wr w.heap.size 31 #[vn, vl] ∧ Below w.heap.size w wr) (fun v _ _ => per - lenV v)
  case atStart => exact ⟨1, Nat.le_refl _, hp0, by rw [H01.out], by rw [HW1.out]; exact ho1, hW1, hbw1⟩
  case round =>
    clear ho1 hW1 hbw1
    obtain ⟨k, hk1, hkp, rfl, ho, hW, hbl⟩ := hrel
    have hlv := ho.lenV
    have hsz := hW.lt
    rw [natI_length, HWL.out] at hlv
    obtain ⟨a_0, a_1⟩ := hW.c2
    have HK : Hid (k < per → orbD ns ls d k ≠ d) := Lib.hid (fun h => HPJ.out k (by omega) h)
    have hol := HOL.out k
    have HS : Hid (natI (walkK ns ls d (k + 1)) = natI (walkK ns ls d k) ++ [((orbD ns ls d k : Nat) : Int)]) := Lib.hid (by rw [HWS.out]; simp [natI])
    have HO1 := Lib.hid (HOS.out k)
    have HGL : Hid ((natI (walkK ns ls d k)).length = k) := Lib.hid (by rw [natI_length, HWL.out])
    have HE : Hid (k = per → orbD ns ls d k = d) := Lib.hid (fun h => by rw [h]; exact HPD.out)
    have HEW : Hid (k = per → walkD ns ls d = walkK ns ls d k) := Lib.hid (fun h => by rw [h]; exact HWD.out)
    generalize hxe : orbD ns ls d k = x at *
    clear hxe
    by_cases hkd : k < per
    · have hne := HK.out hkd
      have e1 : ((x : Int) != (d : Int)) = true := by simp; omega
      generalize walkK ns ls d k = G at *
      go_wp2_with (at_builtin; refine wpList_append_own _ rfl _ _ 42 rfl (w.heap.size + 1) 3 i0 (.int .i64 0) 1 8 Tryz.underlying42 hi iz0 iz1 iz2 rfl (by decide) _ _ _ rfl (World.ownsRow.alloc ho _) ⟨wr.heap.size, 0, none⟩ 1 1 [.int .i64 _] rfl rfl (cell_one_at (by simp)) (by intro u hu; simp at hu; subst hu; rfl) (by rw [HGL.out]; unfold maxLen; omega) (by rw [HGL.out]; omega) (by simp; omega) ?_)
      intro v2 w2 hown2 hg2 hne2
      have hbl2 : Below w.heap.size w w2 := (hbl.alloc (show w.heap.size ≤ wr.heap.size by omega) (.cells #[.int .i64 (x : Int)] 3)).grown hg2 (by simp; omega) (fun k hk => by have := (ho.lt k hk).1; omega)
      have hW2 : Blk w2 w.heap.size 31 #[vn, vl] := (hg2.block _ (by simp; omega) (fun e => by have := (ho.lt _ e.symm).1; omega)).trans (hW.alloc _)
      have hO2 := OwnI.snoc hown2
      have hz2 := hW2.lt
      have hl2 := hO2.lenV
      rw [List.length_append, HGL.out] at hl2
      simp at hl2
      clear hown2 hg2 ho hW hbl hne2 a_0 a_1
      obtain ⟨a_0, a_1⟩ := hW2.c2
      go_wp2_with fail
      refine (HNX.out _ x hbl2 hol).mono ?_
      rw [HO1.out]
      rintro e w3 ⟨rfl, hb3⟩
      have HO3 := Lib.hid (hO2.kept hb3)
      have HW3 := Lib.hid (hW2.below hb3 hz2)
      have hbl3 := hbl2.trans (hb3.mono hbl2.size)
      clear hb3 hO2 hW2 hbl2 a_0 a_1
      go_wp2
      go_roundw
      case rel => exact ⟨k + 1, by omega, by omega, rfl, by rw [HS.out]; exact HO3.out, HW3.out, hbl3⟩
      case measure => simp [hl2, hlv]; omega
    · have hkk : k = per := by omega
      have hxd := HE.out hkk
      have e1 : ((x : Int) != (d : Int)) = false := by simp [hxd]
      have HR := Lib.hid (HEW.out hkk)
      clear hkk hxd
      go_wp2
      go_ret
      exact ⟨_, rfl, by rw [HR.out]; exact ho.mono (by omega), hbl⟩
set_option maxHeartbeats 4000000 in
set_option maxRecDepth 100000 in
theorem sWalk_any (vn vl : Value) (ns ls : List Pr) (d : Nat) (w : World) (hn : RP w vn ns) (hl : RP w vl ls) (hd : d < 2 * ls.length) (hwin : WinOk ns ls) :
    Calls Tryz.prog 69 #[.agg #[vn, vl], .int .i64 d] w (RetI (natI (walkD ns ls d)) w) := by
  have hm20 := hwin.2.2.1
  have hld : ∀ j : Nat, j < ls.length → leadB ns (ndI ls j) = true := fun j hj => (hwin.2.2.2.2.2 j hj).1
  obtain ⟨hp0, hpm, hpd, hpj⟩ := per_spec hld hd
  obtain ⟨i0, hi, iz0, iz1, iz2⟩ := info_parts infoInt
  have HNX := Lib.hid (fun (v : World) (e : Nat) (hv : Below w.heap.size w v) (he : e < 2 * ls.length) => sNext_any vn vl ns ls e v (hn.below hv) (hl.below hv) he hwin)
  have HOL := Lib.hid (fun k => orb_lt hld hd k)
  have HPJ := Lib.hid hpj
  have HPD := Lib.hid hpd
  have HWD : Hid (walkD ns ls d = walkK ns ls d (perD ns ls d)) := Lib.hid rfl
  have HWS := Lib.hid (fun k => walkK_succ ns ls d k)
  have HWL := Lib.hid (fun k => walkK_length ns ls d k)
  have HOS : Hid (∀ k, nextD ns ls (orbD ns ls d k) = orbD ns ls d (k + 1)) := Lib.hid (fun _ => rfl)
  have H01 : Hid (orbD ns ls d 1 = nextD ns ls d) := Lib.hid rfl
  have HW1 : Hid (walkK ns ls d 1 = [d]) := Lib.hid rfl
  generalize perD ns ls d = per at *
  clear hwin hpj hpd hld
  go_enter Tryz.func69, Tryz.ntmps69
  go_wp2_with fail
  have hba : Below w.heap.size w ((w.alloc (.cells #[vn, vl] 31)).alloc (.cells #[.int .i64 d] 3)) := by exact bel_
  have hW0 : Blk ((w.alloc (.cells #[vn, vl] 31)).alloc (.cells #[.int .i64 d] 3)) w.heap.size 31 #[vn, vl] := (Blk.newAt rfl).alloc _
  have ho0 : OwnI (w.heap.size + 1) ((w.alloc (.cells #[vn, vl] 31)).alloc (.cells #[.int .i64 d] 3)) (.slice (some ⟨w.heap.size + 1, 0, none⟩) 1 1) [(d : Int)] := OwnI.lit1 (by simp) (by simp)
  refine (HNX.out _ d hba hd).mono ?_
  rintro e w1 ⟨rfl, hb1⟩
  have hbw1 := hba.trans (hb1.mono hba.size)
  have hW1 := hW0.below hb1 hW0.lt
  have ho1 := ho0.kept hb1
  clear hb1 hba hW0 ho0
  go_wp2
  go_loopw [5, 6] (fun v x wr => ∃ k : Nat, 1 ≤ k ∧ k ≤ per ∧ x = .int .i64 (orbD ns ls d k) ∧ OwnI (w.heap.size + 1) wr v (natI (walkK ns ls d k)) ∧ Blk wr w.heap.size 31 #[vn, vl] ∧ Below w.heap.size w wr) (fun v _ _ => per - lenV v)
  case atStart => exact ⟨1, Nat.le_refl _, hp0, by rw [H01.out], by rw [HW1.out]; exact ho1, hW1, hbw1⟩
  case round =>
    clear ho1 hW1 hbw1
    obtain ⟨k, hk1, hkp, rfl, ho, hW, hbl⟩ := hrel
    have hlv := ho.lenV
    have hsz := hW.lt
    rw [natI_length, HWL.out] at hlv
    obtain ⟨a_0, a_1⟩ := hW.c2
    have HK : Hid (k < per → orbD ns ls d k ≠ d) := Lib.hid (fun h => HPJ.out k (by omega) h)
    have hol := HOL.out k
    have HS : Hid (natI (walkK ns ls d (k + 1)) = natI (walkK ns ls d k) ++ [((orbD ns ls d k : Nat) : Int)]) := Lib.hid (by rw [HWS.out]; simp [natI])
    have HO1 := Lib.hid (HOS.out k)
    have HGL : Hid ((natI (walkK ns ls d k)).length = k) := Lib.hid (by rw [natI_length, HWL.out])
    have HE : Hid (k = per → orbD ns ls d k = d) := Lib.hid (fun h => by rw [h]; exact HPD.out)
    have HEW : Hid (k = per → walkD ns ls d = walkK ns ls d k) := Lib.hid (fun h => by rw [h]; exact HWD.out)
    generalize hxe : orbD ns ls d k = x at *
    clear hxe
    by_cases hkd : k < per
    · have hne := HK.out hkd
      have e1 : ((x : Int) != (d : Int)) = true := by simp; omega
      generalize walkK ns ls d k = G at *
      go_wp2_with (at_builtin; refine wpList_append_own _ rfl _ _ 42 rfl (w.heap.size + 1) 3 i0 (.int .i64 0) 1 8 Tryz.underlying42 hi iz0 iz1 iz2 rfl (by decide) _ _ _ rfl (World.ownsRow.alloc ho _) ⟨wr.heap.size, 0, none⟩ 1 1 [.int .i64 _] rfl rfl (cell_one_at (by simp)) (by intro u hu; simp at hu; subst hu; rfl) (by rw [HGL.out]; unfold maxLen; omega) (by rw [HGL.out]; omega) (by simp; omega) ?_)
      intro v2 w2 hown2 hg2 hne2
      have hbl2 : Below w.heap.size w w2 := (hbl.alloc (show w.heap.size ≤ wr.heap.size by omega) (.cells #[.int .i64 (x : Int)] 3)).grown hg2 (by simp; omega) (fun k hk => by have := (ho.lt k hk).1; omega)
      have hW2 : Blk w2 w.heap.size 31 #[vn, vl] := (hg2.block _ (by simp; omega) (fun e => by have := (ho.lt _ e.symm).1; omega)).trans (hW.alloc _)
      have hO2 := OwnI.snoc hown2
      have hz2 := hW2.lt
      have hl2 := hO2.lenV
      rw [List.length_append, HGL.out] at hl2
      simp at hl2
      clear hown2 hg2 ho hW hbl hne2 a_0 a_1
      obtain ⟨a_0, a_1⟩ := hW2.c2
      go_wp2_with fail
      refine (HNX.out _ x hbl2 hol).mono ?_
      rw [HO1.out]
      rintro e w3 ⟨rfl, hb3⟩
      have HO3 := Lib.hid (hO2.kept hb3)
      have HW3 := Lib.hid (hW2.below hb3 hz2)
      have hbl3 := hbl2.trans (hb3.mono hbl2.size)
      clear hb3 hO2 hW2 hbl2 a_0 a_1
      go_wp2
      go_roundw
      case rel => exact ⟨k + 1, by omega, by omega, rfl, by rw [HS.out]; exact HO3.out, HW3.out, hbl3⟩
      case measure => simp [hl2, hlv]; omega
    · have hkk : k = per := by omega
      have hxd := HE.out hkk
      have e1 : ((x : Int) != (d : Int)) = false := by simp [hxd]
      have HR := Lib.hid (HEW.out hkk)
      clear hkk hxd
      go_wp2
      go_ret
      exact ⟨_, rfl, by rw [HR.out]; exact ho.mono (by omega), hbl⟩
end Go.Proofs.YtbennlajjfkdpaaGreatDoor
