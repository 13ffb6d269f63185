/- part 34 -/
import Derived.Test.YtbennlajjfkdpaaGreatDoorFPk32
set_option linter.unusedSimpArgs false
set_option linter.unusedVariables false
namespace Go.Proofs.YtbennlajjfkdpaaGreatDoor
open Go.RowKit
set_option maxHeartbeats 8000000 in
set_option maxRecDepth 100000 in
theorem iPaneN_any (vn vl : Value) (ns ls : List Pr) (f : Int) (w : World) (hn : RP w vn ns) (hl : RP w vl ls) :
    Calls Tryz.prog 24 #[.agg #[vn, vl], .int .i64 f] w (RetN (paneN ns ls f) w) := by
  have hba : Below w.heap.size w (w.alloc (.cells #[vn, vl] 31)) := by exact bel_
  have hWA : Blk (w.alloc (.cells #[vn, vl] 31)) w.heap.size 31 #[vn, vl] := Blk.newAt rfl
  have hfl := facesW_len ns ls
  have HFA := Lib.hid (fun (v : World) (hb : Below w.heap.size w v) => iFaces_any vn vl ns ls v (hn.below hb) (hl.below hb))
  obtain ⟨i0, hi, iz0, iz1, iz2⟩ := info_parts infoInt
  cases hin : inB f 0 (((facesW ns ls).length : Int) - 1)
  · have HR := Lib.hid (paneN_no (f := f) hin)
    generalize facesW ns ls = F at *
    have HIN := Lib.hid hin
    clear hin
    go_enter Tryz.func24, Tryz.ntmps24
    go_wp2_with fail
    refine (HFA.out _ hba).mono ?_
    rintro e w1 ⟨v1, rfl, ho1, hb1⟩
    obtain ⟨A1, c1, rfl⟩ := ho1.form
    have hbw1 := hba.trans (hb1.mono hba.size)
    go_wp2_with fail
    refine (within_at f 0 _ false _ HIN.out).mono ?_
    rintro e w' ⟨rfl, rfl⟩
    go_wp2
    go_ret
    exact ⟨_, rfl, by rw [HR.out]; exact OwnI.nil _ _, fun _ => rfl, hbw1⟩
  · obtain ⟨k, rfl⟩ : ∃ k : Nat, f = k := ⟨f.toNat, by have := inB_true.1 hin; omega⟩
    have hk : k < (facesW ns ls).length := by have := inB_true.1 hin; omega
    have HR := Lib.hid (paneN_yes hk)
    obtain ⟨hwin, hfe, hf0, hf40⟩ := facesW_at hk
    have hm20 := hwin.2.2.1
    generalize facesW ns ls = F at *
    generalize hff : F.getD k [] = ff at *
    have HFF := Lib.hid hff
    have HFE := Lib.hid hfe
    have HNS := Lib.hid (fun j hj => nodK_succ (ls := ls) (f := ff) (k := j) hj)
    have HNL := Lib.hid (fun j hj => nodK_len (ls := ls) (f := ff) (k := j) hj)
    have HN0 : Hid (nodK ls ff 0 = []) := Lib.hid rfl
    have HNF : Hid (nodF ls ff = nodK ls ff ff.length) := Lib.hid rfl
    have HFL := Lib.hid (nodF_len ls ff)
    have HIN := Lib.hid hin
    have hk1 : (k : Int) < (F.length : Int) := by omega
    have ik1 : (0 : Int) ≤ (k : Int) := by omega
    clear hin hwin hfe hff
    go_enter Tryz.func24, Tryz.ntmps24
    go_wp2_with fail
    refine (HFA.out _ hba).mono ?_
    rintro e w1 ⟨v1, rfl, ho1, hb1⟩
    have hbw1 := hba.trans (hb1.mono hba.size)
    have hW1 := hWA.below hb1 hWA.lt
    obtain ⟨b4, c1, rr, rfl, hc1, hB4, hb4, hcr, hrr⟩ := ho1.get hk
    rw [HFF.out] at hrr
    have hnl := natI_length ff
    obtain ⟨b5, c2, rfl, hc2, hB5, hb5, hcl5⟩ := hrr.blk (by omega)
    rw [hnl] at hcl5 hcr hc2
    have HCL5 := Lib.hid hcl5
    have hO1 : OwnI w1.heap.size w1 (.slice none 0 0) [] := OwnI.nil _ _
    clear hb1 hba hWA ho1 hcl5 hrr hB4 hB5 hnl
    go_wp2_with fail
    refine (within_at _ 0 _ true _ HIN.out).mono ?_
    rintro e w' ⟨rfl, rfl⟩
    have hW1l := hW1.lt
    go_wp2
    go_loopw [6, 22] (fun v x wr => ∃ j : Nat, j ≤ ff.length ∧ x = .int .i64 j ∧ OwnI w1.heap.size wr v (nodK ls ff j) ∧ Below w1.heap.size w1 wr) (fun _ x _ => ff.length - (intOf x).toNat)
    case atStart => exact ⟨0, Nat.zero_le _, rfl, by rw [HN0.out]; exact hO1, Below.refl _ _⟩
    case round =>
      clear hO1
      obtain ⟨j, hj, rfl, ho, hbl⟩ := hrel
      have hW := hW1.below hbl hW1l
      have hsz := hW.lt
      have hzz := hbl.size
      obtain ⟨a_0, a_1⟩ := hW.c2
      by_cases hlt : j < ff.length
      · have hlt1 : (j : Int) < (ff.length : Int) := by omega
        have ij1 : (0 : Int) ≤ (j : Int) := by omega
        have hx := (hbl.cell (p := ⟨b5, j, none⟩) hb5).trans (HCL5.out j hlt)
        rw [natI_get] at hx
        have hb52 : b5 < wr.heap.size := by omega
        have hem : ff.getD j 0 < 2 * ls.length := HFE.out _ (by rw [List.getD, List.getElem?_eq_getElem hlt]; exact List.getElem_mem hlt)
        have HS := Lib.hid (HNS.out j hlt)
        have hgl := HNL.out j hj
        generalize ff.getD j 0 = d at *
        have hlr : RP wr vl ls := hl.below (hbw1.trans (hbl.mono hbw1.size))
        go_wp2_with fail
        refine (iFrom_any _ _ ls d _ hlr hem).mono ?_
        rintro e w3 ⟨rfl, hb3⟩
        have ho3 := ho.kept hb3
        have hbl3 := hbl.trans (hb3.mono hbl.size)
        have hz3 := hb3.size
        generalize dFrom ls d = z at *
        generalize nodK ls ff j = G at *
        clear hb3 ho hW hbl hx hlr a_0 a_1
        go_wp2_with (at_builtin; refine wpList_append_i rfl _ _ rfl w1.heap.size _ G z rfl w3.heap.size rfl (cell_new1 rfl) (ho3.alloc _) (by omega) (by simp; omega) ?_)
        intro v2 w2 ho2 hg2 hw2
        have hbl2 : Below w1.heap.size w1 w2 := (hbl3.alloc hbl3.size (.cells #[.int .i64 z] 3)).grown hg2 (by simp; omega) (fun q hq => by have := (ho3.lt q hq).1; omega)
        clear hg2 hw2 ho3 hbl3
        go_wp2
        go_roundw
        case rel => exact ⟨j + 1, by omega, by go_num, by rw [HS.out]; exact ho2, hbl2⟩
        case measure => simp [intOf]; omega
      · have hjj : j = ff.length := by omega
        subst hjj
        have HF0 : Hid (ff.length = 0 → False) := Lib.hid (fun h => by omega)
        go_wp2
        go_ret
        exact ⟨_, rfl, by rw [HR.out, HNF.out]; exact ho.mono hbw1.size, fun h => (HF0.out (by rw [HR.out, HFL.out] at h; exact h)).elim, hbw1.trans (hbl.mono hbw1.size)⟩
end Go.Proofs.YtbennlajjfkdpaaGreatDoor
