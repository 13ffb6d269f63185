/-
  A lead dropped: the rest of the program's side, the reference's side.
-/
import Derived.Test.YtoknmjpnelbplaaGreatDrop
set_option linter.unusedSimpArgs false
set_option linter.unusedVariables false
namespace Go.Proofs.YtoknmjpnelbplaaGreat
open Go.RowKit

attribute [local go_sem ↓] run_eqNode run_neNode run_mn2 run_mx2

set_option maxHeartbeats 8000000 in
set_option maxRecDepth 100000 in
theorem iDrop_no (vn vl : Value) (ns ls : List Pr) (k : Int) (w : World) (hn : RP w vn ns) (hl : RP w vl ls) (h1 : ns.length ≤ 1048576) (h2 : ls.length ≤ 1048576) (hw : hasL ns ls k = false) :
    Calls Tryz.prog 183 #[.agg #[vn, vl], .int .i64 k] w (RetWB ns ls false w) := by
  go_enter Tryz.func183, Tryz.ntmps183
  go_wp2_with fail
  refine (iCopy_any _ _ ns ls _ (hn.below (by (repeat' (first | (with_reducible exact Below.refl _ _) | (with_reducible assumption) | (with_reducible refine Below.drew ?_) | (with_reducible refine below_drewN ?_ _) | (with_reducible refine Below.alloc ?_ ?_ _) | (with_reducible refine Below.setCell ?_ ?_ _) | (with_reducible refine Below.step (by assumption) ?_ ?_))); all_goals (first | omega | (simp; done) | (simp; omega)))) (hl.below (by (repeat' (first | (with_reducible exact Below.refl _ _) | (with_reducible assumption) | (with_reducible refine Below.drew ?_) | (with_reducible refine below_drewN ?_ _) | (with_reducible refine Below.alloc ?_ ?_ _) | (with_reducible refine Below.setCell ?_ ?_ _) | (with_reducible refine Below.step (by assumption) ?_ ?_))); all_goals (first | omega | (simp; done) | (simp; omega)))) h1 h2).mono ?_
  rintro e w1 ⟨An1, cn1, Al1, cl1, rfl, ho1, hb1⟩
  have hz1 := hb1.size
  simp at hz1
  have ho1' : OwnW (w.heap.size + 1 + 1) w1 (.slice An1 ns.length cn1) (.slice Al1 ls.length cl1) ns ls := by simpa using ho1
  have hA1 : Blk w1 w.heap.size 38 #[vn, vl] := Blk.below ((Blk.newAt rfl).alloc _) hb1 (by first | omega | (simp; done) | (simp; omega))
  have hR1 : Blk w1 (w.heap.size + 1) 38 #[.slice none 0 0, .slice none 0 0] := Blk.below (Blk.newAt (by simp)) hb1 (by first | omega | (simp; done) | (simp; omega))
  have hbw1 : Below w.heap.size w w1 := by (repeat' (first | (with_reducible exact Below.refl _ _) | (with_reducible assumption) | (with_reducible refine Below.drew ?_) | (with_reducible refine below_drewN ?_ _) | (with_reducible refine Below.alloc ?_ ?_ _) | (with_reducible refine Below.setCell ?_ ?_ _) | (with_reducible refine Below.step (by assumption) ?_ ?_))); all_goals (first | omega | (simp; done) | (simp; omega))
  clear hb1 ho1
  have n1 : w.heap.size < w1.heap.size := by omega
  have n2 : w.heap.size + 1 < w1.heap.size := by omega
  (have a_0 := hA1.cell 0); (have a_1 := hA1.cell 1); simp only [List.getElem?_toArray, List.getElem?_cons_succ, List.getElem?_cons_zero] at a_0 a_1
  have hbs : Below w1.heap.size w1 (w1.alloc (.cells #[.slice An1 ns.length cn1, .slice Al1 ls.length cl1] 38)) := by (repeat' (first | (with_reducible exact Below.refl _ _) | (with_reducible assumption) | (with_reducible refine Below.drew ?_) | (with_reducible refine below_drewN ?_ _) | (with_reducible refine Below.alloc ?_ ?_ _) | (with_reducible refine Below.setCell ?_ ?_ _) | (with_reducible refine Below.step (by assumption) ?_ ?_))); all_goals (first | omega | (simp; done) | (simp; omega))
  have hbws : Below w.heap.size w (w1.alloc (.cells #[.slice An1 ns.length cn1, .slice Al1 ls.length cl1] 38)) := by (repeat' (first | (with_reducible exact Below.refl _ _) | (with_reducible assumption) | (with_reducible refine Below.drew ?_) | (with_reducible refine below_drewN ?_ _) | (with_reducible refine Below.alloc ?_ ?_ _) | (with_reducible refine Below.setCell ?_ ?_ _) | (with_reducible refine Below.step (by assumption) ?_ ?_))); all_goals (first | omega | (simp; done) | (simp; omega))
  go_wp2_with fail
  refine (iHasLead_at _ _ ns ls _ _ _ (hn.below hbws) (hl.below hbws) hw).mono ?_
  rintro e w2 ⟨rfl, hb2⟩; (first | (with_reducible have hcf2 := bcell_drew hb2) | have hcf2 := bcell hb2); obtain ⟨hc2, hf2⟩ := hcf2; have hz2 := hb2.size; (try simp at hz2); (try have hp2_0 : w.heap.size < w2.heap.size := by omega); (try have hp2_1 : w.heap.size + 1 < w2.heap.size := by omega); (try have hp2_2 : w.heap.size + 1 + 1 < w2.heap.size := by omega); (try have hp2_3 : w.heap.size + 1 + 1 + 1 < w2.heap.size := by omega)
  have hb12 : Below w1.heap.size w1 w2 := hbs.trans (hb2.mono hbs.size)
  have hS2 : Blk w2 w1.heap.size 38 #[.slice An1 ns.length cn1, .slice Al1 ls.length cl1] := Blk.below (Blk.newAt rfl) hb2 (by first | omega | (simp; done) | (simp; omega))
  have hR2 := hR1.below hb12 n2
  have ho2 := ho1'.kept hb12
  have hbw2 : Below w.heap.size w w2 := hbw1.trans (hb12.mono hbw1.size)
  clear hb2 hc2 hf2 hbs hbws hb12 hA1 hR1 ho1' hbw1 a_0 a_1
  (have s_0 := hS2.cell 0); (have s_1 := hS2.cell 1); simp only [List.getElem?_toArray, List.getElem?_cons_succ, List.getElem?_cons_zero] at s_0 s_1; (have s_f0 := hS2.frozen 0); (have s_f1 := hS2.frozen 1)
  (have r_0 := hR2.cell 0); (have r_1 := hR2.cell 1); simp only [List.getElem?_toArray, List.getElem?_cons_succ, List.getElem?_cons_zero] at r_0 r_1; (have r_f0 := hR2.frozen 0); (have r_f1 := hR2.frozen 1)
  have hne : ¬ w1.heap.size = w.heap.size + 1 := by omega
  have hO := Lib.hid (((ho2.setLow (p := ⟨w.heap.size + 1, 0, none⟩) (by first | omega | (simp; done) | (simp; omega)) (.slice An1 ns.length cn1)).setLow (p := ⟨w.heap.size + 1, 1, none⟩) (by first | omega | (simp; done) | (simp; omega)) (.slice Al1 ls.length cl1)).mono (show w.heap.size ≤ _ by omega))
  have HB := Lib.hid ((hbw2.setCell (p := ⟨w.heap.size + 1, 0, none⟩) (by first | omega | (simp; done) | (simp; omega)) (.slice An1 ns.length cn1)).setCell (p := ⟨w.heap.size + 1, 1, none⟩) (by first | omega | (simp; done) | (simp; omega)) (.slice Al1 ls.length cl1))
  clear ho2 hbw2
  generalize w1.heap.size = B1 at *
  go_wp2
  exact bodyPost_ret (v := .tuple #[.agg #[.slice An1 ns.length cn1, .slice Al1 ls.length cl1], .bool false]) (by simp [results, Tryz.results183, go_sem, r_0, r_1, s_0, s_1]) rfl ⟨_, _, _, _, rfl, hO.out, HB.out⟩

theorem RP.drop {w : World} {b off n c : Nat} {l : List (Int × Int)} (h : RP w (.slice (some ⟨b, off, none⟩) n c) l) (k : Nat) (hk : k ≤ l.length) :
    RP w (.slice (if c = k then some ⟨b, off, none⟩ else some ⟨b, off + k * 2, none⟩) (l.length - k) (c - k)) (l.drop k) := by
  obtain ⟨h0, A', c', hv, h1, h2, h3⟩ := h
  cases hv
  have hlen : (l.drop k).length = l.length - k := by simp
  by_cases hck : c = k
  · rw [if_pos hck]
    exact ⟨flat_len prc 2 (fun _ => rfl) _, _, _, by rw [hlen], by omega, by omega, fun hn => by omega⟩
  · rw [if_neg hck]
    refine ⟨flat_len prc 2 (fun _ => rfl) _, _, _, by rw [hlen], by omega, by omega, fun hn => ?_⟩
    obtain ⟨b', off', e1, e2, e3⟩ := h3 (by omega)
    cases e1
    refine ⟨b, off + k * 2, rfl, e2, fun j u hu => ?_⟩
    have := e3 (k * 2 + j) u (by rw [← hu, drop_flat, List.getElem?_drop])
    rw [← Nat.add_assoc] at this
    exact this

set_option maxHeartbeats 8000000 in
set_option maxRecDepth 100000 in
theorem sDrop_no (vn vl : Value) (ns ls : List Pr) (k : Int) (w : World) (hn : RP w vn ns) (hl : RP w vl ls) (h1 : ns.length ≤ 1048576) (h2 : ls.length ≤ 1048576) (hw : hasL ns ls k = false) :
    Calls Tryz.prog 169 #[.agg #[vn, vl], .int .i64 k] w (RetWB ns ls false w) := by
  obtain ⟨Al, cl, rfl, hcl, hml, _⟩ := hl.formI
  unfold maxLen at hml
  have HW := Lib.hid hw
  clear hw
  go_enter Tryz.func169, Tryz.ntmps169
  go_wp2_with fail
  refine (sCopy_any _ _ ns ls _ (hn.below (by (repeat' (first | (with_reducible exact Below.refl _ _) | (with_reducible assumption) | (with_reducible refine Below.drew ?_) | (with_reducible refine below_drewN ?_ _) | (with_reducible refine Below.alloc ?_ ?_ _) | (with_reducible refine Below.setCell ?_ ?_ _) | (with_reducible refine Below.step (by assumption) ?_ ?_))); all_goals (first | omega | (simp; done) | (simp; omega)))) (hl.below (by (repeat' (first | (with_reducible exact Below.refl _ _) | (with_reducible assumption) | (with_reducible refine Below.drew ?_) | (with_reducible refine below_drewN ?_ _) | (with_reducible refine Below.alloc ?_ ?_ _) | (with_reducible refine Below.setCell ?_ ?_ _) | (with_reducible refine Below.step (by assumption) ?_ ?_))); all_goals (first | omega | (simp; done) | (simp; omega)))) h1 h2).mono ?_
  rintro e w1 ⟨An1, cn1, Al1, cl1, rfl, ho1, hb1⟩
  have hz1 := hb1.size
  simp at hz1
  have ho1' : OwnW (w.heap.size + 1 + 1) w1 (.slice An1 ns.length cn1) (.slice Al1 ls.length cl1) ns ls := by simpa using ho1
  have hA1 : Blk w1 w.heap.size 38 #[vn, .slice Al ls.length cl] := Blk.below ((Blk.newAt rfl).alloc _) hb1 (by first | omega | (simp; done) | (simp; omega))
  have hR1 : Blk w1 (w.heap.size + 1) 38 #[.slice none 0 0, .slice none 0 0] := Blk.below (Blk.newAt (by simp)) hb1 (by first | omega | (simp; done) | (simp; omega))
  have hbw1 : Below w.heap.size w w1 := by (repeat' (first | (with_reducible exact Below.refl _ _) | (with_reducible assumption) | (with_reducible refine Below.drew ?_) | (with_reducible refine below_drewN ?_ _) | (with_reducible refine Below.alloc ?_ ?_ _) | (with_reducible refine Below.setCell ?_ ?_ _) | (with_reducible refine Below.step (by assumption) ?_ ?_))); all_goals (first | omega | (simp; done) | (simp; omega))
  clear hb1 ho1
  have n1 : w.heap.size < w1.heap.size := by omega
  have n2 : w.heap.size + 1 < w1.heap.size := by omega
  (have a_0 := hA1.cell 0); (have a_1 := hA1.cell 1); simp only [List.getElem?_toArray, List.getElem?_cons_succ, List.getElem?_cons_zero] at a_0 a_1
  have hbs : Below w1.heap.size w1 (w1.alloc (.cells #[.slice An1 ns.length cn1, .slice Al1 ls.length cl1] 38)) := by (repeat' (first | (with_reducible exact Below.refl _ _) | (with_reducible assumption) | (with_reducible refine Below.drew ?_) | (with_reducible refine below_drewN ?_ _) | (with_reducible refine Below.alloc ?_ ?_ _) | (with_reducible refine Below.setCell ?_ ?_ _) | (with_reducible refine Below.step (by assumption) ?_ ?_))); all_goals (first | omega | (simp; done) | (simp; omega))
  have hbws : Below w.heap.size w (w1.alloc (.cells #[.slice An1 ns.length cn1, .slice Al1 ls.length cl1] 38)) := by (repeat' (first | (with_reducible exact Below.refl _ _) | (with_reducible assumption) | (with_reducible refine Below.drew ?_) | (with_reducible refine below_drewN ?_ _) | (with_reducible refine Below.alloc ?_ ?_ _) | (with_reducible refine Below.setCell ?_ ?_ _) | (with_reducible refine Below.step (by assumption) ?_ ?_))); all_goals (first | omega | (simp; done) | (simp; omega))
  cases hw : winB ns ls
  · go_wp2_with fail
    refine (sWinOk_at _ _ ns ls _ _ (hn.below hbws) (hl.below hbws) hw).mono ?_
    rintro e w2 ⟨rfl, hb2⟩; (first | (with_reducible have hcf2 := bcell_drew hb2) | have hcf2 := bcell hb2); obtain ⟨hc2, hf2⟩ := hcf2; have hz2 := hb2.size; (try simp at hz2); (try have hp2_0 : w.heap.size < w2.heap.size := by omega); (try have hp2_1 : w.heap.size + 1 < w2.heap.size := by omega); (try have hp2_2 : w.heap.size + 1 + 1 < w2.heap.size := by omega); (try have hp2_3 : w.heap.size + 1 + 1 + 1 < w2.heap.size := by omega)
    have hb12 : Below w1.heap.size w1 w2 := hbs.trans (hb2.mono hbs.size)
    have hS2 : Blk w2 w1.heap.size 38 #[.slice An1 ns.length cn1, .slice Al1 ls.length cl1] := Blk.below (Blk.newAt rfl) hb2 (by first | omega | (simp; done) | (simp; omega))
    have hR2 := hR1.below hb12 n2
    have ho2 := ho1'.kept hb12
    have hbw2 : Below w.heap.size w w2 := hbw1.trans (hb12.mono hbw1.size)
    clear hb2 hc2 hf2 hbs hbws hb12 hA1 hR1 ho1' hbw1 a_0 a_1
    (have s_0 := hS2.cell 0); (have s_1 := hS2.cell 1); simp only [List.getElem?_toArray, List.getElem?_cons_succ, List.getElem?_cons_zero] at s_0 s_1; (have s_f0 := hS2.frozen 0); (have s_f1 := hS2.frozen 1)
    (have r_0 := hR2.cell 0); (have r_1 := hR2.cell 1); simp only [List.getElem?_toArray, List.getElem?_cons_succ, List.getElem?_cons_zero] at r_0 r_1; (have r_f0 := hR2.frozen 0); (have r_f1 := hR2.frozen 1)
    have hne : ¬ w1.heap.size = w.heap.size + 1 := by omega
    have hO := Lib.hid (((ho2.setLow (p := ⟨w.heap.size + 1, 0, none⟩) (by first | omega | (simp; done) | (simp; omega)) (.slice An1 ns.length cn1)).setLow (p := ⟨w.heap.size + 1, 1, none⟩) (by first | omega | (simp; done) | (simp; omega)) (.slice Al1 ls.length cl1)).mono (show w.heap.size ≤ _ by omega))
    have HB := Lib.hid ((hbw2.setCell (p := ⟨w.heap.size + 1, 0, none⟩) (by first | omega | (simp; done) | (simp; omega)) (.slice An1 ns.length cn1)).setCell (p := ⟨w.heap.size + 1, 1, none⟩) (by first | omega | (simp; done) | (simp; omega)) (.slice Al1 ls.length cl1))
    clear ho2 hbw2
    generalize w1.heap.size = B1 at *
    go_wp2
    exact bodyPost_ret (v := .tuple #[.agg #[.slice An1 ns.length cn1, .slice Al1 ls.length cl1], .bool false]) (by simp [results, Tryz.results169, go_sem, r_0, r_1, s_0, s_1]) rfl ⟨_, _, _, _, rfl, hO.out, HB.out⟩
  · have i1 : inB k 0 ((ls.length : Int) - 1) = false := by
      have := HW.out
      unfold hasL at this
      rw [hw] at this
      simpa using this
    go_wp2_with fail
    refine (sWinOk_at _ _ ns ls _ _ (hn.below hbws) (hl.below hbws) hw).mono ?_
    rintro e w2 ⟨rfl, hb2⟩; (first | (with_reducible have hcf2 := bcell_drew hb2) | have hcf2 := bcell hb2); obtain ⟨hc2, hf2⟩ := hcf2; have hz2 := hb2.size; (try simp at hz2); (try have hp2_0 : w.heap.size < w2.heap.size := by omega); (try have hp2_1 : w.heap.size + 1 < w2.heap.size := by omega); (try have hp2_2 : w.heap.size + 1 + 1 < w2.heap.size := by omega); (try have hp2_3 : w.heap.size + 1 + 1 + 1 < w2.heap.size := by omega)
    have hA2 := (hA1.alloc (.cells #[.slice An1 ns.length cn1, .slice Al1 ls.length cl1] 38)).below hb2 (by first | omega | (simp; done) | (simp; omega))
    (have b_0 := hA2.cell 0); (have b_1 := hA2.cell 1); simp only [List.getElem?_toArray, List.getElem?_cons_succ, List.getElem?_cons_zero] at b_0 b_1
    go_wp2_with fail
    refine (l01In_at _ _ _ _ _ i1).mono ?_
    rintro e w' ⟨rfl, rfl⟩
    clear hA2 b_0 b_1
    have hb12 : Below w1.heap.size w1 w2 := hbs.trans (hb2.mono hbs.size)
    have hS2 : Blk w2 w1.heap.size 38 #[.slice An1 ns.length cn1, .slice Al1 ls.length cl1] := Blk.below (Blk.newAt rfl) hb2 (by first | omega | (simp; done) | (simp; omega))
    have hR2 := hR1.below hb12 n2
    have ho2 := ho1'.kept hb12
    have hbw2 : Below w.heap.size w w2 := hbw1.trans (hb12.mono hbw1.size)
    clear hb2 hc2 hf2 hbs hbws hb12 hA1 hR1 ho1' hbw1 a_0 a_1
    (have s_0 := hS2.cell 0); (have s_1 := hS2.cell 1); simp only [List.getElem?_toArray, List.getElem?_cons_succ, List.getElem?_cons_zero] at s_0 s_1; (have s_f0 := hS2.frozen 0); (have s_f1 := hS2.frozen 1)
    (have r_0 := hR2.cell 0); (have r_1 := hR2.cell 1); simp only [List.getElem?_toArray, List.getElem?_cons_succ, List.getElem?_cons_zero] at r_0 r_1; (have r_f0 := hR2.frozen 0); (have r_f1 := hR2.frozen 1)
    have hne : ¬ w1.heap.size = w.heap.size + 1 := by omega
    have hO := Lib.hid (((ho2.setLow (p := ⟨w.heap.size + 1, 0, none⟩) (by first | omega | (simp; done) | (simp; omega)) (.slice An1 ns.length cn1)).setLow (p := ⟨w.heap.size + 1, 1, none⟩) (by first | omega | (simp; done) | (simp; omega)) (.slice Al1 ls.length cl1)).mono (show w.heap.size ≤ _ by omega))
    have HB := Lib.hid ((hbw2.setCell (p := ⟨w.heap.size + 1, 0, none⟩) (by first | omega | (simp; done) | (simp; omega)) (.slice An1 ns.length cn1)).setCell (p := ⟨w.heap.size + 1, 1, none⟩) (by first | omega | (simp; done) | (simp; omega)) (.slice Al1 ls.length cl1))
    clear ho2 hbw2
    generalize w1.heap.size = B1 at *
    go_wp2
    exact bodyPost_ret (v := .tuple #[.agg #[.slice An1 ns.length cn1, .slice Al1 ls.length cl1], .bool false]) (by simp [results, Tryz.results169, go_sem, r_0, r_1, s_0, s_1]) rfl ⟨_, _, _, _, rfl, hO.out, HB.out⟩

end Go.Proofs.YtoknmjpnelbplaaGreat
