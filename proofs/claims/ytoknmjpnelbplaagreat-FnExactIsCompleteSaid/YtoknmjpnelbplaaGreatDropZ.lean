/-
  A lead dropped: the reference's side, the case that drops; both sides told at once.
-/
import Derived.Test.YtoknmjpnelbplaaGreatDropS
set_option linter.unusedSimpArgs false
set_option linter.unusedVariables false
namespace Go.Proofs.YtoknmjpnelbplaaGreat
open Go.RowKit

attribute [local go_sem ↓] run_eqNode run_neNode run_mn2 run_mx2

set_option maxHeartbeats 8000000 in
set_option maxRecDepth 100000 in
theorem sDrop_yes_pos (vn : Value) (ns ls T D : List Pr) (b off k : Nat) (w : World) (hn : RP w vn ns) (hl : RP w (.slice (some ⟨b, off, none⟩) ls.length (k + 1)) ls) (h1 : ns.length ≤ 1048576) (h2 : ls.length ≤ 1048576) (hk : k < ls.length)
    (hw : winB ns ls = true) (hcl : ls.length ≤ k + 1) (hT : RP w (.slice (some ⟨b, off, none⟩) k (k + 1)) T) (hTl : Hid (T.length = k))
    (hD : RP w (.slice (some ⟨b, off, none⟩) 0 0) D) (hDl : Hid (D.length = 0)) :
    Calls Tryz.prog 169 #[.agg #[vn, .slice (some ⟨b, off, none⟩) ls.length (k + 1)], .int .i64 k] w (RetWB ns (T ++ D) true w) := by
  obtain ⟨j0, hj, jz0, jz1, jz2⟩ := info_parts infoLead
  have i1 : inB (k : Int) 0 ((ls.length : Int) - 1) = true := inB_true.2 (by omega)
  go_enter Tryz.func169, Tryz.ntmps169
  go_wp2_with fail
  refine (sCopy_any _ _ ns ls _ (hn.below (by (repeat' (first | (with_reducible exact Below.refl _ _) | (with_reducible assumption) | (with_reducible refine Below.drew ?_) | (with_reducible refine below_drewN ?_ _) | (with_reducible refine Below.alloc ?_ ?_ _) | (with_reducible refine Below.setCell ?_ ?_ _) | (with_reducible refine Below.step (by assumption) ?_ ?_))); all_goals (first | omega | (simp; done) | (simp; omega)))) (hl.below (by (repeat' (first | (with_reducible exact Below.refl _ _) | (with_reducible assumption) | (with_reducible refine Below.drew ?_) | (with_reducible refine below_drewN ?_ _) | (with_reducible refine Below.alloc ?_ ?_ _) | (with_reducible refine Below.setCell ?_ ?_ _) | (with_reducible refine Below.step (by assumption) ?_ ?_))); all_goals (first | omega | (simp; done) | (simp; omega)))) h1 h2).mono ?_
  rintro e w1 ⟨An1, cn1, Al1, cl1, rfl, ho1, hb1⟩
  have hz1 := hb1.size
  simp at hz1
  have ho1' : OwnW (w.heap.size + 1 + 1) w1 (.slice An1 ns.length cn1) (.slice Al1 ls.length cl1) ns ls := by simpa using ho1
  have hlt1 := ho1'.1.lt
  have hA1 : Blk w1 w.heap.size 38 #[vn, .slice (some ⟨b, off, none⟩) ls.length (k + 1)] := Blk.below ((Blk.newAt rfl).alloc _) hb1 (by first | omega | (simp; done) | (simp; omega))
  have hR1 : Blk w1 (w.heap.size + 1) 38 #[.slice none 0 0, .slice none 0 0] := Blk.below (Blk.newAt (by simp)) hb1 (by first | omega | (simp; done) | (simp; omega))
  have hbw1 : Below w.heap.size w w1 := by (repeat' (first | (with_reducible exact Below.refl _ _) | (with_reducible assumption) | (with_reducible refine Below.drew ?_) | (with_reducible refine below_drewN ?_ _) | (with_reducible refine Below.alloc ?_ ?_ _) | (with_reducible refine Below.setCell ?_ ?_ _) | (with_reducible refine Below.step (by assumption) ?_ ?_))); all_goals (first | omega | (simp; done) | (simp; omega))
  clear hb1 ho1
  have n1 : w.heap.size < w1.heap.size := by omega
  have n2 : w.heap.size + 1 < w1.heap.size := by omega
  (have a_0 := hA1.cell 0); (have a_1 := hA1.cell 1); simp only [List.getElem?_toArray, List.getElem?_cons_succ, List.getElem?_cons_zero] at a_0 a_1
  have hbs : Below w1.heap.size w1 (w1.alloc (.cells #[.slice An1 ns.length cn1, .slice Al1 ls.length cl1] 38)) := by (repeat' (first | (with_reducible exact Below.refl _ _) | (with_reducible assumption) | (with_reducible refine Below.drew ?_) | (with_reducible refine below_drewN ?_ _) | (with_reducible refine Below.alloc ?_ ?_ _) | (with_reducible refine Below.setCell ?_ ?_ _) | (with_reducible refine Below.step (by assumption) ?_ ?_))); all_goals (first | omega | (simp; done) | (simp; omega))
  have hbws : Below w.heap.size w (w1.alloc (.cells #[.slice An1 ns.length cn1, .slice Al1 ls.length cl1] 38)) := by (repeat' (first | (with_reducible exact Below.refl _ _) | (with_reducible assumption) | (with_reducible refine Below.drew ?_) | (with_reducible refine below_drewN ?_ _) | (with_reducible refine Below.alloc ?_ ?_ _) | (with_reducible refine Below.setCell ?_ ?_ _) | (with_reducible refine Below.step (by assumption) ?_ ?_))); all_goals (first | omega | (simp; done) | (simp; omega))
  go_wp2_with fail
  refine (sWinOk_at _ _ ns ls _ _ (hn.below hbws) (hl.below hbws) hw).mono ?_
  rintro e w2 ⟨rfl, hb2⟩; (first | (with_reducible have hcf2 := bcell_drew hb2) | have hcf2 := bcell hb2); obtain ⟨hc2, hf2⟩ := hcf2; have hz2 := hb2.size; (try simp at hz2); (try have hp2_0 : w.heap.size < w2.heap.size := by omega); (try have hp2_1 : w.heap.size + 1 < w2.heap.size := by omega); (try have hp2_2 : w.heap.size + 1 + 1 < w2.heap.size := by omega); (try have hp2_3 : w.heap.size + 1 + 1 + 1 < w2.heap.size := by omega)
  have hA2 := (hA1.alloc (.cells #[.slice An1 ns.length cn1, .slice Al1 ls.length cl1] 38)).below hb2 (by first | omega | (simp; done) | (simp; omega))
  have hb12 : Below w1.heap.size w1 w2 := hbs.trans (hb2.mono hbs.size)
  have hS2 : Blk w2 w1.heap.size 38 #[.slice An1 ns.length cn1, .slice Al1 ls.length cl1] := Blk.below (Blk.newAt rfl) hb2 (by first | omega | (simp; done) | (simp; omega))
  have hR2 := hR1.below hb12 n2
  have hon2 := ho1'.1.kept hb12
  have hbw2 : Below w.heap.size w w2 := hbw1.trans (hb12.mono hbw1.size)
  have n3 : w1.heap.size < w2.heap.size := hS2.lt
  clear hb2 hc2 hf2 hbs hbws hb12 hA1 hR1 ho1' hbw1 a_0 a_1 hz2
  (have a_0 := hA2.cell 0); (have a_1 := hA2.cell 1); simp only [List.getElem?_toArray, List.getElem?_cons_succ, List.getElem?_cons_zero] at a_0 a_1
  go_wp2_with fail
  refine (l01In_at _ _ _ _ _ i1).mono ?_
  rintro e w' ⟨rfl, rfl⟩
  have c1 : (k : Int) ≤ ((k + 1) : Int) := by omega
  have c2 : (0 : Int) ≤ (k : Int) := by omega
  have c3 : (k : Int) + 1 ≤ (ls.length : Int) := by omega
  have c4 : (ls.length : Int) ≤ ((k + 1) : Int) := by omega
  have c1' : (k : Int) ≤ (k : Int) + 1 := by omega
  have c4' : (ls.length : Int) ≤ (k : Int) + 1 := by omega
  have c5 : (0 : Int) ≤ (k : Int) + 1 := by omega
  have c6 : ((k : Int) + 1).toNat = k + 1 := by omega
  have hwr : IntKind.i64.wrap ((k : Int) + 1) = (k : Int) + 1 := IntWalk.i64_in _ (by omega)
  have p0 : w.heap.size < w2.heap.size := by omega
  have p1 : w.heap.size + 1 < w2.heap.size := by omega
  have hT2 := hT.below hbw2
  have hD2 := hD.below hbw2
  have HT2 := Lib.hid hT2
  have HD2 := Lib.hid hD2
  clear hT hD hT2 hD2
  (have s_0 := hS2.cell 0); (have s_1 := hS2.cell 1); simp only [List.getElem?_toArray, List.getElem?_cons_succ, List.getElem?_cons_zero] at s_0 s_1; (have s_f0 := hS2.frozen 0); (have s_f1 := hS2.frozen 1)
  have d1 : ¬ w1.heap.size = w.heap.size + 1 := by omega
  have d2 : ¬ w1.heap.size = w.heap.size := by omega
  go_wp2_with fail
  go_region_held3 (fun w' => w'.cell? ⟨w.heap.size, 0, none⟩ = some vn ∧ w'.cell? ⟨w.heap.size, 1, none⟩ = some (.slice (some ⟨b, off, none⟩) ls.length (k + 1)))
    (go_keep)
    (first | (refine step_append_pairs rfl _ _ _ rfl w2.heap.size 143 j0 Tryz.underlying36 hj jz0 jz1 jz2 (.slice (some ⟨w2.heap.size, 0, none⟩) 0 0) (.slice (some ⟨b, off, none⟩) k (k + 1)) [] T rfl rfl (OwnP.drew (OwnP.made rfl (Nat.le_refl _))) (RP.below HT2.out (by (repeat' (first | (with_reducible exact Below.refl _ _) | (with_reducible assumption) | (with_reducible refine Below.drew ?_) | (with_reducible refine below_drewN ?_ _) | (with_reducible refine Below.alloc ?_ ?_ _) | (with_reducible refine Below.setCell ?_ ?_ _) | (with_reducible refine Below.step (by assumption) ?_ ?_))); all_goals (first | omega | (simp; done) | (simp; omega)))) (by simp; have := hTl.out; omega) (by first | omega | (simp; done) | (simp; omega)) ?_; intro A3 c3' w3 ho3 hg3 ha3; (have hb3 := below_own0 (B := w2.heap.size) hg3 (by first | omega | (simp; done) | (simp; omega)) (by first | omega | (simp; done) | (simp; omega))); (have hc3 := fun (b o : Nat) (h : b < w2.heap.size) => hb3.cell (p := ⟨b, o, none⟩) h); (have hf3 := fun (b o : Nat) (h : b < w2.heap.size) => hb3.frozen (p := ⟨b, o, none⟩) h); (have hz3 := hb3.size); (try simp at hz3); (have hb23 : Below w2.heap.size w2 w3 := by refine Below.trans ?_ hb3; (repeat' (first | (with_reducible exact Below.refl _ _) | (with_reducible assumption) | (with_reducible refine Below.drew ?_) | (with_reducible refine below_drewN ?_ _) | (with_reducible refine Below.alloc ?_ ?_ _) | (with_reducible refine Below.setCell ?_ ?_ _) | (with_reducible refine Below.step (by assumption) ?_ ?_))); all_goals (first | omega | (simp; done) | (simp; omega))); (have p3 : w.heap.size < w3.heap.size := by omega); (have p3' : w.heap.size + 1 < w3.heap.size := by omega); (have p3'' : w1.heap.size < w3.heap.size := by omega); (have HO3 := Lib.hid ho3); clear hg3 ha3 ho3) | (refine step_append_pairs rfl _ _ _ rfl w2.heap.size 143 j0 Tryz.underlying36 hj jz0 jz1 jz2 (.slice A3 T.length c3') (.slice (some ⟨b, off, none⟩) 0 0) T D rfl rfl HO3.out (RP.below HD2.out hb23) (by have := hTl.out; have := hDl.out; omega) (by first | omega | (simp; done) | (simp; omega)) ?_; intro A4 c4' w4 ho4 hg4 ha4; (have hb34 : Below w2.heap.size w3 w4 := (Below.refl _ _).grown hg4 (by first | omega | (simp; done) | (simp; omega)) (fun k hk => (HO3.out.lt k hk).1)); (have hc4 := fun (b o : Nat) (h : b < w2.heap.size) => hb34.cell (p := ⟨b, o, none⟩) h); (have hf4 := fun (b o : Nat) (h : b < w2.heap.size) => hb34.frozen (p := ⟨b, o, none⟩) h); (have hz4 := hb34.size); (have p4 : w.heap.size < w4.heap.size := by omega); (have HO4 := Lib.hid ho4); clear hg4 ha4 ho4))
  have ho4 : OwnP 143 w2.heap.size w4 (.slice A4 (T ++ D).length c4') (T ++ D) := HO4.out
  rw [List.length_append] at ho4
  have hb24 : Below w2.heap.size w2 w4 := hb23.trans hb34
  have hon4 := hon2.kept hb24
  have hbw4 : Below w.heap.size w w4 := hbw2.trans (hb24.mono hbw2.size)
  have hR4 := hR2.below hb24 hR2.lt
  have hS4 := hS2.below hb24 hS2.lt
  have hoW4 : OwnW (w.heap.size + 1 + 1) w4 (.slice An1 ns.length cn1) (.slice A4 (T.length + D.length) c4') ns (T ++ D) :=
    ⟨hon4, ho4.mono (by omega), fun k hk hk2 => by have := (hlt1 k hk).2; have := (ho4.lt k hk2).1; omega⟩
  have hoW5 := hoW4.setFar (p := ⟨w1.heap.size, 1, none⟩) (by
    rintro (h | h)
    · exact absurd (hlt1 _ h).2 (Nat.lt_irrefl _)
    · have := (ho4.lt _ h).1
      have h' : w2.heap.size ≤ w1.heap.size := this
      omega) (.slice A4 (T.length + D.length) c4')
  have hbw5 := hbw4.setCell (p := ⟨w1.heap.size, 1, none⟩) (show w.heap.size ≤ w1.heap.size by omega) (.slice A4 (T.length + D.length) c4')
  have hS5 : Blk (w4.setCell ⟨w1.heap.size, 1, none⟩ (.slice A4 (T.length + D.length) c4')) w1.heap.size 38 #[.slice An1 ns.length cn1, .slice A4 (T.length + D.length) c4'] := hS4.set_ 1 _
  have hR5 := hR4.far (p := ⟨w1.heap.size, 1, none⟩) (show ¬ w.heap.size + 1 = w1.heap.size by omega) (.slice A4 (T.length + D.length) c4')
  have hO := Lib.hid (((hoW5.setLow (p := ⟨w.heap.size + 1, 0, none⟩) (show w.heap.size + 1 < w.heap.size + 1 + 1 by omega) (.slice An1 ns.length cn1)).setLow (p := ⟨w.heap.size + 1, 1, none⟩) (show w.heap.size + 1 < w.heap.size + 1 + 1 by omega) (.slice A4 (T.length + D.length) c4')).mono (show w.heap.size ≤ _ by omega))
  have HB := Lib.hid ((hbw5.setCell (p := ⟨w.heap.size + 1, 0, none⟩) (by first | omega | (simp; done) | (simp; omega)) (.slice An1 ns.length cn1)).setCell (p := ⟨w.heap.size + 1, 1, none⟩) (by first | omega | (simp; done) | (simp; omega)) (.slice A4 (T.length + D.length) c4'))
  have HLEN := Lib.hid (show T.length + D.length = (T ++ D).length by simp)
  clear hoW4 hoW5 hbw4 hbw5 hon2 hon4 ho4 HO3 HO4 hS2 hS4 hR2 hR4 s_0 s_1 s_f0 s_f1 a_0 a_1 hc3 hf3 hc4 hf4 hb23 hb34 hb24 hb3 hA2
  (have s_0 := hS5.cell 0); (have s_1 := hS5.cell 1); simp only [List.getElem?_toArray, List.getElem?_cons_succ, List.getElem?_cons_zero] at s_0 s_1; (have s_f0 := hS5.frozen 0); (have s_f1 := hS5.frozen 1)
  (have r_0 := hR5.cell 0); (have r_1 := hR5.cell 1); simp only [List.getElem?_toArray, List.getElem?_cons_succ, List.getElem?_cons_zero] at r_0 r_1; (have r_f0 := hR5.frozen 0); (have r_f1 := hR5.frozen 1)
  clear hS5 hR5
  generalize w4.setCell ⟨w1.heap.size, 1, none⟩ (.slice A4 (T.length + D.length) c4') = w5 at *
  generalize w1.heap.size = B1 at *
  go_wp2
  exact bodyPost_ret (v := .tuple #[.agg #[.slice An1 ns.length cn1, .slice A4 (T.length + D.length) c4'], .bool true]) (by simp [results, Tryz.results169, go_sem, r_0, r_1, s_0, s_1, d1]) rfl (RetWB.mk rfl rfl HLEN.out hO.out HB.out)

set_option maxHeartbeats 8000000 in
set_option maxRecDepth 100000 in
theorem sDrop_yes_neg (vn : Value) (ns ls T D : List Pr) (b off cl k : Nat) (w : World) (hn : RP w vn ns) (hl : RP w (.slice (some ⟨b, off, none⟩) ls.length cl) ls) (h1 : ns.length ≤ 1048576) (h2 : ls.length ≤ 1048576) (hk : k < ls.length)
    (hw : winB ns ls = true) (hcl : ls.length ≤ cl) (hck : ¬ cl = k + 1) (hT : RP w (.slice (some ⟨b, off, none⟩) k cl) T) (hTl : Hid (T.length = k))
    (hD : RP w (.slice (some ⟨b, off + (k + 1) * 2, none⟩) (ls.length - (k + 1)) (cl - (k + 1))) D) (hDl : Hid (D.length = ls.length - (k + 1))) :
    Calls Tryz.prog 169 #[.agg #[vn, .slice (some ⟨b, off, none⟩) ls.length cl], .int .i64 k] w (RetWB ns (T ++ D) true w) := by
  obtain ⟨j0, hj, jz0, jz1, jz2⟩ := info_parts infoLead
  have i1 : inB (k : Int) 0 ((ls.length : Int) - 1) = true := inB_true.2 (by omega)
  go_enter Tryz.func169, Tryz.ntmps169
  go_wp2_with fail
  refine (sCopy_any _ _ ns ls _ (hn.below (by (repeat' (first | (with_reducible exact Below.refl _ _) | (with_reducible assumption) | (with_reducible refine Below.drew ?_) | (with_reducible refine below_drewN ?_ _) | (with_reducible refine Below.alloc ?_ ?_ _) | (with_reducible refine Below.setCell ?_ ?_ _) | (with_reducible refine Below.step (by assumption) ?_ ?_))); all_goals (first | omega | (simp; done) | (simp; omega)))) (hl.below (by (repeat' (first | (with_reducible exact Below.refl _ _) | (with_reducible assumption) | (with_reducible refine Below.drew ?_) | (with_reducible refine below_drewN ?_ _) | (with_reducible refine Below.alloc ?_ ?_ _) | (with_reducible refine Below.setCell ?_ ?_ _) | (with_reducible refine Below.step (by assumption) ?_ ?_))); all_goals (first | omega | (simp; done) | (simp; omega)))) h1 h2).mono ?_
  rintro e w1 ⟨An1, cn1, Al1, cl1, rfl, ho1, hb1⟩
  have hz1 := hb1.size
  simp at hz1
  have ho1' : OwnW (w.heap.size + 1 + 1) w1 (.slice An1 ns.length cn1) (.slice Al1 ls.length cl1) ns ls := by simpa using ho1
  have hlt1 := ho1'.1.lt
  have hA1 : Blk w1 w.heap.size 38 #[vn, .slice (some ⟨b, off, none⟩) ls.length cl] := Blk.below ((Blk.newAt rfl).alloc _) hb1 (by first | omega | (simp; done) | (simp; omega))
  have hR1 : Blk w1 (w.heap.size + 1) 38 #[.slice none 0 0, .slice none 0 0] := Blk.below (Blk.newAt (by simp)) hb1 (by first | omega | (simp; done) | (simp; omega))
  have hbw1 : Below w.heap.size w w1 := by (repeat' (first | (with_reducible exact Below.refl _ _) | (with_reducible assumption) | (with_reducible refine Below.drew ?_) | (with_reducible refine below_drewN ?_ _) | (with_reducible refine Below.alloc ?_ ?_ _) | (with_reducible refine Below.setCell ?_ ?_ _) | (with_reducible refine Below.step (by assumption) ?_ ?_))); all_goals (first | omega | (simp; done) | (simp; omega))
  clear hb1 ho1
  have n1 : w.heap.size < w1.heap.size := by omega
  have n2 : w.heap.size + 1 < w1.heap.size := by omega
  (have a_0 := hA1.cell 0); (have a_1 := hA1.cell 1); simp only [List.getElem?_toArray, List.getElem?_cons_succ, List.getElem?_cons_zero] at a_0 a_1
  have hbs : Below w1.heap.size w1 (w1.alloc (.cells #[.slice An1 ns.length cn1, .slice Al1 ls.length cl1] 38)) := by (repeat' (first | (with_reducible exact Below.refl _ _) | (with_reducible assumption) | (with_reducible refine Below.drew ?_) | (with_reducible refine below_drewN ?_ _) | (with_reducible refine Below.alloc ?_ ?_ _) | (with_reducible refine Below.setCell ?_ ?_ _) | (with_reducible refine Below.step (by assumption) ?_ ?_))); all_goals (first | omega | (simp; done) | (simp; omega))
  have hbws : Below w.heap.size w (w1.alloc (.cells #[.slice An1 ns.length cn1, .slice Al1 ls.length cl1] 38)) := by (repeat' (first | (with_reducible exact Below.refl _ _) | (with_reducible assumption) | (with_reducible refine Below.drew ?_) | (with_reducible refine below_drewN ?_ _) | (with_reducible refine Below.alloc ?_ ?_ _) | (with_reducible refine Below.setCell ?_ ?_ _) | (with_reducible refine Below.step (by assumption) ?_ ?_))); all_goals (first | omega | (simp; done) | (simp; omega))
  go_wp2_with fail
  refine (sWinOk_at _ _ ns ls _ _ (hn.below hbws) (hl.below hbws) hw).mono ?_
  rintro e w2 ⟨rfl, hb2⟩; (first | (with_reducible have hcf2 := bcell_drew hb2) | have hcf2 := bcell hb2); obtain ⟨hc2, hf2⟩ := hcf2; have hz2 := hb2.size; (try simp at hz2); (try have hp2_0 : w.heap.size < w2.heap.size := by omega); (try have hp2_1 : w.heap.size + 1 < w2.heap.size := by omega); (try have hp2_2 : w.heap.size + 1 + 1 < w2.heap.size := by omega); (try have hp2_3 : w.heap.size + 1 + 1 + 1 < w2.heap.size := by omega)
  have hA2 := (hA1.alloc (.cells #[.slice An1 ns.length cn1, .slice Al1 ls.length cl1] 38)).below hb2 (by first | omega | (simp; done) | (simp; omega))
  have hb12 : Below w1.heap.size w1 w2 := hbs.trans (hb2.mono hbs.size)
  have hS2 : Blk w2 w1.heap.size 38 #[.slice An1 ns.length cn1, .slice Al1 ls.length cl1] := Blk.below (Blk.newAt rfl) hb2 (by first | omega | (simp; done) | (simp; omega))
  have hR2 := hR1.below hb12 n2
  have hon2 := ho1'.1.kept hb12
  have hbw2 : Below w.heap.size w w2 := hbw1.trans (hb12.mono hbw1.size)
  have n3 : w1.heap.size < w2.heap.size := hS2.lt
  clear hb2 hc2 hf2 hbs hbws hb12 hA1 hR1 ho1' hbw1 a_0 a_1 hz2
  (have a_0 := hA2.cell 0); (have a_1 := hA2.cell 1); simp only [List.getElem?_toArray, List.getElem?_cons_succ, List.getElem?_cons_zero] at a_0 a_1
  go_wp2_with fail
  refine (l01In_at _ _ _ _ _ i1).mono ?_
  rintro e w' ⟨rfl, rfl⟩
  have c1 : (k : Int) ≤ (cl : Int) := by omega
  have c2 : (0 : Int) ≤ (k : Int) := by omega
  have c3 : (k : Int) + 1 ≤ (ls.length : Int) := by omega
  have c4 : (ls.length : Int) ≤ (cl : Int) := by omega
  have c5 : (0 : Int) ≤ (k : Int) + 1 := by omega
  have c6 : ((k : Int) + 1).toNat = k + 1 := by omega
  have hwr : IntKind.i64.wrap ((k : Int) + 1) = (k : Int) + 1 := IntWalk.i64_in _ (by omega)
  have p0 : w.heap.size < w2.heap.size := by omega
  have p1 : w.heap.size + 1 < w2.heap.size := by omega
  have hT2 := hT.below hbw2
  have hD2 := hD.below hbw2
  have HT2 := Lib.hid hT2
  have HD2 := Lib.hid hD2
  clear hT hD hT2 hD2
  (have s_0 := hS2.cell 0); (have s_1 := hS2.cell 1); simp only [List.getElem?_toArray, List.getElem?_cons_succ, List.getElem?_cons_zero] at s_0 s_1; (have s_f0 := hS2.frozen 0); (have s_f1 := hS2.frozen 1)
  have d1 : ¬ w1.heap.size = w.heap.size + 1 := by omega
  have d2 : ¬ w1.heap.size = w.heap.size := by omega
  go_wp2_with fail
  go_region_held3 (fun w' => w'.cell? ⟨w.heap.size, 0, none⟩ = some vn ∧ w'.cell? ⟨w.heap.size, 1, none⟩ = some (.slice (some ⟨b, off, none⟩) ls.length (cl)))
    (go_keep)
    (first | (refine step_append_pairs rfl _ _ _ rfl w2.heap.size 143 j0 Tryz.underlying36 hj jz0 jz1 jz2 (.slice (some ⟨w2.heap.size, 0, none⟩) 0 0) (.slice (some ⟨b, off, none⟩) k (cl)) [] T rfl rfl (OwnP.drew (OwnP.made rfl (Nat.le_refl _))) (RP.below HT2.out (by (repeat' (first | (with_reducible exact Below.refl _ _) | (with_reducible assumption) | (with_reducible refine Below.drew ?_) | (with_reducible refine below_drewN ?_ _) | (with_reducible refine Below.alloc ?_ ?_ _) | (with_reducible refine Below.setCell ?_ ?_ _) | (with_reducible refine Below.step (by assumption) ?_ ?_))); all_goals (first | omega | (simp; done) | (simp; omega)))) (by simp; have := hTl.out; omega) (by first | omega | (simp; done) | (simp; omega)) ?_; intro A3 c3' w3 ho3 hg3 ha3; (have hb3 := below_own0 (B := w2.heap.size) hg3 (by first | omega | (simp; done) | (simp; omega)) (by first | omega | (simp; done) | (simp; omega))); (have hc3 := fun (b o : Nat) (h : b < w2.heap.size) => hb3.cell (p := ⟨b, o, none⟩) h); (have hf3 := fun (b o : Nat) (h : b < w2.heap.size) => hb3.frozen (p := ⟨b, o, none⟩) h); (have hz3 := hb3.size); (try simp at hz3); (have hb23 : Below w2.heap.size w2 w3 := by refine Below.trans ?_ hb3; (repeat' (first | (with_reducible exact Below.refl _ _) | (with_reducible assumption) | (with_reducible refine Below.drew ?_) | (with_reducible refine below_drewN ?_ _) | (with_reducible refine Below.alloc ?_ ?_ _) | (with_reducible refine Below.setCell ?_ ?_ _) | (with_reducible refine Below.step (by assumption) ?_ ?_))); all_goals (first | omega | (simp; done) | (simp; omega))); (have p3 : w.heap.size < w3.heap.size := by omega); (have p3' : w.heap.size + 1 < w3.heap.size := by omega); (have p3'' : w1.heap.size < w3.heap.size := by omega); (have HO3 := Lib.hid ho3); clear hg3 ha3 ho3) | (refine step_append_pairs rfl _ _ _ rfl w2.heap.size 143 j0 Tryz.underlying36 hj jz0 jz1 jz2 (.slice A3 T.length c3') (.slice (some ⟨b, off + (k + 1) * 2, none⟩) (ls.length - (k + 1)) (cl - (k + 1))) T D rfl rfl HO3.out (RP.below HD2.out hb23) (by have := hTl.out; have := hDl.out; omega) (by first | omega | (simp; done) | (simp; omega)) ?_; intro A4 c4' w4 ho4 hg4 ha4; (have hb34 : Below w2.heap.size w3 w4 := (Below.refl _ _).grown hg4 (by first | omega | (simp; done) | (simp; omega)) (fun k hk => (HO3.out.lt k hk).1)); (have hc4 := fun (b o : Nat) (h : b < w2.heap.size) => hb34.cell (p := ⟨b, o, none⟩) h); (have hf4 := fun (b o : Nat) (h : b < w2.heap.size) => hb34.frozen (p := ⟨b, o, none⟩) h); (have hz4 := hb34.size); (have p4 : w.heap.size < w4.heap.size := by omega); (have HO4 := Lib.hid ho4); clear hg4 ha4 ho4))
  have ho4 : OwnP 143 w2.heap.size w4 (.slice A4 (T ++ D).length c4') (T ++ D) := HO4.out
  rw [List.length_append] at ho4
  have hb24 : Below w2.heap.size w2 w4 := hb23.trans hb34
  have hon4 := hon2.kept hb24
  have hbw4 : Below w.heap.size w w4 := hbw2.trans (hb24.mono hbw2.size)
  have hR4 := hR2.below hb24 hR2.lt
  have hS4 := hS2.below hb24 hS2.lt
  have hoW4 : OwnW (w.heap.size + 1 + 1) w4 (.slice An1 ns.length cn1) (.slice A4 (T.length + D.length) c4') ns (T ++ D) :=
    ⟨hon4, ho4.mono (by omega), fun k hk hk2 => by have := (hlt1 k hk).2; have := (ho4.lt k hk2).1; omega⟩
  have hoW5 := hoW4.setFar (p := ⟨w1.heap.size, 1, none⟩) (by
    rintro (h | h)
    · exact absurd (hlt1 _ h).2 (Nat.lt_irrefl _)
    · have := (ho4.lt _ h).1
      have h' : w2.heap.size ≤ w1.heap.size := this
      omega) (.slice A4 (T.length + D.length) c4')
  have hbw5 := hbw4.setCell (p := ⟨w1.heap.size, 1, none⟩) (show w.heap.size ≤ w1.heap.size by omega) (.slice A4 (T.length + D.length) c4')
  have hS5 : Blk (w4.setCell ⟨w1.heap.size, 1, none⟩ (.slice A4 (T.length + D.length) c4')) w1.heap.size 38 #[.slice An1 ns.length cn1, .slice A4 (T.length + D.length) c4'] := hS4.set_ 1 _
  have hR5 := hR4.far (p := ⟨w1.heap.size, 1, none⟩) (show ¬ w.heap.size + 1 = w1.heap.size by omega) (.slice A4 (T.length + D.length) c4')
  have hO := Lib.hid (((hoW5.setLow (p := ⟨w.heap.size + 1, 0, none⟩) (show w.heap.size + 1 < w.heap.size + 1 + 1 by omega) (.slice An1 ns.length cn1)).setLow (p := ⟨w.heap.size + 1, 1, none⟩) (show w.heap.size + 1 < w.heap.size + 1 + 1 by omega) (.slice A4 (T.length + D.length) c4')).mono (show w.heap.size ≤ _ by omega))
  have HB := Lib.hid ((hbw5.setCell (p := ⟨w.heap.size + 1, 0, none⟩) (by first | omega | (simp; done) | (simp; omega)) (.slice An1 ns.length cn1)).setCell (p := ⟨w.heap.size + 1, 1, none⟩) (by first | omega | (simp; done) | (simp; omega)) (.slice A4 (T.length + D.length) c4'))
  have HLEN := Lib.hid (show T.length + D.length = (T ++ D).length by simp)
  clear hoW4 hoW5 hbw4 hbw5 hon2 hon4 ho4 HO3 HO4 hS2 hS4 hR2 hR4 s_0 s_1 s_f0 s_f1 a_0 a_1 hc3 hf3 hc4 hf4 hb23 hb34 hb24 hb3 hA2
  (have s_0 := hS5.cell 0); (have s_1 := hS5.cell 1); simp only [List.getElem?_toArray, List.getElem?_cons_succ, List.getElem?_cons_zero] at s_0 s_1; (have s_f0 := hS5.frozen 0); (have s_f1 := hS5.frozen 1)
  (have r_0 := hR5.cell 0); (have r_1 := hR5.cell 1); simp only [List.getElem?_toArray, List.getElem?_cons_succ, List.getElem?_cons_zero] at r_0 r_1; (have r_f0 := hR5.frozen 0); (have r_f1 := hR5.frozen 1)
  clear hS5 hR5
  generalize w4.setCell ⟨w1.heap.size, 1, none⟩ (.slice A4 (T.length + D.length) c4') = w5 at *
  generalize w1.heap.size = B1 at *
  go_wp2
  exact bodyPost_ret (v := .tuple #[.agg #[.slice An1 ns.length cn1, .slice A4 (T.length + D.length) c4'], .bool true]) (by simp [results, Tryz.results169, go_sem, r_0, r_1, s_0, s_1, d1]) rfl (RetWB.mk rfl rfl HLEN.out hO.out HB.out)

end Go.Proofs.YtoknmjpnelbplaaGreat
