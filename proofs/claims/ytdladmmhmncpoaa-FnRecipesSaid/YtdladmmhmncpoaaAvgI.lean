/-
  The average of recipes: the program's own.
-/
import Derived.Test.YtdladmmhmncpoaaAvg
set_option linter.unusedSimpArgs false
set_option linter.unusedVariables false
namespace Go.Proofs.Ytdladmmhmncpoaa
open Go.RowKit

set_option maxHeartbeats 4000000 in
theorem iAvg_any (v : Value) (l : List Rc) (w : World) (h : RR w v l) :
    Calls Try.prog 26 #[v] w fun e w' => e = .returned (avgV (avgF l)) ∧ Below w.heap.size w w' := by
  obtain ⟨A, c, rfl, hc, hm, hcell⟩ := h.form
  unfold maxLen at hm
  by_cases hz : l.length = 0
  · have hl : l = [] := List.eq_nil_of_length_eq_zero hz
    subst hl
    go_enter Try.func26, Try.ntmps26
    go_wp2
    exact bodyPost_ret (v := .tuple #[.agg #[.int .i64 0, .int .i64 0, .int .i64 0, .int .i64 0], .bool false]) (by simp [results, Try.results26, go_sem]) rfl ⟨by rfl, by (repeat (first | exact Below.refl _ _ | assumption | refine Below.drew ?_ | refine below_drewN ?_ _ | refine Below.alloc ?_ (by first | omega | (simp; done) | (simp; omega)) _ | refine Below.setCell ?_ (by first | omega | (simp; done) | (simp; omega)) _ | refine Below.step (by assumption) ?_ (by first | omega | (simp; done) | (simp; omega)) | refine Below.mark (by assumption) (by assumption) ?_ (by first | omega | (simp; done) | (simp; omega)) (by first | omega | (simp; done) | (simp; omega))))⟩
  · have hz2 : ((l.length : Int) == 0) = false := by rw [beq_eq_false_iff_ne]; omega
    cases hr : recipesB l
    · have HR := Lib.hid hr
      have HF : Hid (avgF l = (⟨0, 0, 0, 0⟩, false)) := Lib.hid (by simp [avgF, hr])
      clear hr hz
      go_enter Try.func26, Try.ntmps26
      go_wp2_with fail
      refine (iRecipes_any _ l _ (h.below ?_)).mono ?_
      · (repeat (first | exact Below.refl _ _ | assumption | refine Below.drew ?_ | refine below_drewN ?_ _ | refine Below.alloc ?_ (by first | omega | (simp; done) | (simp; omega)) _ | refine Below.setCell ?_ (by first | omega | (simp; done) | (simp; omega)) _ | refine Below.step (by assumption) ?_ (by first | omega | (simp; done) | (simp; omega)) | refine Below.mark (by assumption) (by assumption) ?_ (by first | omega | (simp; done) | (simp; omega)) (by first | omega | (simp; done) | (simp; omega))))
      rintro e w1 ⟨rfl, hb1⟩; (first | (with_reducible have hcf1 := bcell_drew hb1) | have hcf1 := bcell hb1); obtain ⟨hc1, hf1⟩ := hcf1; have hz1 := hb1.size; (try simp at hz1); (try have hp1_0 : w.heap.size < w1.heap.size := by omega); (try have hp1_1 : w.heap.size + 1 < w1.heap.size := by omega); (try have hp1_2 : w.heap.size + 2 < w1.heap.size := by omega)
      rw [HR.out]
      go_wp2
      rw [HF.out]
      exact bodyPost_ret (v := .tuple #[.agg #[.int .i64 0, .int .i64 0, .int .i64 0, .int .i64 0], .bool false]) (by simp [results, Try.results26, go_sem, hc1]) rfl ⟨by rfl, by (repeat (first | exact Below.refl _ _ | assumption | refine Below.drew ?_ | refine below_drewN ?_ _ | refine Below.alloc ?_ (by first | omega | (simp; done) | (simp; omega)) _ | refine Below.setCell ?_ (by first | omega | (simp; done) | (simp; omega)) _ | refine Below.step (by assumption) ?_ (by first | omega | (simp; done) | (simp; omega)) | refine Below.mark (by assumption) (by assumption) ?_ (by first | omega | (simp; done) | (simp; omega)) (by first | omega | (simp; done) | (simp; omega))))⟩
    · obtain ⟨h20, hbd⟩ := recipes_bd hr
      have HR := Lib.hid hr
      have HF : Hid (avgF l = (avgR l, true)) := Lib.hid (by simp [avgF, hr, hz])
      have HBD := Lib.hid hbd
      clear hr hbd
      go_enter Try.func26, Try.ntmps26
      go_wp2_with fail
      refine (iRecipes_any _ l _ (h.below ?_)).mono ?_
      · (repeat (first | exact Below.refl _ _ | assumption | refine Below.drew ?_ | refine below_drewN ?_ _ | refine Below.alloc ?_ (by first | omega | (simp; done) | (simp; omega)) _ | refine Below.setCell ?_ (by first | omega | (simp; done) | (simp; omega)) _ | refine Below.step (by assumption) ?_ (by first | omega | (simp; done) | (simp; omega)) | refine Below.mark (by assumption) (by assumption) ?_ (by first | omega | (simp; done) | (simp; omega)) (by first | omega | (simp; done) | (simp; omega))))
      rintro e w1 ⟨rfl, hb1⟩; (first | (with_reducible have hcf1 := bcell_drew hb1) | have hcf1 := bcell hb1); obtain ⟨hc1, hf1⟩ := hcf1; have hz1 := hb1.size; (try simp at hz1); (try have hp1_0 : w.heap.size < w1.heap.size := by omega); (try have hp1_1 : w.heap.size + 1 < w1.heap.size := by omega); (try have hp1_2 : w.heap.size + 2 < w1.heap.size := by omega)
      rw [HR.out]
      go_wp2
      go_loopw [20] (fun i wr => ∃ k : Nat, k ≤ l.length ∧ i = .int .i64 k ∧ Blk wr w1.heap.size 46 #[.int .i64 0, .int .i64 (sumF Rc.a (l.take k)), .int .i64 (sumF Rc.l (l.take k)), .int .i64 (sumF Rc.m (l.take k))] ∧ Below w1.heap.size w1 wr) (fun i _ => l.length - (intOf i).toNat)
      case atStart => exact ⟨0, Nat.zero_le _, rfl, Blk.new _ _ _, (Below.refl _ _).alloc (Nat.le_refl _) _⟩
      case round =>
        obtain ⟨k, hk, rfl, hB, hbl⟩ := hrel
        have hsz := hbl.size
        have hBl := hB.lt
        have nBl : ¬ w1.heap.size = wr.heap.size := by omega
        have x1 := hB.cell 1
        have x2 := hB.cell 2
        have x3 := hB.cell 3
        have f1 := hB.frozen 1
        have f2 := hB.frozen 2
        have f3 := hB.frozen 3
        simp only [List.getElem?_toArray, List.getElem?_cons_succ, List.getElem?_cons_zero] at x1 x2 x3
        obtain ⟨⟨s1, s2⟩, ⟨s3, s4⟩, ⟨s5, s6⟩⟩ := HBD.out k
        by_cases hlt : k < l.length
        · obtain ⟨b, off, rfl, hb, hcl⟩ := hcell (by omega)
          obtain ⟨k0, k1, k2, k3⟩ := hcl k hlt
          have hbw : b < w1.heap.size := by omega
          have hbr : b < wr.heap.size := by omega
          have hb0 : Below w.heap.size w wr := by (repeat (first | exact Below.refl _ _ | assumption | refine Below.drew ?_ | refine below_drewN ?_ _ | refine Below.alloc ?_ (by first | omega | (simp; done) | (simp; omega)) _ | refine Below.setCell ?_ (by first | omega | (simp; done) | (simp; omega)) _ | refine Below.step (by assumption) ?_ (by first | omega | (simp; done) | (simp; omega)) | refine Below.mark (by assumption) (by assumption) ?_ (by first | omega | (simp; done) | (simp; omega)) (by first | omega | (simp; done) | (simp; omega))))
          have q0 := (hb0.cell (p := ⟨b, off + k * 4, none⟩) hb).trans k0
          have q1 := (hb0.cell (p := ⟨b, off + k * 4 + 1, none⟩) hb).trans k1
          have q2 := (hb0.cell (p := ⟨b, off + k * 4 + 2, none⟩) hb).trans k2
          have q3 := (hb0.cell (p := ⟨b, off + k * 4 + 3, none⟩) hb).trans k3
          have hi1 : (0 : Int) ≤ (k : Int) := by omega
          have hi2 : (k : Int) < (l.length : Int) := by omega
          obtain ⟨⟨t1, t2⟩, ⟨t3, t4⟩, ⟨t5, t6⟩⟩ := HBD.out (k + 1)
          have S1 := sumF_succ Rc.a l k hlt
          have S2 := sumF_succ Rc.l l k hlt
          have S3 := sumF_succ Rc.m l k hlt
          rw [S1] at t1 t2
          rw [S2] at t3 t4
          rw [S3] at t5 t6
          have HS1 := Lib.hid S1
          have HS2 := Lib.hid S2
          have HS3 := Lib.hid S3
          clear S1 S2 S3 k0 k1 k2 k3 hcl hcell
          have ne1 : ¬ b = w1.heap.size := by omega
          have ne2 : ¬ w1.heap.size = b := by omega
          have hB' := (((hB.set_ 1 (.int .i64 (sumF Rc.a (l.take k) + l[k].a))).set_ 2 (.int .i64 (sumF Rc.l (l.take k) + l[k].l))).set_ 3 (.int .i64 (sumF Rc.m (l.take k) + l[k].m))).alloc (.cells #[.int .i64 l[k].s, .int .i64 l[k].a, .int .i64 l[k].l, .int .i64 l[k].m] 46)
          have hbl' := (((hbl.setCell (p := ⟨w1.heap.size, 1, none⟩) (Nat.le_refl _) (.int .i64 (sumF Rc.a (l.take k) + l[k].a))).setCell (p := ⟨w1.heap.size, 2, none⟩) (Nat.le_refl _) (.int .i64 (sumF Rc.l (l.take k) + l[k].l))).setCell (p := ⟨w1.heap.size, 3, none⟩) (Nat.le_refl _) (.int .i64 (sumF Rc.m (l.take k) + l[k].m))).alloc (by simpa [World.setCell] using hsz) (.cells #[.int .i64 l[k].s, .int .i64 l[k].a, .int .i64 l[k].l, .int .i64 l[k].m] 46)
          have HB := Lib.hid hB'
          have HBL := Lib.hid hbl'
          clear hB hB' hbl' hbl hb0 HBD h HR HF
          go_wp2
          go_roundw
          case rel => exact ⟨k + 1, by omega, by go_num, by rw [HS1.out, HS2.out, HS3.out]; exact HB.out, HBL.out⟩
          case measure => simp [intOf]; omega
        · have hkk : l.length ≤ k := by omega
          have htk : l.take k = l := List.take_of_length_le hkk
          rw [htk] at x1 x2 x3 s1 s2 s3 s4 s5 s6 hB
          have hBl := hB.lt
          have hR : Blk wr w.heap.size 46 #[.int .i64 0, .int .i64 0, .int .i64 0, .int .i64 0] := ((Blk.new w _ _).below hb1 (by simp)).below hbl (by omega)
          have r0 := hR.cell 0
          have r1 := hR.cell 1
          have r2 := hR.cell 2
          have r3 := hR.cell 3
          have g0 := hR.frozen 0
          have g1 := hR.frozen 1
          have g2 := hR.frozen 2
          have g3 := hR.frozen 3
          simp only [List.getElem?_toArray, List.getElem?_cons_succ, List.getElem?_cons_zero] at r0 r1 r2 r3
          have ne0 : ¬ w.heap.size = w1.heap.size := by omega
          have ne1 : w.heap.size < wr.heap.size := by omega
          clear hR
          have n1 : (0 : Int) < (l.length : Int) := by omega
          have hne : ¬ (l.length : Int) = 0 := by omega
          have d1 : 0 ≤ sumF Rc.a l / (l.length : Int) := Int.ediv_nonneg s1 (by omega)
          have d2 : sumF Rc.a l / (l.length : Int) ≤ 20000 := Int.le_trans (Int.ediv_le_self _ s1) s2
          have d3 : 0 ≤ sumF Rc.l l / (l.length : Int) := Int.ediv_nonneg s3 (by omega)
          have d4 : sumF Rc.l l / (l.length : Int) ≤ 20000 := Int.le_trans (Int.ediv_le_self _ s3) s4
          have d5 : 0 ≤ sumF Rc.m l / (l.length : Int) := Int.ediv_nonneg s5 (by omega)
          have d6 : sumF Rc.m l / (l.length : Int) ≤ 20000 := Int.le_trans (Int.ediv_le_self _ s5) s6
          have hv : Hid (avgV (avgF l) = .tuple #[.agg #[.int .i64 (1000 - sumF Rc.a l / (l.length : Int) - sumF Rc.l l / (l.length : Int) - sumF Rc.m l / (l.length : Int)), .int .i64 (sumF Rc.a l / (l.length : Int)), .int .i64 (sumF Rc.l l / (l.length : Int)), .int .i64 (sumF Rc.m l / (l.length : Int))], .bool true]) := Lib.hid (by rw [HF.out]; rfl)
          clear htk hB hcell HBD h HR
          generalize sumF Rc.a l = A1 at *
          generalize sumF Rc.l l = A2 at *
          generalize sumF Rc.m l = A3 at *
          go_wp2
          go_region
          all_goals go_wp2
          all_goals refine bodyPost_ret (v := .tuple #[.agg #[.int .i64 (1000 - A1 / (l.length : Int) - A2 / (l.length : Int) - A3 / (l.length : Int)), .int .i64 (A1 / (l.length : Int)), .int .i64 (A2 / (l.length : Int)), .int .i64 (A3 / (l.length : Int))], .bool true]) (by simp [results, Try.results26, go_sem, r0, r1, r2, r3, ne0, ne1]) rfl ⟨congrArg Ending.returned hv.out.symm, ?_⟩
          all_goals (repeat (first | exact Below.refl _ _ | assumption | refine Below.drew ?_ | refine below_drewN ?_ _ | refine Below.alloc ?_ (by first | omega | (simp; done) | (simp; omega)) _ | refine Below.setCell ?_ (by first | omega | (simp; done) | (simp; omega)) _ | refine Below.step (by assumption) ?_ (by first | omega | (simp; done) | (simp; omega)) | refine Below.mark (by assumption) (by assumption) ?_ (by first | omega | (simp; done) | (simp; omega)) (by first | omega | (simp; done) | (simp; omega))))

end Go.Proofs.Ytdladmmhmncpoaa
