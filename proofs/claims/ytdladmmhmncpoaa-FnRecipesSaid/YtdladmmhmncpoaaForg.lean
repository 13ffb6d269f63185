/-
  Is a recipe forged?
-/
import Derived.Test.YtdladmmhmncpoaaNearI
set_option linter.unusedSimpArgs false
set_option linter.unusedVariables false
namespace Go.Proofs.Ytdladmmhmncpoaa
open Go.RowKit

def forgedF (l : List Rc) (r : Rc) (lim : Int) : Bool := decide (0 ≤ nearF l r) && inB lim 0 2000 && decide (lim < (l.getD (nearF l r).toNat ⟨0, 0, 0, 0⟩).dist r)

theorem forged_no1 {l : List Rc} {r : Rc} {lim : Int} (h : nearF l r < 0) : forgedF l r lim = false := by simp [forgedF]; omega

theorem forged_no2 {l : List Rc} {r : Rc} {lim : Int} (h : inB lim 0 2000 = false) : forgedF l r lim = false := by simp [forgedF, h]

theorem forged_yes {l : List Rc} {r : Rc} {lim : Int} {m : Nat} (hm : nearF l r = m) (hl : m < l.length) (h : inB lim 0 2000 = true) : forgedF l r lim = decide (lim < l[m].dist r) := by
  have e : l.getD m ⟨0, 0, 0, 0⟩ = l[m] := by simp [List.getD, List.getElem?_eq_getElem hl]
  unfold forgedF
  rw [hm, h, Int.toNat_natCast, e]
  simp

theorem nearF_bd (l : List Rc) (r : Rc) : nearF l r < l.length ∨ nearF l r = -1 := by
  unfold nearF
  split
  · exact .inl (nearK_bd l r l.length).2.2
  · exact .inr rfl

theorem within_q (n lo hi : Int) (b : Bool) (w : World) (h : Hid (inB n lo hi = b)) :
    Calls Try.prog 72 #[.int .i64 n, .int .i64 lo, .int .i64 hi] w fun e w' => e = .returned (.bool b) ∧ w' = w :=
  (within_any n lo hi w).mono fun _ _ ⟨he, hw⟩ => ⟨he.trans (ret_bool h.out), hw.symm⟩

theorem l01In_q (n lo hi : Int) (b : Bool) (w : World) (h : Hid (inB n lo hi = b)) :
    Calls Try.prog 62 #[.int .i64 n, .int .i64 lo, .int .i64 hi] w fun e w' => e = .returned (.bool b) ∧ w' = w :=
  (l01In_any n lo hi w).mono fun _ _ ⟨he, hw⟩ => ⟨he.trans (ret_bool h.out), hw.symm⟩



set_option maxHeartbeats 4000000 in
set_option maxRecDepth 100000 in
theorem iForged_any (v : Value) (l : List Rc) (s a b c lim : Int) (w : World) (h : RR w v l) :
    Calls Try.prog 29 #[v, .agg #[.int .i64 s, .int .i64 a, .int .i64 b, .int .i64 c], .int .i64 lim] w fun e w' => e = .returned (.bool (forgedF l ⟨s, a, b, c⟩ lim)) ∧ Below w.heap.size w w' := by
  obtain ⟨A, cp, rfl, hc, hm, hcell⟩ := h.form
  unfold maxLen at hm
  have hlt1 : w.heap.size < w.heap.size + 1 := by omega
  rcases Int.lt_or_le (nearF l ⟨s, a, b, c⟩) 0 with hneg | hpos
  · have HF := Lib.hid (forged_no1 (lim := lim) hneg)
    have hd : decide (0 ≤ nearF l ⟨s, a, b, c⟩) = false := by simpa using hneg
    generalize hq : nearF l ⟨s, a, b, c⟩ = q at hneg hd
    have HQ := Lib.hid hq
    clear hq hcell
    go_enter Try.func29, Try.ntmps29
    go_wp2_with fail
    refine (iNear_any _ l _ _ _ _ _ (h.below (by (repeat (first | exact Below.refl _ _ | assumption | refine Below.drew ?_ | refine below_drewN ?_ _ | refine Below.alloc ?_ (by first | omega | (simp; done) | (simp; omega)) _ | refine Below.setCell ?_ (by first | omega | (simp; done) | (simp; omega)) _ | refine Below.step (by assumption) ?_ (by first | omega | (simp; done) | (simp; omega)) | refine Below.mark (by assumption) (by assumption) ?_ (by first | omega | (simp; done) | (simp; omega)) (by first | omega | (simp; done) | (simp; omega))))))).mono ?_
    rintro e w1 ⟨rfl, hb1⟩; (first | (with_reducible have hcf1 := bcell_drew hb1) | have hcf1 := bcell hb1); obtain ⟨hc1, hf1⟩ := hcf1; have hz1 := hb1.size; (try simp at hz1); (try have hp1_0 : w.heap.size < w1.heap.size := by omega); (try have hp1_1 : w.heap.size + 1 < w1.heap.size := by omega); (try have hp1_2 : w.heap.size + 2 < w1.heap.size := by omega)
    rw [HQ.out]
    go_wp2
    go_quiet (fail)
    go_wp2
    go_ret
    exact ⟨ret_bool HF.out.symm, by (repeat (first | exact Below.refl _ _ | assumption | refine Below.drew ?_ | refine below_drewN ?_ _ | refine Below.alloc ?_ (by first | omega | (simp; done) | (simp; omega)) _ | refine Below.setCell ?_ (by first | omega | (simp; done) | (simp; omega)) _ | refine Below.step (by assumption) ?_ (by first | omega | (simp; done) | (simp; omega)) | refine Below.mark (by assumption) (by assumption) ?_ (by first | omega | (simp; done) | (simp; omega)) (by first | omega | (simp; done) | (simp; omega))))⟩
  · obtain ⟨m, hm'⟩ : ∃ m : Nat, nearF l ⟨s, a, b, c⟩ = m := ⟨(nearF l ⟨s, a, b, c⟩).toNat, by omega⟩
    have hmlt : m < l.length := by have := nearF_bd l ⟨s, a, b, c⟩; omega
    have hd : decide (0 ≤ (m : Int)) = true := by simp
    have HQ := Lib.hid hm'
    cases hin : inB lim 0 2000
    · have HF := Lib.hid (forged_no2 (l := l) (r := ⟨s, a, b, c⟩) hin)
      have HIN := Lib.hid hin
      clear hin hm' hpos hcell
      go_enter Try.func29, Try.ntmps29
      go_wp2_with fail
      refine (iNear_any _ l _ _ _ _ _ (h.below (by (repeat (first | exact Below.refl _ _ | assumption | refine Below.drew ?_ | refine below_drewN ?_ _ | refine Below.alloc ?_ (by first | omega | (simp; done) | (simp; omega)) _ | refine Below.setCell ?_ (by first | omega | (simp; done) | (simp; omega)) _ | refine Below.step (by assumption) ?_ (by first | omega | (simp; done) | (simp; omega)) | refine Below.mark (by assumption) (by assumption) ?_ (by first | omega | (simp; done) | (simp; omega)) (by first | omega | (simp; done) | (simp; omega))))))).mono ?_
      rintro e w1 ⟨rfl, hb1⟩; (first | (with_reducible have hcf1 := bcell_drew hb1) | have hcf1 := bcell hb1); obtain ⟨hc1, hf1⟩ := hcf1; have hz1 := hb1.size; (try simp at hz1); (try have hp1_0 : w.heap.size < w1.heap.size := by omega); (try have hp1_1 : w.heap.size + 1 < w1.heap.size := by omega); (try have hp1_2 : w.heap.size + 2 < w1.heap.size := by omega)
      rw [HQ.out]
      go_wp2_with fail
      go_quiet ((go_at_call 72; exact Calls.quiet_of_same (within_q _ _ _ _ _ HIN)))
      go_wp2
      go_ret
      exact ⟨ret_bool HF.out.symm, by (repeat (first | exact Below.refl _ _ | assumption | refine Below.drew ?_ | refine below_drewN ?_ _ | refine Below.alloc ?_ (by first | omega | (simp; done) | (simp; omega)) _ | refine Below.setCell ?_ (by first | omega | (simp; done) | (simp; omega)) _ | refine Below.step (by assumption) ?_ (by first | omega | (simp; done) | (simp; omega)) | refine Below.mark (by assumption) (by assumption) ?_ (by first | omega | (simp; done) | (simp; omega)) (by first | omega | (simp; done) | (simp; omega))))⟩
    · have HF := forged_yes hm' hmlt hin
      have HD : ∀ t : Rc, t.dist ⟨s, a, b, c⟩ = distB t.s t.a t.l t.m s a b c := fun _ => rfl
      rw [HD] at HF
      have HF := Lib.hid HF
      have HIN := Lib.hid hin
      clear HD hin hm' hpos
      obtain ⟨gb, off, rfl, hb, hcl⟩ := hcell (by omega)
      obtain ⟨j0, j1, j2, j3⟩ := hcl m hmlt
      have hm1 : (0 : Int) ≤ (m : Int) := by omega
      have hm2 : (m : Int) < (l.length : Int) := by omega
      clear hcl hcell
      generalize l[m].s = ms at *
      generalize l[m].a = ma at *
      generalize l[m].l = ml at *
      generalize l[m].m = mm at *
      have hb1' : gb < w.heap.size + 1 := by omega
      have hbne : ¬ gb = w.heap.size := by omega
      go_enter Try.func29, Try.ntmps29
      go_wp2_with fail
      refine (iNear_any _ l _ _ _ _ _ (h.below (by (repeat (first | exact Below.refl _ _ | assumption | refine Below.drew ?_ | refine below_drewN ?_ _ | refine Below.alloc ?_ (by first | omega | (simp; done) | (simp; omega)) _ | refine Below.setCell ?_ (by first | omega | (simp; done) | (simp; omega)) _ | refine Below.step (by assumption) ?_ (by first | omega | (simp; done) | (simp; omega)) | refine Below.mark (by assumption) (by assumption) ?_ (by first | omega | (simp; done) | (simp; omega)) (by first | omega | (simp; done) | (simp; omega))))))).mono ?_
      rintro e w1 ⟨rfl, hb1⟩; (first | (with_reducible have hcf1 := bcell_drew hb1) | have hcf1 := bcell hb1); obtain ⟨hc1, hf1⟩ := hcf1; have hz1 := hb1.size; (try simp at hz1); (try have hp1_0 : w.heap.size < w1.heap.size := by omega); (try have hp1_1 : w.heap.size + 1 < w1.heap.size := by omega); (try have hp1_2 : w.heap.size + 2 < w1.heap.size := by omega)
      rw [HQ.out]
      have hgb1 : gb < w1.heap.size := by omega
      go_wp2_with fail
      go_region_held3 (fun w' => w'.cell? ⟨w.heap.size, 0, none⟩ = some (.int .i64 s) ∧ w'.cell? ⟨w.heap.size, 1, none⟩ = some (.int .i64 a) ∧ w'.cell? ⟨w.heap.size, 2, none⟩ = some (.int .i64 b) ∧ w'.cell? ⟨w.heap.size, 3, none⟩ = some (.int .i64 c) ∧
          w'.cell? ⟨gb, off + m * 4, none⟩ = some (.int .i64 ms) ∧ w'.cell? ⟨gb, off + m * 4 + 1, none⟩ = some (.int .i64 ma) ∧ w'.cell? ⟨gb, off + m * 4 + 2, none⟩ = some (.int .i64 ml) ∧ w'.cell? ⟨gb, off + m * 4 + 3, none⟩ = some (.int .i64 mm))
        (go_keep)
        (first | (go_at_call 72; refine (within_q _ _ _ _ _ HIN).mono ?_; rintro e w' ⟨rfl, rfl⟩) | (go_at_call 24; refine (iDist_any _ _ _ _ _ _ _ _ _).mono ?_; rintro e w3 ⟨rfl, hb3⟩; (first | (with_reducible have hcf3 := bcell_drew hb3) | have hcf3 := bcell hb3); obtain ⟨hc3, hf3⟩ := hcf3; have hz3 := hb3.size; (try simp at hz3); (try have hp3_0 : w.heap.size < w3.heap.size := by omega); (try have hp3_1 : w.heap.size + 1 < w3.heap.size := by omega); (try have hp3_2 : w.heap.size + 2 < w3.heap.size := by omega); (have hgb3 : gb < w3.heap.size := by omega)))
      go_wp2
      go_ret
      exact ⟨ret_bool HF.out.symm, by (repeat (first | exact Below.refl _ _ | assumption | refine Below.drew ?_ | refine below_drewN ?_ _ | refine Below.alloc ?_ (by first | omega | (simp; done) | (simp; omega)) _ | refine Below.setCell ?_ (by first | omega | (simp; done) | (simp; omega)) _ | refine Below.step (by assumption) ?_ (by first | omega | (simp; done) | (simp; omega)) | refine Below.mark (by assumption) (by assumption) ?_ (by first | omega | (simp; done) | (simp; omega)) (by first | omega | (simp; done) | (simp; omega))))⟩

end Go.Proofs.Ytdladmmhmncpoaa
