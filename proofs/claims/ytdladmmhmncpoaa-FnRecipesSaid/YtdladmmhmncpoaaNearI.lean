/-
  The nearest recipe: the program's own search.
-/
import Derived.Test.YtdladmmhmncpoaaNear
set_option linter.unusedSimpArgs false
set_option linter.unusedVariables false
namespace Go.Proofs.Ytdladmmhmncpoaa
open Go.RowKit

/-- The program's best so far: it begins with place 0. -/
def nearI (l : List Rc) (r : Rc) (k : Nat) : Nat := (nearK l r k).toNat

theorem nearI_bd (l : List Rc) (r : Rc) (k : Nat) : nearI l r k ≤ k := by have := nearK_bd l r k; unfold nearI; omega

theorem nearI_all (l : List Rc) (r : Rc) (h : ¬ l.length = 0) : (nearI l r l.length : Int) = nearK l r l.length := by have := nearK_bd l r l.length; unfold nearI; omega

theorem nearI_new {l : List Rc} {r : Rc} {k m : Nat} (hm : nearI l r k = m) (hk : k < l.length) (hmk : m < l.length) (h : l[k].dist r < l[m].dist r) : nearI l r (k + 1) = k := by
  by_cases hn : nearK l r k < 0
  · unfold nearI; rw [nearK_first hn]; omega
  · unfold nearI at hm ⊢
    rw [nearK_new (m := m) (by omega) hk hmk h]; omega

theorem nearI_old {l : List Rc} {r : Rc} {k m : Nat} (hm : nearI l r k = m) (hk : k < l.length) (hmk : m < l.length) (h : ¬ l[k].dist r < l[m].dist r) : nearI l r (k + 1) = m := by
  by_cases hn : nearK l r k < 0
  · have hb := nearK_bd l r k
    have hk0 : k = 0 := by omega
    unfold nearI at hm ⊢
    rw [nearK_first hn]; omega
  · unfold nearI at hm ⊢
    rw [nearK_old (m := m) (by omega) hk hmk h]; omega

set_option maxHeartbeats 4000000 in
set_option maxRecDepth 100000 in
theorem iNear_any (v : Value) (l : List Rc) (s a b c : Int) (w : World) (h : RR w v l) :
    Calls Try.prog 27 #[v, .agg #[.int .i64 s, .int .i64 a, .int .i64 b, .int .i64 c]] w fun e w' => e = .returned (.int .i64 (nearF l ⟨s, a, b, c⟩)) ∧ Below w.heap.size w w' := by
  obtain ⟨A, cp, rfl, hc, hm, hcell⟩ := h.form
  unfold maxLen at hm
  by_cases hz : l.length = 0
  · have hl : l = [] := List.eq_nil_of_length_eq_zero hz
    subst hl
    have HF : Hid (nearF [] ⟨s, a, b, c⟩ = -1) := Lib.hid (by unfold nearF; split <;> rfl)
    clear hcell
    go_enter Try.func27, Try.ntmps27
    go_wp2
    go_ret
    exact ⟨ret_int HF.out.symm, by (repeat (first | exact Below.refl _ _ | assumption | refine Below.drew ?_ | refine below_drewN ?_ _ | refine Below.alloc ?_ (by first | omega | (simp; done) | (simp; omega)) _ | refine Below.setCell ?_ (by first | omega | (simp; done) | (simp; omega)) _ | refine Below.step (by assumption) ?_ (by first | omega | (simp; done) | (simp; omega)) | refine Below.mark (by assumption) (by assumption) ?_ (by first | omega | (simp; done) | (simp; omega)) (by first | omega | (simp; done) | (simp; omega))))⟩
  have hz2 : ((l.length : Int) == 0) = false := by rw [beq_eq_false_iff_ne]; omega
  cases hr : recipesB l
  · have HF := Lib.hid (nearF_no1 (r := ⟨s, a, b, c⟩) hr)
    have HR := Lib.hid hr
    clear hr hcell
    go_enter Try.func27, Try.ntmps27
    go_wp2_with fail
    refine (iRecipes_any _ l _ (h.below (by (repeat (first | exact Below.refl _ _ | assumption | refine Below.drew ?_ | refine below_drewN ?_ _ | refine Below.alloc ?_ (by first | omega | (simp; done) | (simp; omega)) _ | refine Below.setCell ?_ (by first | omega | (simp; done) | (simp; omega)) _ | refine Below.step (by assumption) ?_ (by first | omega | (simp; done) | (simp; omega)) | refine Below.mark (by assumption) (by assumption) ?_ (by first | omega | (simp; done) | (simp; omega)) (by first | omega | (simp; done) | (simp; omega))))))).mono ?_
    rintro e w1 ⟨rfl, hb1⟩; (first | (with_reducible have hcf1 := bcell_drew hb1) | have hcf1 := bcell hb1); obtain ⟨hc1, hf1⟩ := hcf1; have hz1 := hb1.size; (try simp at hz1); (try have hp1_0 : w.heap.size < w1.heap.size := by omega); (try have hp1_1 : w.heap.size + 1 < w1.heap.size := by omega); (try have hp1_2 : w.heap.size + 2 < w1.heap.size := by omega)
    rw [HR.out]
    go_wp2
    go_ret
    exact ⟨ret_int HF.out.symm, by (repeat (first | exact Below.refl _ _ | assumption | refine Below.drew ?_ | refine below_drewN ?_ _ | refine Below.alloc ?_ (by first | omega | (simp; done) | (simp; omega)) _ | refine Below.setCell ?_ (by first | omega | (simp; done) | (simp; omega)) _ | refine Below.step (by assumption) ?_ (by first | omega | (simp; done) | (simp; omega)) | refine Below.mark (by assumption) (by assumption) ?_ (by first | omega | (simp; done) | (simp; omega)) (by first | omega | (simp; done) | (simp; omega))))⟩
  · cases hk : (⟨s, a, b, c⟩ : Rc).ok
    · have HF := Lib.hid (nearF_no2 (l := l) hk)
      have HR := Lib.hid hr
      have HK : Hid (recipeB s a b c = false) := Lib.hid hk
      clear hr hcell hk
      go_enter Try.func27, Try.ntmps27
      go_wp2_with fail
      refine (iRecipes_any _ l _ (h.below (by (repeat (first | exact Below.refl _ _ | assumption | refine Below.drew ?_ | refine below_drewN ?_ _ | refine Below.alloc ?_ (by first | omega | (simp; done) | (simp; omega)) _ | refine Below.setCell ?_ (by first | omega | (simp; done) | (simp; omega)) _ | refine Below.step (by assumption) ?_ (by first | omega | (simp; done) | (simp; omega)) | refine Below.mark (by assumption) (by assumption) ?_ (by first | omega | (simp; done) | (simp; omega)) (by first | omega | (simp; done) | (simp; omega))))))).mono ?_
      rintro e w1 ⟨rfl, hb1⟩; (first | (with_reducible have hcf1 := bcell_drew hb1) | have hcf1 := bcell hb1); obtain ⟨hc1, hf1⟩ := hcf1; have hz1 := hb1.size; (try simp at hz1); (try have hp1_0 : w.heap.size < w1.heap.size := by omega); (try have hp1_1 : w.heap.size + 1 < w1.heap.size := by omega); (try have hp1_2 : w.heap.size + 2 < w1.heap.size := by omega)
      rw [HR.out]
      go_wp2_with fail
      refine (iRecipeOk_any _ _ _ _ _).mono ?_
      rintro e w2 ⟨rfl, hb2⟩; (first | (with_reducible have hcf2 := bcell_drew hb2) | have hcf2 := bcell hb2); obtain ⟨hc2, hf2⟩ := hcf2; have hz2 := hb2.size; (try simp at hz2); (try have hp2_0 : w.heap.size < w2.heap.size := by omega); (try have hp2_1 : w.heap.size + 1 < w2.heap.size := by omega); (try have hp2_2 : w.heap.size + 2 < w2.heap.size := by omega)
      rw [HK.out]
      go_wp2
      go_ret
      exact ⟨ret_int HF.out.symm, by (repeat (first | exact Below.refl _ _ | assumption | refine Below.drew ?_ | refine below_drewN ?_ _ | refine Below.alloc ?_ (by first | omega | (simp; done) | (simp; omega)) _ | refine Below.setCell ?_ (by first | omega | (simp; done) | (simp; omega)) _ | refine Below.step (by assumption) ?_ (by first | omega | (simp; done) | (simp; omega)) | refine Below.mark (by assumption) (by assumption) ?_ (by first | omega | (simp; done) | (simp; omega)) (by first | omega | (simp; done) | (simp; omega))))⟩
    · have HF := Lib.hid (nearF_yes hr hk)
      have HR := Lib.hid hr
      have HK : Hid (recipeB s a b c = true) := Lib.hid hk
      clear hr hk
      go_enter Try.func27, Try.ntmps27
      go_wp2_with fail
      refine (iRecipes_any _ l _ (h.below (by (repeat (first | exact Below.refl _ _ | assumption | refine Below.drew ?_ | refine below_drewN ?_ _ | refine Below.alloc ?_ (by first | omega | (simp; done) | (simp; omega)) _ | refine Below.setCell ?_ (by first | omega | (simp; done) | (simp; omega)) _ | refine Below.step (by assumption) ?_ (by first | omega | (simp; done) | (simp; omega)) | refine Below.mark (by assumption) (by assumption) ?_ (by first | omega | (simp; done) | (simp; omega)) (by first | omega | (simp; done) | (simp; omega))))))).mono ?_
      rintro e w1 ⟨rfl, hb1⟩; (first | (with_reducible have hcf1 := bcell_drew hb1) | have hcf1 := bcell hb1); obtain ⟨hc1, hf1⟩ := hcf1; have hz1 := hb1.size; (try simp at hz1); (try have hp1_0 : w.heap.size < w1.heap.size := by omega); (try have hp1_1 : w.heap.size + 1 < w1.heap.size := by omega); (try have hp1_2 : w.heap.size + 2 < w1.heap.size := by omega)
      rw [HR.out]
      go_wp2_with fail
      refine (iRecipeOk_any _ _ _ _ _).mono ?_
      rintro e w2 ⟨rfl, hb2⟩; (first | (with_reducible have hcf2 := bcell_drew hb2) | have hcf2 := bcell hb2); obtain ⟨hc2, hf2⟩ := hcf2; have hz2 := hb2.size; (try simp at hz2); (try have hp2_0 : w.heap.size < w2.heap.size := by omega); (try have hp2_1 : w.heap.size + 1 < w2.heap.size := by omega); (try have hp2_2 : w.heap.size + 2 < w2.heap.size := by omega)
      rw [HK.out]
      have hB2 : Blk w2 w.heap.size 46 #[.int .i64 s, .int .i64 a, .int .i64 b, .int .i64 c] := ((Blk.new w _ _).below hb1 (by simp)).below hb2 (by omega)
      have hbw2 : Below w.heap.size w w2 := by (repeat (first | exact Below.refl _ _ | assumption | refine Below.drew ?_ | refine below_drewN ?_ _ | refine Below.alloc ?_ (by first | omega | (simp; done) | (simp; omega)) _ | refine Below.setCell ?_ (by first | omega | (simp; done) | (simp; omega)) _ | refine Below.step (by assumption) ?_ (by first | omega | (simp; done) | (simp; omega)) | refine Below.mark (by assumption) (by assumption) ?_ (by first | omega | (simp; done) | (simp; omega)) (by first | omega | (simp; done) | (simp; omega))))
      clear hb1 hc1 hf1 hb2 hc2 hf2 hz1 hz2 h
      have HD : Hid (∀ t : Rc, t.dist ⟨s, a, b, c⟩ = distB t.s t.a t.l t.m s a b c) := Lib.hid (fun _ => rfl)
      obtain ⟨r, hr0⟩ : ∃ r : Rc, r = ⟨s, a, b, c⟩ := ⟨_, rfl⟩
      have HFr : Hid (nearF l ⟨s, a, b, c⟩ = nearK l r l.length) := Lib.hid (by rw [hr0]; exact HF.out)
      have HDr : Hid (∀ t : Rc, t.dist r = distB t.s t.a t.l t.m s a b c) := Lib.hid (by rw [hr0]; exact HD.out)
      clear hr0 HF HD
      go_wp2
      go_loopw [5, 23] (fun x i wr => ∃ k : Nat, k ≤ l.length ∧ i = .int .i64 k ∧ x = .int .i64 (nearI l r k) ∧ Blk wr w.heap.size 46 #[.int .i64 s, .int .i64 a, .int .i64 b, .int .i64 c] ∧ Below w.heap.size w wr) (fun _ i _ => l.length - (intOf i).toNat)
      case atStart => exact ⟨0, Nat.zero_le _, rfl, rfl, hB2, hbw2⟩
      case round =>
        obtain ⟨k, hk, rfl, rfl, hB, hbl⟩ := hrel
        have hsz := hbl.size
        have nb := nearI_bd l r k
        clear hB2 hbw2
        by_cases hlt : k < l.length
        · obtain ⟨gb, off, rfl, hb, hcl⟩ := hcell (by omega)
          have bx := fun j => hB.cell j
          have x0 := bx 0
          have x1 := bx 1
          have x2 := bx 2
          have x3 := bx 3
          simp only [List.getElem?_toArray, List.getElem?_cons_succ, List.getElem?_cons_zero] at x0 x1 x2 x3
          have hBl := hB.lt
          have HB := Lib.hid hB
          have hi1 : (0 : Int) ≤ (k : Int) := by omega
          have hi2 : (k : Int) < (l.length : Int) := by omega
          clear bx hB
          obtain ⟨m, hm'⟩ : ∃ m : Nat, nearI l r k = m := ⟨_, rfl⟩
          have hmlt : m < l.length := by omega
          obtain ⟨k0, k1, k2, k3⟩ := hcl k hlt
          obtain ⟨j0, j1, j2, j3⟩ := hcl m hmlt
          have q0 := (hbl.cell (p := ⟨gb, off + k * 4, none⟩) hb).trans k0
          have q1 := (hbl.cell (p := ⟨gb, off + k * 4 + 1, none⟩) hb).trans k1
          have q2 := (hbl.cell (p := ⟨gb, off + k * 4 + 2, none⟩) hb).trans k2
          have q3 := (hbl.cell (p := ⟨gb, off + k * 4 + 3, none⟩) hb).trans k3
          have p0 := (hbl.cell (p := ⟨gb, off + m * 4, none⟩) hb).trans j0
          have p1 := (hbl.cell (p := ⟨gb, off + m * 4 + 1, none⟩) hb).trans j1
          have p2 := (hbl.cell (p := ⟨gb, off + m * 4 + 2, none⟩) hb).trans j2
          have p3 := (hbl.cell (p := ⟨gb, off + m * 4 + 3, none⟩) hb).trans j3
          have hm1 : (0 : Int) ≤ (m : Int) := by omega
          have hm2 : (m : Int) < (l.length : Int) := by omega
          have hbr : gb < wr.heap.size := by omega
          have hbr1 : gb < wr.heap.size + 1 := by omega
          have hBl1 : w.heap.size < wr.heap.size + 1 := by omega
          have hwr1 : wr.heap.size < wr.heap.size + 1 := by omega
          clear k0 k1 k2 k3 j0 j1 j2 j3 hcl hcell nb
          have HM := Lib.hid hm'
          rw [hm']
          have hN := nearI_new HM.out hlt hmlt
          have hO := nearI_old HM.out hlt hmlt
          rw [HDr.out, HDr.out] at hN hO
          have HNEW := Lib.hid hN
          have HOLD := Lib.hid hO
          clear hN hO hm'
          generalize l[k].s = ks at *
          generalize l[k].a = ka at *
          generalize l[k].l = kl at *
          generalize l[k].m = km at *
          generalize l[m].s = ms at *
          generalize l[m].a = ma at *
          generalize l[m].l = ml at *
          generalize l[m].m = mm at *
          go_wp2_with fail
          go_region_held3 (fun w' => w'.cell? ⟨w.heap.size, 0, none⟩ = some (.int .i64 s) ∧ w'.cell? ⟨w.heap.size, 1, none⟩ = some (.int .i64 a) ∧ w'.cell? ⟨w.heap.size, 2, none⟩ = some (.int .i64 b) ∧ w'.cell? ⟨w.heap.size, 3, none⟩ = some (.int .i64 c) ∧
              w'.cell? ⟨wr.heap.size, 0, none⟩ = some (.int .i64 ks) ∧ w'.cell? ⟨wr.heap.size, 1, none⟩ = some (.int .i64 ka) ∧ w'.cell? ⟨wr.heap.size, 2, none⟩ = some (.int .i64 kl) ∧ w'.cell? ⟨wr.heap.size, 3, none⟩ = some (.int .i64 km) ∧
              w'.cell? ⟨gb, off + m * 4, none⟩ = some (.int .i64 ms) ∧ w'.cell? ⟨gb, off + m * 4 + 1, none⟩ = some (.int .i64 ma) ∧ w'.cell? ⟨gb, off + m * 4 + 2, none⟩ = some (.int .i64 ml) ∧ w'.cell? ⟨gb, off + m * 4 + 3, none⟩ = some (.int .i64 mm))
            (go_keep)
            (first | (go_at_call 24; refine (iDist_any _ _ _ _ _ _ _ _ _).mono ?_; rintro e w3 ⟨rfl, hb3⟩; (first | (with_reducible have hcf3 := bcell_drew hb3) | have hcf3 := bcell hb3); obtain ⟨hc3, hf3⟩ := hcf3; have hz3 := hb3.size; (try simp at hz3); (try have hp3_0 : w.heap.size < w3.heap.size := by omega); (try have hp3_1 : w.heap.size + 1 < w3.heap.size := by omega); (try have hp3_2 : w.heap.size + 2 < w3.heap.size := by omega); (have hgb3 : gb < w3.heap.size := by omega); (have hgb4 : wr.heap.size < w3.heap.size := by omega)))
          have hbw : Below wr.heap.size wr w3 := by (repeat (first | exact Below.refl _ _ | assumption | refine Below.drew ?_ | refine below_drewN ?_ _ | refine Below.alloc ?_ (by first | omega | (simp; done) | (simp; omega)) _ | refine Below.setCell ?_ (by first | omega | (simp; done) | (simp; omega)) _ | refine Below.step (by assumption) ?_ (by first | omega | (simp; done) | (simp; omega)) | refine Below.mark (by assumption) (by assumption) ?_ (by first | omega | (simp; done) | (simp; omega)) (by first | omega | (simp; done) | (simp; omega))))
          have HB3 := Lib.hid (HB.out.below hbw hBl)
          have HBL3 := Lib.hid (hbl.trans (hbw.mono hsz))
          clear hbw
          by_cases hdd : distB ks ka kl km s a b c < distB ms ma ml mm s a b c
          · have HN := Lib.hid (HNEW.out hdd)
            go_wp2
            go_roundw
            case rel => exact ⟨k + 1, by omega, by go_num, by rw [HN.out], HB3.out, HBL3.out⟩
            case measure => simp [intOf]; omega
          · have HN := Lib.hid (HOLD.out (by omega))
            go_wp2
            go_roundw
            case rel => exact ⟨k + 1, by omega, by go_num, by rw [HN.out], HB3.out, HBL3.out⟩
            case measure => simp [intOf]; omega
        · have hkk : k = l.length := by omega
          subst hkk
          have HI := Lib.hid (nearI_all l r hz)
          clear hcell nb
          go_wp2
          go_ret
          exact ⟨ret_int (HI.out.trans HFr.out.symm), hbl⟩

end Go.Proofs.Ytdladmmhmncpoaa
