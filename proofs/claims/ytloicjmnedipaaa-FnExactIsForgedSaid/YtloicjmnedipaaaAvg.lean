/-
  The average of recipes.
-/
import Derived.Test.YtloicjmnedipaaaRecs
import Derived.BigRegion
set_option linter.unusedSimpArgs false
set_option linter.unusedVariables false
namespace Go.Proofs.Ytloicjmnedipaaa
open Go.RowKit

def Blk (w : World) (g : Nat) (t : TypeId) (cs : Array Value) : Prop := w.heap[g]? = some (.cells cs t (0, 0))
section
variable {w w' : World} {g : Nat} {t : TypeId} {cs : Array Value}
theorem Blk.lt (h : Blk w g t cs) : g < w.heap.size := by
  rcases Nat.lt_or_ge g w.heap.size with hlt | hge
  · exact hlt
  · unfold Blk at h; rw [Array.getElem?_eq_none hge] at h; cases h
theorem Blk.cell (h : Blk w g t cs) (i : Nat) : w.cell? ⟨g, i, none⟩ = cs[i]? := cell_of_row w g i cs t (0, 0) h
theorem Blk.frozen (h : Blk w g t cs) (i : Nat) : w.frozen? ⟨g, i, none⟩ = false := by
  unfold Blk at h
  simp [World.frozen?, h]
theorem Blk.new (w : World) (t : TypeId) (cs : Array Value) : Blk (w.alloc (.cells cs t)) w.heap.size t cs := heap_alloc_new w _
theorem Blk.drew (h : Blk w g t cs) : Blk w.drew g t cs := h
theorem Blk.drewN (h : Blk w g t cs) (n : Nat) : Blk (w.drewN n) g t cs := h
theorem Blk.alloc (h : Blk w g t cs) (o : Obj) : Blk (w.alloc o) g t cs := (Below.heap_alloc w o g h.lt).trans h
theorem Blk.set_ (h : Blk w g t cs) (i : Nat) (u : Value) : Blk (w.setCell ⟨g, i, none⟩ u) g t (cs.setIfInBounds i u) := by
  unfold Blk at h ⊢
  simp [World.setCell, Array.getElem?_modify, h]
theorem Blk.far (h : Blk w g t cs) {p : Addr} (hp : g ≠ p.block) (u : Value) : Blk (w.setCell p u) g t cs := (Below.heap_setCell w p u g hp).trans h
theorem Blk.below {B : Nat} (h : Blk w g t cs) (hb : Below B w w') (hg : g < B) : Blk w' g t cs := (hb.block g hg).trans h
end

def sumF (f : Rc → Int) : List Rc → Int
  | [] => 0
  | r :: l => f r + sumF f l
theorem sumF_append (f : Rc → Int) : ∀ l l', sumF f (l ++ l') = sumF f l + sumF f l'
  | [], l' => by simp [sumF]
  | r :: l, l' => by simp [sumF, sumF_append f l l']; omega
theorem sumF_succ (f : Rc → Int) (l : List Rc) (k : Nat) (h : k < l.length) : sumF f (l.take (k + 1)) = sumF f (l.take k) + f l[k] := by
  rw [List.take_succ_eq_append_getElem h, sumF_append]; simp [sumF]
theorem sumF_bd (f : Rc → Int) (n : Int) (hn : 0 ≤ n) : ∀ l : List Rc, (∀ r ∈ l, 0 ≤ f r ∧ f r ≤ n) → 0 ≤ sumF f l ∧ sumF f l ≤ n * l.length
  | [], _ => by simp [sumF]
  | r :: l, h => by
    have h1 := h r (by simp)
    have h2 := sumF_bd f n hn l (fun x hx => h x (by simp [hx]))
    simp only [sumF, List.length_cons]
    have : n * ((l.length + 1 : Nat) : Int) = n * l.length + n := by rw [Int.natCast_add, Int.mul_add]; simp
    omega

def avgR (l : List Rc) : Rc :=
  let n : Int := l.length
  let a := sumF Rc.a l / n
  let b := sumF Rc.l l / n
  let c := sumF Rc.m l / n
  ⟨1000 - a - b - c, a, b, c⟩
def avgF (l : List Rc) : Rc × Bool := if l.length == 0 || !recipesB l then (⟨0, 0, 0, 0⟩, false) else (avgR l, true)
def avgV (x : Rc × Bool) : Value := .tuple #[x.1.v, .bool x.2]

theorem recipes_bd {l : List Rc} (h : recipesB l = true) : l.length ≤ 20 ∧ ∀ k, (0 ≤ sumF Rc.a (l.take k) ∧ sumF Rc.a (l.take k) ≤ 20000) ∧ (0 ≤ sumF Rc.l (l.take k) ∧ sumF Rc.l (l.take k) ≤ 20000) ∧ (0 ≤ sumF Rc.m (l.take k) ∧ sumF Rc.m (l.take k) ≤ 20000) := by
  unfold recipesB at h
  rw [Bool.and_eq_true] at h
  have h20 : l.length ≤ 20 := by simpa using h.2
  refine ⟨h20, fun k => ?_⟩
  have hall := List.all_eq_true.1 h.1
  have hlen : ((l.take k).length : Int) ≤ 20 := by have : (l.take k).length ≤ l.length := List.length_take_le' _ _; omega
  have g : ∀ f : Rc → Int, (∀ r, r.ok = true → 0 ≤ f r ∧ f r ≤ 1000) → 0 ≤ sumF f (l.take k) ∧ sumF f (l.take k) ≤ 20000 := by
    intro f hf
    have := sumF_bd f 1000 (by omega) (l.take k) (fun r hr => hf r (hall r (List.mem_of_mem_take hr)))
    omega
  refine ⟨g _ ?_, g _ ?_, g _ ?_⟩ <;> (intro r hr; have := recipeB_bd hr; omega)

set_option maxHeartbeats 4000000 in
theorem sAvg_any (v : Value) (l : List Rc) (w : World) (h : RR w v l) :
    Calls Try.prog 40 #[v] w fun e w' => e = .returned (avgV (avgF l)) ∧ Below w.heap.size w w' := by
  obtain ⟨A, c, rfl, hc, hm, hcell⟩ := h.form
  unfold maxLen at hm
  by_cases hz : l.length = 0
  · have hl : l = [] := List.eq_nil_of_length_eq_zero hz
    subst hl
    go_enter Try.func40, Try.ntmps40
    go_wp2
    exact bodyPost_ret (v := .tuple #[.agg #[.int .i64 0, .int .i64 0, .int .i64 0, .int .i64 0], .bool false]) (by simp [results, Try.results40, go_sem]) rfl ⟨by rfl, by (repeat (first | exact Below.refl _ _ | assumption | refine Below.drew ?_ | refine below_drewN ?_ _ | refine Below.alloc ?_ (by first | omega | (simp; done) | (simp; omega)) _ | refine Below.setCell ?_ (by first | omega | (simp; done) | (simp; omega)) _ | refine Below.step (by assumption) ?_ (by first | omega | (simp; done) | (simp; omega)) | refine Below.mark (by assumption) (by assumption) ?_ (by first | omega | (simp; done) | (simp; omega)) (by first | omega | (simp; done) | (simp; omega))))⟩
  · have hz2 : ((l.length : Int) == 0) = false := by rw [beq_eq_false_iff_ne]; omega
    cases hr : recipesB l
    · have HR := Lib.hid hr
      have HF : Hid (avgF l = (⟨0, 0, 0, 0⟩, false)) := Lib.hid (by simp [avgF, hr])
      clear hr hz
      go_enter Try.func40, Try.ntmps40
      go_wp2_with fail
      refine (sRecipes_any _ l _ (h.below ?_)).mono ?_
      · (repeat (first | exact Below.refl _ _ | assumption | refine Below.drew ?_ | refine below_drewN ?_ _ | refine Below.alloc ?_ (by first | omega | (simp; done) | (simp; omega)) _ | refine Below.setCell ?_ (by first | omega | (simp; done) | (simp; omega)) _ | refine Below.step (by assumption) ?_ (by first | omega | (simp; done) | (simp; omega)) | refine Below.mark (by assumption) (by assumption) ?_ (by first | omega | (simp; done) | (simp; omega)) (by first | omega | (simp; done) | (simp; omega))))
      rintro e w1 ⟨rfl, hb1⟩; (first | (with_reducible have hcf1 := bcell_drew hb1) | have hcf1 := bcell hb1); obtain ⟨hc1, hf1⟩ := hcf1; have hz1 := hb1.size; (try simp at hz1); (try have hp1_0 : w.heap.size < w1.heap.size := by omega); (try have hp1_1 : w.heap.size + 1 < w1.heap.size := by omega); (try have hp1_2 : w.heap.size + 2 < w1.heap.size := by omega)
      rw [HR.out]
      go_wp2
      rw [HF.out]
      exact bodyPost_ret (v := .tuple #[.agg #[.int .i64 0, .int .i64 0, .int .i64 0, .int .i64 0], .bool false]) (by simp [results, Try.results40, go_sem, hc1]) rfl ⟨by rfl, by (repeat (first | exact Below.refl _ _ | assumption | refine Below.drew ?_ | refine below_drewN ?_ _ | refine Below.alloc ?_ (by first | omega | (simp; done) | (simp; omega)) _ | refine Below.setCell ?_ (by first | omega | (simp; done) | (simp; omega)) _ | refine Below.step (by assumption) ?_ (by first | omega | (simp; done) | (simp; omega)) | refine Below.mark (by assumption) (by assumption) ?_ (by first | omega | (simp; done) | (simp; omega)) (by first | omega | (simp; done) | (simp; omega))))⟩
    · obtain ⟨h20, hbd⟩ := recipes_bd hr
      have HR := Lib.hid hr
      have HF : Hid (avgF l = (avgR l, true)) := Lib.hid (by simp [avgF, hr, hz])
      have HBD := Lib.hid hbd
      clear hr hbd
      go_enter Try.func40, Try.ntmps40
      go_wp2_with fail
      refine (sRecipes_any _ l _ (h.below ?_)).mono ?_
      · (repeat (first | exact Below.refl _ _ | assumption | refine Below.drew ?_ | refine below_drewN ?_ _ | refine Below.alloc ?_ (by first | omega | (simp; done) | (simp; omega)) _ | refine Below.setCell ?_ (by first | omega | (simp; done) | (simp; omega)) _ | refine Below.step (by assumption) ?_ (by first | omega | (simp; done) | (simp; omega)) | refine Below.mark (by assumption) (by assumption) ?_ (by first | omega | (simp; done) | (simp; omega)) (by first | omega | (simp; done) | (simp; omega))))
      rintro e w1 ⟨rfl, hb1⟩; (first | (with_reducible have hcf1 := bcell_drew hb1) | have hcf1 := bcell hb1); obtain ⟨hc1, hf1⟩ := hcf1; have hz1 := hb1.size; (try simp at hz1); (try have hp1_0 : w.heap.size < w1.heap.size := by omega); (try have hp1_1 : w.heap.size + 1 < w1.heap.size := by omega); (try have hp1_2 : w.heap.size + 2 < w1.heap.size := by omega)
      rw [HR.out]
      go_wp2
      go_loopw [6] (fun i wr => ∃ k : Nat, k ≤ l.length ∧ i = .int .i64 k ∧ Blk wr w1.heap.size 31 #[.int .i64 0, .int .i64 (sumF Rc.a (l.take k)), .int .i64 (sumF Rc.l (l.take k)), .int .i64 (sumF Rc.m (l.take k))] ∧ Below w1.heap.size w1 wr) (fun i _ => l.length - (intOf i).toNat)
      case atStart => exact ⟨0, Nat.zero_le _, rfl, Blk.new _ _ _, (Below.refl _ _).alloc (Nat.le_refl _) _⟩
      case round =>
        obtain ⟨k, hk, rfl, hB, hbl⟩ := hrel
        have hsz := hbl.size
        have x1 := hB.cell 1
        have x2 := hB.cell 2
        have x3 := hB.cell 3
        have f1 := hB.frozen 1
        have f2 := hB.frozen 2
        have f3 := hB.frozen 3
        simp only [List.getElem?_toArray, List.getElem?_cons_succ, List.getElem?_cons_zero] at x1 x2 x3
        obtain ⟨⟨s1, s2⟩, ⟨s3, s4⟩, ⟨s5, s6⟩⟩ := HBD.out k
        by_cases hlt : k < l.length
        · obtain ⟨b, off, rfl, hb, hcl⟩ := hcell (by omega)
          obtain ⟨k0, k1, k2, k3⟩ := hcl k hlt
          have hbw : b < w1.heap.size := by omega
          have hb0 : Below w.heap.size w wr := by (repeat (first | exact Below.refl _ _ | assumption | refine Below.drew ?_ | refine below_drewN ?_ _ | refine Below.alloc ?_ (by first | omega | (simp; done) | (simp; omega)) _ | refine Below.setCell ?_ (by first | omega | (simp; done) | (simp; omega)) _ | refine Below.step (by assumption) ?_ (by first | omega | (simp; done) | (simp; omega)) | refine Below.mark (by assumption) (by assumption) ?_ (by first | omega | (simp; done) | (simp; omega)) (by first | omega | (simp; done) | (simp; omega))))
          have q0 := (hb0.cell (p := ⟨b, off + k * 4, none⟩) hb).trans k0
          have q1 := (hb0.cell (p := ⟨b, off + k * 4 + 1, none⟩) hb).trans k1
          have q2 := (hb0.cell (p := ⟨b, off + k * 4 + 2, none⟩) hb).trans k2
          have q3 := (hb0.cell (p := ⟨b, off + k * 4 + 3, none⟩) hb).trans k3
          have hi1 : (0 : Int) ≤ (k : Int) := by omega
          have hi2 : (k : Int) < (l.length : Int) := by omega
          obtain ⟨⟨t1, t2⟩, ⟨t3, t4⟩, ⟨t5, t6⟩⟩ := HBD.out (k + 1)
          have S1 := sumF_succ Rc.a l k hlt
          have S2 := sumF_succ Rc.l l k hlt
          have S3 := sumF_succ Rc.m l k hlt
          rw [S1] at t1 t2
          rw [S2] at t3 t4
          rw [S3] at t5 t6
          have HS1 := Lib.hid S1
          have HS2 := Lib.hid S2
          have HS3 := Lib.hid S3
          clear S1 S2 S3 k0 k1 k2 k3 hcl hcell
          have ne1 : ¬ b = w1.heap.size := by omega
          have ne2 : ¬ w1.heap.size = b := by omega
          have hB' := ((hB.set_ 1 (.int .i64 (sumF Rc.a (l.take k) + l[k].a))).set_ 2 (.int .i64 (sumF Rc.l (l.take k) + l[k].l))).set_ 3 (.int .i64 (sumF Rc.m (l.take k) + l[k].m))
          have hbl' := ((hbl.setCell (p := ⟨w1.heap.size, 1, none⟩) (Nat.le_refl _) (.int .i64 (sumF Rc.a (l.take k) + l[k].a))).setCell (p := ⟨w1.heap.size, 2, none⟩) (Nat.le_refl _) (.int .i64 (sumF Rc.l (l.take k) + l[k].l))).setCell (p := ⟨w1.heap.size, 3, none⟩) (Nat.le_refl _) (.int .i64 (sumF Rc.m (l.take k) + l[k].m))
          have HB := Lib.hid hB'
          have HBL := Lib.hid hbl'
          clear hB hB' hbl' hbl hb0 HBD h HR HF
          go_wp2
          go_region
          all_goals (go_wp2; go_region)
          all_goals (go_wp2; go_region)
          all_goals go_wp2
          go_roundw
          case rel => exact ⟨k + 1, by omega, by go_num, by rw [HS1.out, HS2.out, HS3.out]; exact HB.out, HBL.out.drew.drew.drew⟩
          case measure => simp [intOf]; omega
        · have hkk : l.length ≤ k := by omega
          have htk : l.take k = l := List.take_of_length_le hkk
          rw [htk] at x1 x2 x3 s1 s2 s3 s4 s5 s6 hB
          have hBl := hB.lt
          have hR : Blk wr w.heap.size 31 #[.int .i64 0, .int .i64 0, .int .i64 0, .int .i64 0] := ((Blk.new w _ _).below hb1 (by simp)).below hbl (by omega)
          have r0 := hR.cell 0
          have r1 := hR.cell 1
          have r2 := hR.cell 2
          have r3 := hR.cell 3
          have g0 := hR.frozen 0
          have g1 := hR.frozen 1
          have g2 := hR.frozen 2
          have g3 := hR.frozen 3
          simp only [List.getElem?_toArray, List.getElem?_cons_succ, List.getElem?_cons_zero] at r0 r1 r2 r3
          have ne0 : ¬ w.heap.size = w1.heap.size := by omega
          have ne1 : w.heap.size < wr.heap.size := by omega
          clear hR
          have n1 : (0 : Int) < (l.length : Int) := by omega
          have hne : ¬ (l.length : Int) = 0 := by omega
          have d1 : 0 ≤ sumF Rc.a l / (l.length : Int) := Int.ediv_nonneg s1 (by omega)
          have d2 : sumF Rc.a l / (l.length : Int) ≤ 20000 := Int.le_trans (Int.ediv_le_self _ s1) s2
          have d3 : 0 ≤ sumF Rc.l l / (l.length : Int) := Int.ediv_nonneg s3 (by omega)
          have d4 : sumF Rc.l l / (l.length : Int) ≤ 20000 := Int.le_trans (Int.ediv_le_self _ s3) s4
          have d5 : 0 ≤ sumF Rc.m l / (l.length : Int) := Int.ediv_nonneg s5 (by omega)
          have d6 : sumF Rc.m l / (l.length : Int) ≤ 20000 := Int.le_trans (Int.ediv_le_self _ s5) s6
          have hv : Hid (avgV (avgF l) = .tuple #[.agg #[.int .i64 (1000 - sumF Rc.a l / (l.length : Int) - sumF Rc.l l / (l.length : Int) - sumF Rc.m l / (l.length : Int)), .int .i64 (sumF Rc.a l / (l.length : Int)), .int .i64 (sumF Rc.l l / (l.length : Int)), .int .i64 (sumF Rc.m l / (l.length : Int))], .bool true]) := Lib.hid (by rw [HF.out]; rfl)
          clear htk hB hcell HBD h HR
          generalize sumF Rc.a l = A1 at *
          generalize sumF Rc.l l = A2 at *
          generalize sumF Rc.m l = A3 at *
          go_wp2
          go_region
          all_goals go_wp2
          all_goals refine bodyPost_ret (v := .tuple #[.agg #[.int .i64 (1000 - A1 / (l.length : Int) - A2 / (l.length : Int) - A3 / (l.length : Int)), .int .i64 (A1 / (l.length : Int)), .int .i64 (A2 / (l.length : Int)), .int .i64 (A3 / (l.length : Int))], .bool true]) (by simp [results, Try.results40, go_sem, r0, r1, r2, r3, ne0, ne1]) rfl ⟨congrArg Ending.returned hv.out.symm, ?_⟩
          all_goals (repeat (first | exact Below.refl _ _ | assumption | refine Below.drew ?_ | refine below_drewN ?_ _ | refine Below.alloc ?_ (by first | omega | (simp; done) | (simp; omega)) _ | refine Below.setCell ?_ (by first | omega | (simp; done) | (simp; omega)) _ | refine Below.step (by assumption) ?_ (by first | omega | (simp; done) | (simp; omega)) | refine Below.mark (by assumption) (by assumption) ?_ (by first | omega | (simp; done) | (simp; omega)) (by first | omega | (simp; done) | (simp; omega))))

end Go.Proofs.Ytloicjmnedipaaa
