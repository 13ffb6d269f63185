/-
  Three drawn recipes.
-/
import Derived.Test.YtdladmmhmncpoaaDrawR
import Derived.Deep.RegionHeld3
import Derived.Outline
set_option linter.unusedSimpArgs false
set_option linter.unusedVariables false
namespace Go.Proofs.Ytdladmmhmncpoaa
open Go.RowKit

theorem gcell {w w1 : World} {g : Nat} (hg : w.grownBy w1 (some g)) : (∀ b o, b < w.heap.size → ¬ b = g → w1.cell? ⟨b, o, none⟩ = w.cell? ⟨b, o, none⟩) ∧ (∀ b o, b < w.heap.size → ¬ b = g → w1.frozen? ⟨b, o, none⟩ = w.frozen? ⟨b, o, none⟩) := by
  have e := fun b (h : b < w.heap.size) (hn : ¬ b = g) => hg.block b h (fun e => hn (by cases e; rfl))
  refine ⟨fun b o h hn => World.cell?_of_block (e b h hn), fun b o h hn => ?_⟩
  unfold World.frozen?
  rw [e b h hn]

theorem CurOk.drew {W0 w : World} {v : Value} {g : Nat} (h : CurOk W0 v g w) : CurOk W0 v g w.drew := by
  obtain ⟨hg, hbl, i, s, hi, hB⟩ := h
  exact ⟨hg, hbl.drew, i, s, hi, hB.drew⟩

def DrawnRs (W0 : World) (e : Ending) (w' : World) : Prop :=
  ∃ r0 r1 r2 r3 s0 s1 s2 s3 t0 t1 t2 t3 : Int, e = .returned (.tuple #[.agg #[.int .i64 r0, .int .i64 r1, .int .i64 r2, .int .i64 r3], .agg #[.int .i64 s0, .int .i64 s1, .int .i64 s2, .int .i64 s3], .agg #[.int .i64 t0, .int .i64 t1, .int .i64 t2, .int .i64 t3]]) ∧
    DrR ⟨r0, r1, r2, r3⟩ ∧ DrR ⟨s0, s1, s2, s3⟩ ∧ DrR ⟨t0, t1, t2, t3⟩ ∧ Below W0.heap.size W0 w'

/-- A new cursor, its block a letter. -/
def NewCur (v : Value) (w : World) (e : Ending) (w' : World) : Prop := ∃ g : Nat, e = .returned (.pointer (some ⟨g, 0, none⟩)) ∧ CurOk w v g w'

theorem new_at (v : Value) (zs : List Int) (w : World) (h : RB w v zs) (hle : zs.length ≤ 1048576) :
    Calls Try.prog 53 #[v] w (NewCur v w) :=
  (new_any v zs w h hle).mono fun e w' ⟨he, hc⟩ => ⟨_, he, hc⟩

theorem Below.cur {W0 w : World} {v : Value} {g : Nat} (h : CurOk W0 v g w) : Below W0.heap.size W0 w := h.2.1

set_option maxHeartbeats 4000000 in
set_option maxRecDepth 100000 in
theorem drawRecipes_any (v : Value) (zs : List Int) (w : World) (h : RB w v zs) (hle : zs.length ≤ 1048576) :
    Calls Try.prog 23 #[v] w (DrawnRs w) := by
  go_enter Try.func23, Try.ntmps23
  go_wp2_with fail
  refine (new_at v zs _ (h.below (by (repeat (first | exact Below.refl _ _ | assumption | refine Below.drew ?_ | refine below_drewN ?_ _ | refine Below.alloc ?_ (by first | omega | (simp; done) | (simp; omega)) _ | refine Below.setCell ?_ (by first | omega | (simp; done) | (simp; omega)) _ | refine Below.step (by assumption) ?_ (by first | omega | (simp; done) | (simp; omega)) | refine Below.mark (by assumption) (by assumption) ?_ (by first | omega | (simp; done) | (simp; omega)) (by first | omega | (simp; done) | (simp; omega)))))) hle).mono ?_
  rintro e w1 ⟨g, rfl, hc1⟩
  have hb1 := hc1.2.1
  have hsz1 := hb1.size
  have hgl := hc1.1
  simp at hsz1 hgl
  have hB3 : Blk w1 w.heap.size 46 #[.int .i64 0, .int .i64 0, .int .i64 0, .int .i64 0] := (((Blk.new w _ _).alloc _).alloc _).below hb1 (by simp; omega)
  have hB4 : Blk w1 (w.heap.size + 1) 46 #[.int .i64 0, .int .i64 0, .int .i64 0, .int .i64 0] := by
    have := (Blk.new (w.alloc (.cells #[.int .i64 0, .int .i64 0, .int .i64 0, .int .i64 0] 46)) 46 #[.int .i64 0, .int .i64 0, .int .i64 0, .int .i64 0]).alloc (.cells #[.int .i64 0, .int .i64 0, .int .i64 0, .int .i64 0] 46)
    simpa using this.below hb1 (by simp)
  have hB5 : Blk w1 (w.heap.size + 1 + 1) 46 #[.int .i64 0, .int .i64 0, .int .i64 0, .int .i64 0] := by
    have := (Blk.new ((w.alloc (.cells #[.int .i64 0, .int .i64 0, .int .i64 0, .int .i64 0] 46)).alloc (.cells #[.int .i64 0, .int .i64 0, .int .i64 0, .int .i64 0] 46)) 46 #[.int .i64 0, .int .i64 0, .int .i64 0, .int .i64 0])
    simpa using this.below hb1 (by simp)
  have hw1 : Below w.heap.size w w1 := by
    refine Below.trans ?_ (hb1.mono (by simp; omega))
    (repeat (first | exact Below.refl _ _ | assumption | refine Below.drew ?_ | refine below_drewN ?_ _ | refine Below.alloc ?_ (by first | omega | (simp; done) | (simp; omega)) _ | refine Below.setCell ?_ (by first | omega | (simp; done) | (simp; omega)) _ | refine Below.step (by assumption) ?_ (by first | omega | (simp; done) | (simp; omega)) | refine Below.mark (by assumption) (by assumption) ?_ (by first | omega | (simp; done) | (simp; omega)) (by first | omega | (simp; done) | (simp; omega))))
  obtain ⟨W1, hW1⟩ : ∃ W1, W1 = ((w.alloc (.cells #[.int .i64 0, .int .i64 0, .int .i64 0, .int .i64 0] 46)).alloc (.cells #[.int .i64 0, .int .i64 0, .int .i64 0, .int .i64 0] 46)).alloc (.cells #[.int .i64 0, .int .i64 0, .int .i64 0, .int .i64 0] 46) := ⟨_, rfl⟩
  have hr1 : RB W1 v zs := h.below (by rw [hW1]; (repeat (first | exact Below.refl _ _ | assumption | refine Below.drew ?_ | refine below_drewN ?_ _ | refine Below.alloc ?_ (by first | omega | (simp; done) | (simp; omega)) _ | refine Below.setCell ?_ (by first | omega | (simp; done) | (simp; omega)) _ | refine Below.step (by assumption) ?_ (by first | omega | (simp; done) | (simp; omega)) | refine Below.mark (by assumption) (by assumption) ?_ (by first | omega | (simp; done) | (simp; omega)) (by first | omega | (simp; done) | (simp; omega)))))
  rw [← hW1] at hc1
  have HR := Lib.hid hr1
  clear hb1 hr1 hW1
  go_wp2_with fail
  refine (drawRecipe_any W1 v zs g _ HR.out hle hc1).mono ?_
  rintro e w2 ⟨a0, a1, a2, a3, rfl, hr, hc2, hg2⟩
  have hl2 := hc2.lt
  go_wp2_with fail
  refine (drawRecipe_any W1 v zs g _ HR.out hle (hc2.alloc _)).mono ?_
  rintro e w3 ⟨b0, b1, b2, b3, rfl, hs, hc3, hg3⟩
  have hl3 := hc3.lt
  have hgw : w.heap.size ≤ g := by omega
  have hB3' := ((hB3.grown hg2 (by omega)).alloc (.cells #[.int .i64 a0, .int .i64 a1, .int .i64 a2, .int .i64 a3] 46)).grown hg3 (by omega)
  have hB4' := ((hB4.grown hg2 (by omega)).alloc (.cells #[.int .i64 a0, .int .i64 a1, .int .i64 a2, .int .i64 a3] 46)).grown hg3 (by omega)
  have hB5' := ((hB5.grown hg2 (by omega)).alloc (.cells #[.int .i64 a0, .int .i64 a1, .int .i64 a2, .int .i64 a3] 46)).grown hg3 (by omega)
  have hA := ((Blk.new w2 46 #[.int .i64 a0, .int .i64 a1, .int .i64 a2, .int .i64 a3]).grown hg3 (by omega))
  have hA' := hA.alloc (.cells #[.int .i64 b0, .int .i64 b1, .int .i64 b2, .int .i64 b3] 46)
  have hBb := Blk.new w3 46 #[.int .i64 b0, .int .i64 b1, .int .i64 b2, .int .i64 b3]
  have hC4 := hc3.alloc (.cells #[.int .i64 b0, .int .i64 b1, .int .i64 b2, .int .i64 b3] 46)
  have hB34 := hB3'.alloc (.cells #[.int .i64 b0, .int .i64 b1, .int .i64 b2, .int .i64 b3] 46)
  have hB44 := hB4'.alloc (.cells #[.int .i64 b0, .int .i64 b1, .int .i64 b2, .int .i64 b3] 46)
  have hB54 := hB5'.alloc (.cells #[.int .i64 b0, .int .i64 b1, .int .i64 b2, .int .i64 b3] 46)
  have hl2' := hA.lt
  have hwb : Below w.heap.size w (w3.alloc (.cells #[.int .i64 b0, .int .i64 b1, .int .i64 b2, .int .i64 b3] 46)) := by
    refine Below.alloc ?_ (by omega) _
    refine Below.grown ?_ hg3 (by simp; omega) (fun k hk => by cases hk; omega)
    refine Below.alloc ?_ (by omega) _
    exact hw1.grown hg2 (by omega) (fun k hk => by cases hk; omega)
  have hws : (w3.alloc (.cells #[.int .i64 b0, .int .i64 b1, .int .i64 b2, .int .i64 b3] 46)).heap.size = w3.heap.size + 1 := by simp
  go_wp2
  generalize w3.alloc (.cells #[.int .i64 b0, .int .i64 b1, .int .i64 b2, .int .i64 b3] 46) = w4 at *
  have ne1 : ¬ w.heap.size = g := by omega
  have ne2 : ¬ w.heap.size + 1 = g := by omega
  have ne3 : ¬ w.heap.size + 1 + 1 = g := by omega
  have ne4 : ¬ w2.heap.size = g := by omega
  have ne5 : ¬ w3.heap.size = g := by omega
  have ne6 : ¬ w.heap.size = w2.heap.size := by omega
  have ne7 : ¬ w.heap.size + 1 = w2.heap.size := by omega
  have ne8 : ¬ w.heap.size + 1 + 1 = w2.heap.size := by omega
  have ne9 : ¬ w.heap.size = w3.heap.size := by omega
  have nea : ¬ w.heap.size + 1 = w3.heap.size := by omega
  have neb : ¬ w.heap.size + 1 + 1 = w3.heap.size := by omega
  have s1 : w.heap.size < w4.heap.size := by omega
  have s2 : w.heap.size + 1 < w4.heap.size := by omega
  have s3 : w.heap.size + 1 + 1 < w4.heap.size := by omega
  have s4 : w2.heap.size < w4.heap.size := by omega
  have s5 : w3.heap.size < w4.heap.size := by omega
  have q0 := hA'.cell 0
  have q1 := hA'.cell 1
  have q2 := hA'.cell 2
  have q3 := hA'.cell 3
  have p0 := hBb.cell 0
  have p1 := hBb.cell 1
  have p2 := hBb.cell 2
  have p3 := hBb.cell 3
  have x0 := hB34.cell 0
  have x1 := hB34.cell 1
  have x2 := hB34.cell 2
  have x3 := hB34.cell 3
  have y0 := hB44.cell 0
  have y1 := hB44.cell 1
  have y2 := hB44.cell 2
  have y3 := hB44.cell 3
  have z0 := hB54.cell 0
  have z1 := hB54.cell 1
  have z2 := hB54.cell 2
  have z3 := hB54.cell 3
  have fx := fun i => hB34.frozen i
  have fy := fun i => hB44.frozen i
  have fz := fun i => hB54.frozen i
  simp only [List.getElem?_toArray, List.getElem?_cons_succ, List.getElem?_cons_zero] at q0 q1 q2 q3 p0 p1 p2 p3 x0 x1 x2 x3 y0 y1 y2 y3 z0 z1 z2 z3
  have hlg : g < w4.heap.size := by omega
  clear hB3 hB4 hB5 hB3' hB4' hB5' hA hA' hBb hB34 hB44 hB54 hg2 hg3 hc1 hc2 hc3 hw1 hws hsz1 hgl hl2 hl2' hl3
  go_region_held3 (fun w' => w'.cell? ⟨w2.heap.size, 0, none⟩ = some (.int .i64 a0) ∧ w'.cell? ⟨w2.heap.size, 1, none⟩ = some (.int .i64 a1) ∧ w'.cell? ⟨w2.heap.size, 2, none⟩ = some (.int .i64 a2) ∧ w'.cell? ⟨w2.heap.size, 3, none⟩ = some (.int .i64 a3) ∧
      w'.cell? ⟨w3.heap.size, 0, none⟩ = some (.int .i64 b0) ∧ w'.cell? ⟨w3.heap.size, 1, none⟩ = some (.int .i64 b1) ∧ w'.cell? ⟨w3.heap.size, 2, none⟩ = some (.int .i64 b2) ∧ w'.cell? ⟨w3.heap.size, 3, none⟩ = some (.int .i64 b3))
    (go_keep)
    (first | (go_at_call 69; refine (drawRecipe_any W1 v zs g _ HR.out hle (by repeat (first | assumption | refine CurOk.drew ?_ | refine CurOk.alloc ?_ _ | refine CurOk.far ?_ (by first | assumption | omega | (simp; done) | (simp; omega)) _))).mono ?_; rintro e w5 ⟨c0, c1, c2, c3, rfl, ht, hc5, hg5⟩; obtain ⟨hcf5, hff5⟩ := gcell hg5; (try simp at hcf5 hff5)))
  all_goals (rename_i hHeld; clear hHeld)
  all_goals go_wp2
  all_goals refine bodyPost_ret (v := .tuple #[.agg #[.int .i64 a0, .int .i64 a1, .int .i64 a2, .int .i64 a3], .agg #[.int .i64 b0, .int .i64 b1, .int .i64 b2, .int .i64 b3], .agg #[.int .i64 c0, .int .i64 c1, .int .i64 c2, .int .i64 c3]]) (by simp [results, Try.results23, go_sem, *]) rfl ?_
  all_goals refine ⟨a0, a1, a2, a3, b0, b1, b2, b3, c0, c1, c2, c3, rfl, hr, hs, ht, ?_⟩
  all_goals repeat' (first | (with_reducible exact hwb) | (with_reducible refine Below.drew ?_) | (with_reducible refine Below.setCell ?_ ?_ _) | (with_reducible refine Below.grown ?_ hg5 ?_ ?_))
  all_goals first | omega | (simp; done) | (simp; omega) | (intro k hk; cases hk; omega)

end Go.Proofs.Ytdladmmhmncpoaa
