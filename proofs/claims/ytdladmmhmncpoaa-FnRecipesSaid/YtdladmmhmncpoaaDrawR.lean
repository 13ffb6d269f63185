/-
  Drawn recipes.
-/
import Derived.Test.YtdladmmhmncpoaaDraw
import Derived.Test.YtdladmmhmncpoaaAvgLaw
import Derived.Deep.RegionWith
set_option linter.unusedSimpArgs false
set_option linter.unusedVariables false
namespace Go.Proofs.Ytdladmmhmncpoaa
open Go.RowKit

/-- A drawn recipe. -/
def DrR (r : Rc) : Prop := 100 ≤ r.a ∧ r.a ≤ 210 ∧ 150 ≤ r.l ∧ r.l ≤ 220 ∧ 0 ≤ r.m ∧ r.m ≤ 19 ∧ r.s = 1000 - r.a - r.l - r.m

theorem CurOk.alloc {W0 w : World} {v : Value} {g : Nat} (h : CurOk W0 v g w) (o : Obj) : CurOk W0 v g (w.alloc o) := by
  obtain ⟨hg, hbl, i, s, hi, hB⟩ := h
  exact ⟨hg, hbl.alloc hbl.size o, i, s, hi, hB.alloc o⟩

theorem CurOk.lt {W0 w : World} {v : Value} {g : Nat} (h : CurOk W0 v g w) : g < w.heap.size := by
  obtain ⟨hg, hbl, i, s, hi, hB⟩ := h
  exact hB.lt

theorem CurOk.far {W0 w : World} {v : Value} {g : Nat} (h : CurOk W0 v g w) {p : Addr} (hp : g < p.block) (x : Value) : CurOk W0 v g (w.setCell p x) := by
  obtain ⟨hg, hbl, i, s, hi, hB⟩ := h
  exact ⟨hg, hbl.setCell (by omega) _, i, s, hi, hB.far (by omega) x⟩

/-- A block that is not the cursor's, behind a draw. -/
theorem Blk.grown {w w' : World} {b g : Nat} {t : TypeId} {cs : Array Value} (h : Blk w b t cs) (hg : w.grownBy w' (some g)) (hne : b ≠ g) : Blk w' b t cs :=
  (hg.block b h.lt (fun e => hne (by cases e; rfl))).trans h

def DrawnR (W0 : World) (v : Value) (g : Nat) (w : World) (e : Ending) (w' : World) : Prop :=
  ∃ s a l m : Int, e = .returned (.agg #[.int .i64 s, .int .i64 a, .int .i64 l, .int .i64 m]) ∧ DrR ⟨s, a, l, m⟩ ∧ CurOk W0 v g w' ∧ w.grownBy w' (some g)

theorem only_alloc {a w : World} {row : Option Nat} (h : a.grownBy w row) (o : Obj) : a.grownBy (w.alloc o) row :=
  ⟨h.os, h.tape, h.output, Nat.le_trans h.size (by simp), fun i hi hne => (Below.heap_alloc w o i (Nat.lt_of_lt_of_le hi h.size)).trans (h.block i hi hne)⟩

theorem only_setCell {a w : World} {row : Option Nat} (h : a.grownBy w row) {p : Addr} (hp : a.heap.size ≤ p.block) (u : Value) : a.grownBy (w.setCell p u) row :=
  ⟨h.os, h.tape, h.output, by simpa [World.setCell] using h.size, fun i hi hne => (Below.heap_setCell w p u i (by rintro rfl; omega)).trans (h.block i hi hne)⟩

set_option maxHeartbeats 1000000 in
set_option maxRecDepth 100000 in
theorem drawRecipe_any (W0 : World) (v : Value) (zs : List Int) (g : Nat) (w : World) (h : RB W0 v zs) (hle : zs.length ≤ 1048576) (hc : CurOk W0 v g w) :
    Calls Try.prog 69 #[.pointer (some ⟨g, 0, none⟩)] w (DrawnR W0 v g w) := by
  have hlt := hc.lt
  go_enter Try.func69, Try.ntmps69
  go_wp2_with fail
  refine (below_any W0 v zs g 12 _ h hle (by omega) (hc.alloc _)).mono ?_
  rintro e w1 ⟨x, rfl, x0, x1, hc1, hg1⟩
  go_wp2_with fail
  refine (below_any W0 v zs g 8 _ h hle (by omega) hc1).mono ?_
  rintro e w2 ⟨y, rfl, y0, y1, hc2, hg2⟩
  go_wp2_with fail
  refine (below_any W0 v zs g 20 _ h hle (by omega) hc2).mono ?_
  rintro e w3 ⟨z, rfl, z0, z1, hc3, hg3⟩
  have hR : Blk w3 w.heap.size 46 #[.int .i64 0, .int .i64 0, .int .i64 0, .int .i64 0] := ((((Blk.new w _ _).grown hg1 (by omega)).grown hg2 (by omega)).grown hg3 (by omega))
  have r0 := hR.cell 0
  have r1 := hR.cell 1
  have r2 := hR.cell 2
  have r3 := hR.cell 3
  have g0 := hR.frozen 0
  have g1 := hR.frozen 1
  have g2 := hR.frozen 2
  have g3 := hR.frozen 3
  simp only [List.getElem?_toArray, List.getElem?_cons_succ, List.getElem?_cons_zero] at r0 r1 r2 r3
  have hl3 := hR.lt
  go_wp2
  have HC := Lib.hid hc3
  have HG := Lib.hid (grownBy_trans (grownBy_trans (grownBy_trans (only_alloc (World.grownBy.refl w (some g)) _) hg1) hg2) hg3)
  refine bodyPost_ret (v := .agg #[.int .i64 (1000 - (100 + x * 10) - (150 + y * 10) - z), .int .i64 (100 + x * 10), .int .i64 (150 + y * 10), .int .i64 z]) (by simp [results, Try.results69, go_sem, r0, r1, r2, r3, hl3]) rfl ?_
  refine ⟨_, _, _, _, rfl, ⟨by simp; omega, by simp; omega, by simp; omega, by simp; omega, by simp; omega, by simp; omega, by simp⟩, ?_, ?_⟩
  · exact ((((HC.out.far (by simpa using hlt) _).far (by simpa using hlt) _).far (by simpa using hlt) _).far (by simpa using hlt) _).alloc _
  · exact only_alloc (only_setCell (only_setCell (only_setCell (only_setCell HG.out (by simp) _) (by simp) _) (by simp) _) (by simp) _) _

end Go.Proofs.Ytdladmmhmncpoaa
