/-
  A lead between two nodes; the windows that are written out.
-/
import Derived.Test.YtognjdappchpkaaGreatDropA
set_option linter.unusedSimpArgs false
set_option linter.unusedVariables false
namespace Go.Proofs.YtognjdappchpkaaGreat
open Go.RowKit

attribute [local go_sem ↓] run_eqNode run_neNode run_mn2 run_mx2

/-- The place of the lead between two nodes, or -1. -/
noncomputable def betwL (ns ls : List Pr) (a b : Int) : Int := if winB ns ls then idxP ls (mn2 a b, mx2 a b) else -1



/-- A list of pairs just laid is the call's own. -/
theorem OwnP.lit {w : World} {l : List (Int × Int)} {cs : Array Value} {t : TypeId} {g n c base : Nat} (hg : g = w.heap.size) (hcs : cs.toList = l.flatMap prc) (hn : n = l.length) (hc : c = l.length) (hm : l.length ≤ maxLen) (hb : base ≤ w.heap.size) :
    OwnP t base (w.alloc (.cells cs t)) (.slice (some ⟨g, 0, none⟩) n c) l := by
  subst hg hn hc
  have hsz : cs.size = l.length * 2 := by
    have := congrArg List.length hcs
    rw [flat_len prc 2 (fun _ => rfl)] at this
    simpa using this
  refine ⟨flat_len prc 2 (fun _ => rfl) l, .inr ⟨w.heap.size, l.length, cs, rfl, hb, heap_alloc_new w _, Nat.le_refl _, hm, hsz, ?_⟩⟩
  rw [hcs, ← flat_len prc 2 (fun _ => rfl) l, List.take_length]

def sampleN : List Pr := [(0, 0), (8, 0), (8, 8), (0, 8), (4, 4)]
def sampleL : List Pr := [(0, 1), (1, 2), (2, 3), (0, 3), (0, 4), (1, 4), (2, 4), (3, 4)]

theorem RetW.lit {w : World} {ns ls : List Pr} {cR cN cL : Array Value} {tR : TypeId} {g1 g2 n m : Nat} (h1 : g1 = w.heap.size + 1) (h2 : g2 = w.heap.size + 1 + 1) (hn : n = ns.length) (hm : m = ls.length) (hcn : cN.toList = ns.flatMap prc) (hcl : cL.toList = ls.flatMap prc) (hx : ns.length ≤ maxLen) (hy : ls.length ≤ maxLen) :
    RetW ns ls w (.returned (.agg #[.slice (some ⟨g1, 0, none⟩) n n, .slice (some ⟨g2, 0, none⟩) m m])) (((w.alloc (.cells cR tR)).alloc (.cells cN 78)).alloc (.cells cL 80)) := by
  subst h1 h2 hn hm
  refine ⟨_, _, _, _, rfl, ⟨OwnP.alloc (OwnP.lit (by simp) hcn rfl rfl hx (by simp)) _, OwnP.lit (by simp) hcl rfl rfl hy (by first | omega | (simp; done) | (simp; omega)), ?_⟩, by (repeat' (first | (with_reducible exact Below.refl _ _) | (with_reducible assumption) | (with_reducible refine Below.drew ?_) | (with_reducible refine below_drewN ?_ _) | (with_reducible refine Below.alloc ?_ ?_ _) | (with_reducible refine Below.setCell ?_ ?_ _) | (with_reducible refine Below.step (by assumption) ?_ ?_))); all_goals (first | omega | (simp; done) | (simp; omega))⟩
  intro k e1 e2
  have e1' : some (w.heap.size + 1) = some k := e1
  have e2' : some (w.heap.size + 1 + 1) = some k := e2
  have f1 := Option.some.inj e1'
  have f2 := Option.some.inj e2'
  omega



set_option maxHeartbeats 2000000 in
set_option maxRecDepth 100000 in
theorem sSample_any (w : World) : Calls Tryz.prog 104 #[] w (RetW sampleN sampleL w) := by
  go_enter Tryz.func104, Tryz.ntmps104
  go_wp2
  exact bodyPost_ret (v := .agg #[.slice (some ⟨w.heap.size + 1, 0, none⟩) 5 5, .slice (some ⟨w.heap.size + 1 + 1, 0, none⟩) 8 8]) (by simp [results, Tryz.results104, go_sem]) rfl (RetW.lit rfl rfl rfl rfl rfl rfl (by simp [sampleN, maxLen]) (by simp [sampleL, maxLen]))

def shN1 : List Pr := [(0, 0), (12, 0), (4, 12), (4, 3), (7, 3), (5, 6)]
def shL1 : List Pr := [(0, 1), (1, 2), (0, 2), (3, 4), (4, 5), (3, 5), (0, 3)]
def shN2 : List Pr := [(0, 0), (4, 0), (8, 0), (12, 0), (0, 5), (4, 5), (8, 5), (12, 5), (0, 9), (4, 9), (8, 9), (12, 9)]
def shL2 : List Pr := [(0, 1), (1, 2), (2, 3), (4, 5), (5, 6), (6, 7), (8, 9), (9, 10), (10, 11), (0, 4), (1, 5), (2, 6), (3, 7), (4, 8), (5, 9), (6, 10), (7, 11)]
def shN3 : List Pr := [(6, 6), (6, 0), (12, 4), (10, 11), (2, 11), (0, 4)]
def shL3 : List Pr := [(0, 1), (0, 2), (0, 3), (0, 4), (0, 5), (1, 2), (2, 3), (3, 4), (4, 5), (1, 5)]
def shN4 : List Pr := [(0, 0), (3, 0), (3, 3), (0, 3), (6, 1), (9, 1), (9, 5), (6, 5)]
def shL4 : List Pr := [(0, 1), (1, 2), (2, 3), (0, 3), (4, 5), (5, 6), (6, 7), (4, 7)]
/-- One of several windows. -/
def shapeN (k : Int) : List Pr := if k = 0 then sampleN else if k = 1 then shN1 else if k = 2 then shN2 else if k = 3 then shN3 else shN4
def shapeL (k : Int) : List Pr := if k = 0 then sampleL else if k = 1 then shL1 else if k = 2 then shL2 else if k = 3 then shL3 else shL4

set_option maxHeartbeats 4000000 in
set_option maxRecDepth 100000 in
theorem sShape_1 (w : World) : Calls Tryz.prog 78 #[.int .i64 1] w (RetW shN1 shL1 w) := by
  go_enter Tryz.func78, Tryz.ntmps78
  go_wp2
  exact bodyPost_ret (v := .agg #[.slice (some ⟨w.heap.size + 1, 0, none⟩) 6 6, .slice (some ⟨w.heap.size + 1 + 1, 0, none⟩) 7 7]) (by simp [results, Tryz.results78, go_sem]) rfl (RetW.lit rfl rfl rfl rfl rfl rfl (by simp [shN1, maxLen]) (by simp [shL1, maxLen]))

set_option maxHeartbeats 4000000 in
set_option maxRecDepth 100000 in
theorem sShape_2 (w : World) : Calls Tryz.prog 78 #[.int .i64 2] w (RetW shN2 shL2 w) := by
  go_enter Tryz.func78, Tryz.ntmps78
  go_wp2
  exact bodyPost_ret (v := .agg #[.slice (some ⟨w.heap.size + 1, 0, none⟩) 12 12, .slice (some ⟨w.heap.size + 1 + 1, 0, none⟩) 17 17]) (by simp [results, Tryz.results78, go_sem]) rfl (RetW.lit rfl rfl rfl rfl rfl rfl (by simp [shN2, maxLen]) (by simp [shL2, maxLen]))

set_option maxHeartbeats 4000000 in
set_option maxRecDepth 100000 in
theorem sShape_3 (w : World) : Calls Tryz.prog 78 #[.int .i64 3] w (RetW shN3 shL3 w) := by
  go_enter Tryz.func78, Tryz.ntmps78
  go_wp2
  exact bodyPost_ret (v := .agg #[.slice (some ⟨w.heap.size + 1, 0, none⟩) 6 6, .slice (some ⟨w.heap.size + 1 + 1, 0, none⟩) 10 10]) (by simp [results, Tryz.results78, go_sem]) rfl (RetW.lit rfl rfl rfl rfl rfl rfl (by simp [shN3, maxLen]) (by simp [shL3, maxLen]))

set_option maxHeartbeats 4000000 in
set_option maxRecDepth 100000 in
theorem sShape_4 (k : Int) (w : World) (h0 : ¬ k = 0) (h1 : ¬ k = 1) (h2 : ¬ k = 2) (h3 : ¬ k = 3) : Calls Tryz.prog 78 #[.int .i64 k] w (RetW shN4 shL4 w) := by
  have e0 : (k == 0) = false := beq_eq_false_iff_ne.2 h0
  have e1 : (k == 1) = false := beq_eq_false_iff_ne.2 h1
  have e2 : (k == 2) = false := beq_eq_false_iff_ne.2 h2
  have e3 : (k == 3) = false := beq_eq_false_iff_ne.2 h3
  go_enter Tryz.func78, Tryz.ntmps78
  go_wp2
  exact bodyPost_ret (v := .agg #[.slice (some ⟨w.heap.size + 1, 0, none⟩) 8 8, .slice (some ⟨w.heap.size + 1 + 1, 0, none⟩) 8 8]) (by simp [results, Tryz.results78, go_sem]) rfl (RetW.lit rfl rfl rfl rfl rfl rfl (by simp [shN4, maxLen]) (by simp [shL4, maxLen]))

set_option maxHeartbeats 4000000 in
set_option maxRecDepth 100000 in
theorem sShape_0 (w : World) : Calls Tryz.prog 78 #[.int .i64 0] w (RetW sampleN sampleL w) := by
  go_enter Tryz.func78, Tryz.ntmps78
  go_wp2_with fail
  refine (sSample_any _).mono ?_
  rintro e w1 ⟨An, cn, Al, cl, rfl, ho, hb⟩
  have hz := hb.size
  simp at hz
  have ho' : OwnW (w.heap.size + 1) w1 (.slice An sampleN.length cn) (.slice Al sampleL.length cl) sampleN sampleL := by simpa using ho
  have hR : Blk w1 w.heap.size 34 #[.slice none 0 0, .slice none 0 0] := Blk.below (Blk.newAt rfl) hb (by first | omega | (simp; done) | (simp; omega))
  have hbw : Below w.heap.size w w1 := by (repeat' (first | (with_reducible exact Below.refl _ _) | (with_reducible assumption) | (with_reducible refine Below.drew ?_) | (with_reducible refine below_drewN ?_ _) | (with_reducible refine Below.alloc ?_ ?_ _) | (with_reducible refine Below.setCell ?_ ?_ _) | (with_reducible refine Below.step (by assumption) ?_ ?_))); all_goals (first | omega | (simp; done) | (simp; omega))
  (have r_0 := hR.cell 0); (have r_1 := hR.cell 1); simp only [List.getElem?_toArray, List.getElem?_cons_succ, List.getElem?_cons_zero] at r_0 r_1; (have r_f0 := hR.frozen 0); (have r_f1 := hR.frozen 1)
  have hO := Lib.hid (((ho'.setLow (p := ⟨w.heap.size, 0, none⟩) (show w.heap.size < w.heap.size + 1 by omega) (.slice An sampleN.length cn)).setLow (p := ⟨w.heap.size, 1, none⟩) (show w.heap.size < w.heap.size + 1 by omega) (.slice Al sampleL.length cl)))
  have HB := Lib.hid ((hbw.setCell (p := ⟨w.heap.size, 0, none⟩) (Nat.le_refl _) (.slice An sampleN.length cn)).setCell (p := ⟨w.heap.size, 1, none⟩) (Nat.le_refl _) (.slice Al sampleL.length cl))
  clear hb ho ho' hbw
  generalize hNN : sampleN = NN at *
  generalize hLL : sampleL = LL at *
  go_wp2
  exact bodyPost_ret (v := .agg #[.slice An NN.length cn, .slice Al LL.length cl]) (by simp [results, Tryz.results78, go_sem, r_0, r_1]) rfl ⟨_, _, _, _, rfl, ⟨hO.out.1.mono (by omega), hO.out.2.1.mono (by omega), hO.out.2.2⟩, HB.out⟩

theorem sShape_any (k : Int) (w : World) : Calls Tryz.prog 78 #[.int .i64 k] w (RetW (shapeN k) (shapeL k) w) := by
  unfold shapeN shapeL
  by_cases h0 : k = 0
  · subst h0; exact sShape_0 w
  by_cases h1 : k = 1
  · subst h1; exact sShape_1 w
  by_cases h2 : k = 2
  · subst h2; exact sShape_2 w
  by_cases h3 : k = 3
  · subst h3; exact sShape_3 w
  · rw [if_neg h0, if_neg h1, if_neg h2, if_neg h3, if_neg h0, if_neg h1, if_neg h2, if_neg h3]
    exact sShape_4 k w h0 h1 h2 h3

end Go.Proofs.YtognjdappchpkaaGreat
