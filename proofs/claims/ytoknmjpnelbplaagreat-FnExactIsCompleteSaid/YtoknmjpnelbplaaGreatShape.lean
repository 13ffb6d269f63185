/-
  A lead between two nodes; the windows that are written out.
-/
import Derived.Test.YtoknmjpnelbplaaGreatDropA
set_option linter.unusedSimpArgs false
set_option linter.unusedVariables false
namespace Go.Proofs.YtoknmjpnelbplaaGreat
open Go.RowKit

attribute [local go_sem ↓] run_eqNode run_neNode run_mn2 run_mx2

/-- The place of the lead between two nodes, or -1. -/
noncomputable def betwL (ns ls : List Pr) (a b : Int) : Int := if winB ns ls then idxP ls (mn2 a b, mx2 a b) else -1



/-- A list of pairs just laid is the call's own. -/
theorem OwnP.lit {w : World} {l : List (Int × Int)} {cs : Array Value} {t : TypeId} {g n c base : Nat} (hg : g = w.heap.size) (hcs : cs.toList = l.flatMap prc) (hn : n = l.length) (hc : c = l.length) (hm : l.length ≤ maxLen) (hb : base ≤ w.heap.size) :
    OwnP t base (w.alloc (.cells cs t)) (.slice (some ⟨g, 0, none⟩) n c) l := by
  subst hg hn hc
  have hsz : cs.size = l.length * 2 := by
    have := congrArg List.length hcs
    rw [flat_len prc 2 (fun _ => rfl)] at this
    simpa using this
  refine ⟨flat_len prc 2 (fun _ => rfl) l, .inr ⟨w.heap.size, l.length, cs, rfl, hb, heap_alloc_new w _, Nat.le_refl _, hm, hsz, ?_⟩⟩
  rw [hcs, ← flat_len prc 2 (fun _ => rfl) l, List.take_length]

def sampleN : List Pr := [(0, 0), (8, 0), (8, 8), (0, 8), (4, 4)]
def sampleL : List Pr := [(0, 1), (1, 2), (2, 3), (0, 3), (0, 4), (1, 4), (2, 4), (3, 4)]

theorem RetW.lit {w : World} {ns ls : List Pr} {cR cN cL : Array Value} {tR : TypeId} {g1 g2 n m : Nat} (h1 : g1 = w.heap.size + 1) (h2 : g2 = w.heap.size + 1 + 1) (hn : n = ns.length) (hm : m = ls.length) (hcn : cN.toList = ns.flatMap prc) (hcl : cL.toList = ls.flatMap prc) (hx : ns.length ≤ maxLen) (hy : ls.length ≤ maxLen) :
    RetW ns ls w (.returned (.agg #[.slice (some ⟨g1, 0, none⟩) n n, .slice (some ⟨g2, 0, none⟩) m m])) (((w.alloc (.cells cR tR)).alloc (.cells cN 141)).alloc (.cells cL 143)) := by
  subst h1 h2 hn hm
  refine ⟨_, _, _, _, rfl, ⟨OwnP.alloc (OwnP.lit (by simp) hcn rfl rfl hx (by simp)) _, OwnP.lit (by simp) hcl rfl rfl hy (by first | omega | (simp; done) | (simp; omega)), ?_⟩, by (repeat' (first | (with_reducible exact Below.refl _ _) | (with_reducible assumption) | (with_reducible refine Below.drew ?_) | (with_reducible refine below_drewN ?_ _) | (with_reducible refine Below.alloc ?_ ?_ _) | (with_reducible refine Below.setCell ?_ ?_ _) | (with_reducible refine Below.step (by assumption) ?_ ?_))); all_goals (first | omega | (simp; done) | (simp; omega))⟩
  intro k e1 e2
  have e1' : some (w.heap.size + 1) = some k := e1
  have e2' : some (w.heap.size + 1 + 1) = some k := e2
  have f1 := Option.some.inj e1'
  have f2 := Option.some.inj e2'
  omega

set_option maxHeartbeats 2000000 in
set_option maxRecDepth 100000 in
theorem iSample_any (w : World) : Calls Tryz.prog 77 #[] w (RetW sampleN sampleL w) := by
  go_enter Tryz.func77, Tryz.ntmps77
  go_wp2
  exact bodyPost_ret (v := .agg #[.slice (some ⟨w.heap.size + 1, 0, none⟩) 5 5, .slice (some ⟨w.heap.size + 1 + 1, 0, none⟩) 8 8]) (by simp [results, Tryz.results77, go_sem]) rfl (RetW.lit rfl rfl rfl rfl rfl rfl (by simp [sampleN, maxLen]) (by simp [sampleL, maxLen]))

set_option maxHeartbeats 2000000 in
set_option maxRecDepth 100000 in
theorem sSample_any (w : World) : Calls Tryz.prog 76 #[] w (RetW sampleN sampleL w) := by
  go_enter Tryz.func76, Tryz.ntmps76
  go_wp2
  exact bodyPost_ret (v := .agg #[.slice (some ⟨w.heap.size + 1, 0, none⟩) 5 5, .slice (some ⟨w.heap.size + 1 + 1, 0, none⟩) 8 8]) (by simp [results, Tryz.results76, go_sem]) rfl (RetW.lit rfl rfl rfl rfl rfl rfl (by simp [sampleN, maxLen]) (by simp [sampleL, maxLen]))

def shN1 : List Pr := [(0, 0), (12, 0), (4, 12), (4, 3), (7, 3), (5, 6)]
def shL1 : List Pr := [(0, 1), (1, 2), (0, 2), (3, 4), (4, 5), (3, 5), (0, 3)]
def shN2 : List Pr := [(0, 0), (4, 0), (8, 0), (12, 0), (0, 5), (4, 5), (8, 5), (12, 5), (0, 9), (4, 9), (8, 9), (12, 9)]
def shL2 : List Pr := [(0, 1), (1, 2), (2, 3), (4, 5), (5, 6), (6, 7), (8, 9), (9, 10), (10, 11), (0, 4), (1, 5), (2, 6), (3, 7), (4, 8), (5, 9), (6, 10), (7, 11)]
def shN3 : List Pr := [(6, 6), (6, 0), (12, 4), (10, 11), (2, 11), (0, 4)]
def shL3 : List Pr := [(0, 1), (0, 2), (0, 3), (0, 4), (0, 5), (1, 2), (2, 3), (3, 4), (4, 5), (1, 5)]
def shN4 : List Pr := [(0, 0), (3, 0), (3, 3), (0, 3), (6, 1), (9, 1), (9, 5), (6, 5)]
def shL4 : List Pr := [(0, 1), (1, 2), (2, 3), (0, 3), (4, 5), (5, 6), (6, 7), (4, 7)]
/-- One of several windows. -/
def shapeN (k : Int) : List Pr := if k = 0 then sampleN else if k = 1 then shN1 else if k = 2 then shN2 else if k = 3 then shN3 else shN4
def shapeL (k : Int) : List Pr := if k = 0 then sampleL else if k = 1 then shL1 else if k = 2 then shL2 else if k = 3 then shL3 else shL4













end Go.Proofs.YtoknmjpnelbplaaGreat
