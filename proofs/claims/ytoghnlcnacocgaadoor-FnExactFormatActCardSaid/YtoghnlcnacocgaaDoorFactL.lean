/-
  The law of FormatAct, walked.
-/
import Derived.Test.YtoghnlcnacocgaaDoorFact
import Derived.Test.YtoghnlcnacocgaaDoorFactS
set_option linter.unusedSimpArgs false
set_option linter.unusedVariables false
namespace Go.Proofs.YtoghnlcnacocgaaDoor
open Go.RowKit

set_option maxHeartbeats 1000000 in
theorem factLaw_any (k a b : Int) (w : World) :
    Calls Tryd.prog 4 #[.agg #[.int .i64 k, .int .i64 a, .int .i64 b]] w fun e w' => e = .returned (.bool true) ∧ Below w.heap.size w w' := by
  obtain ⟨s, hs⟩ : ∃ s, actS k a b = s := ⟨_, rfl⟩
  obtain ⟨x, hx⟩ : ∃ x, actB k a b = x := ⟨_, rfl⟩
  go_enter Tryd.func4, Tryd.ntmps4
  go_wp2_with fail
  refine (toAct_any _ _ _ _).mono ?_
  rintro e w1 ⟨rfl, hb1⟩; (first | (with_reducible have hcf1 := bcell_drew hb1) | have hcf1 := bcell hb1); obtain ⟨hc1, hf1⟩ := hcf1; have hz1 := hb1.size; (try simp at hz1); (try have hp1_0 : w.heap.size < w1.heap.size := by omega); (try have hp1_1 : w.heap.size + 1 < w1.heap.size := by omega); (try have hp1_2 : w.heap.size + 2 < w1.heap.size := by omega)
  go_wp2_with fail
  refine (sFact_any _ _ _ _).mono ?_
  rw [hs, hx]
  rintro e w2 ⟨rfl, hb2⟩; (first | (with_reducible have hcf2 := bcell_drew hb2) | have hcf2 := bcell hb2); obtain ⟨hc2, hf2⟩ := hcf2; have hz2 := hb2.size; (try simp at hz2); (try have hp2_0 : w.heap.size < w2.heap.size := by omega); (try have hp2_1 : w.heap.size + 1 < w2.heap.size := by omega); (try have hp2_2 : w.heap.size + 2 < w2.heap.size := by omega)
  go_wp2_with fail
  refine (toAct_any _ _ _ _).mono ?_
  rintro e w3 ⟨rfl, hb3⟩; (first | (with_reducible have hcf3 := bcell_drew hb3) | have hcf3 := bcell hb3); obtain ⟨hc3, hf3⟩ := hcf3; have hz3 := hb3.size; (try simp at hz3); (try have hp3_0 : w.heap.size < w3.heap.size := by omega); (try have hp3_1 : w.heap.size + 1 < w3.heap.size := by omega); (try have hp3_2 : w.heap.size + 2 < w3.heap.size := by omega)
  go_wp2_with fail
  refine (iFact_any _ _ _ _).mono ?_
  rw [hs, hx]
  rintro e w4 ⟨rfl, hb4⟩; (first | (with_reducible have hcf4 := bcell_drew hb4) | have hcf4 := bcell hb4); obtain ⟨hc4, hf4⟩ := hcf4; have hz4 := hb4.size; (try simp at hz4); (try have hp4_0 : w.heap.size < w4.heap.size := by omega); (try have hp4_1 : w.heap.size + 1 < w4.heap.size := by omega); (try have hp4_2 : w.heap.size + 2 < w4.heap.size := by omega)
  clear hs hx
  go_wp2
  go_ret
  exact ⟨rfl, by (repeat (first | exact Below.refl _ _ | assumption | refine Below.drew ?_ | refine below_drewN ?_ _ | refine Below.alloc ?_ (by first | omega | (simp; done) | (simp; omega)) _ | refine Below.setCell ?_ (by first | omega | (simp; done) | (simp; omega)) _ | refine Below.step (by assumption) ?_ (by first | omega | (simp; done) | (simp; omega)) | refine Below.mark (by assumption) (by assumption) ?_ (by first | omega | (simp; done) | (simp; omega)) (by first | omega | (simp; done) | (simp; omega))))⟩

end Go.Proofs.YtoghnlcnacocgaaDoor
