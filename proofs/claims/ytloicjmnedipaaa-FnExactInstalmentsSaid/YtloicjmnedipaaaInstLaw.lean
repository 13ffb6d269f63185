/-
  The law of the instalments, walked.
-/
import Derived.Test.YtloicjmnedipaaaInst
import Derived.Test.YtloicjmnedipaaaMarkI
set_option linter.unusedSimpArgs false
set_option linter.unusedVariables false
namespace Go.Proofs.Ytloicjmnedipaaa
open Go.RowKit

theorem instAll_le (total n : Int) : (instAll total n).length ≤ 24 := by
  unfold instAll
  split
  · rename_i h
    simp only [Bool.and_eq_true] at h
    have := inB_true.1 h.2
    rw [instF_length]; omega
  · simp

set_option maxHeartbeats 4000000 in
theorem instLaw_any (total n : Int) (w : World) :
    Calls Try.prog 7 #[.int .i64 total, .int .i64 n] w fun e w' => e = .returned (.bool true) ∧ Below w.heap.size w w' := by
  have hle := instAll_le total n
  go_enter Try.func7, Try.ntmps7
  go_wp2_with fail
  refine (sInst_any _ _ _).mono ?_
  rintro e w1 ⟨v1, rfl, ho1, hb1⟩; (first | (with_reducible have hcf1 := bcell_drew hb1) | have hcf1 := bcell hb1); obtain ⟨hc1, hf1⟩ := hcf1; have hz1 := hb1.size; (try simp at hz1); (try have hp1_0 : w.heap.size < w1.heap.size := by omega); (try have hp1_1 : w.heap.size + 1 < w1.heap.size := by omega); (try have hp1_2 : w.heap.size + 2 < w1.heap.size := by omega)
  go_wp2_with fail
  refine (iInst_any _ _ _).mono ?_
  rintro e w2 ⟨v2, rfl, ho2, hb2⟩; (first | (with_reducible have hcf2 := bcell_drew hb2) | have hcf2 := bcell hb2); obtain ⟨hc2, hf2⟩ := hcf2; have hz2 := hb2.size; (try simp at hz2); (try have hp2_0 : w.heap.size < w2.heap.size := by omega); (try have hp2_1 : w.heap.size + 1 < w2.heap.size := by omega); (try have hp2_2 : w.heap.size + 2 < w2.heap.size := by omega)
  generalize hzs : instAll total n = zs at *
  have HZ := Lib.hid hzs
  clear hzs
  go_wp2_with fail
  refine (eqIntS_any _ _ zs zs _ ho2.reads (ho1.reads.below hb2)).mono ?_
  rintro e w3 ⟨rfl, hb3⟩; (first | (with_reducible have hcf3 := bcell_drew hb3) | have hcf3 := bcell hb3); obtain ⟨hc3, hf3⟩ := hcf3; have hz3 := hb3.size; (try simp at hz3); (try have hp3_0 : w.heap.size < w3.heap.size := by omega); (try have hp3_1 : w.heap.size + 1 < w3.heap.size := by omega); (try have hp3_2 : w.heap.size + 2 < w3.heap.size := by omega)
  go_wp2_with fail
  refine (markIntS_any _ _ _ _ _ (ho2.kept hb3) (by omega) (by omega)).mono ?_
  rintro e w4 ⟨rfl, ho4, hg4⟩; have hz4 := hg4.size
  go_wp2_with fail
  refine (held_ok _ zs.length _ _ ho4.reads (by omega) (by omega)).mono ?_
  rintro e w' ⟨rfl, rfl⟩
  go_wp2_with fail
  refine (iInst_any _ _ _).mono ?_
  rintro e w5 ⟨v5, rfl, ho5, hb5⟩; (first | (with_reducible have hcf5 := bcell_drew hb5) | have hcf5 := bcell hb5); obtain ⟨hc5, hf5⟩ := hcf5; have hz5 := hb5.size; (try simp at hz5); (try have hp5_0 : w.heap.size < w5.heap.size := by omega); (try have hp5_1 : w.heap.size + 1 < w5.heap.size := by omega); (try have hp5_2 : w.heap.size + 2 < w5.heap.size := by omega)
  rw [HZ.out] at ho5
  have hb15 : Below w1.heap.size w1 w5 := by (repeat (first | exact Below.refl _ _ | assumption | refine Below.drew ?_ | refine below_drewN ?_ _ | refine Below.alloc ?_ (by first | omega | (simp; done) | (simp; omega)) _ | refine Below.setCell ?_ (by first | omega | (simp; done) | (simp; omega)) _ | refine Below.step (by assumption) ?_ (by first | omega | (simp; done) | (simp; omega)) | refine Below.mark (by assumption) (by assumption) ?_ (by first | omega | (simp; done) | (simp; omega)) (by first | omega | (simp; done) | (simp; omega))))
  go_wp2_with fail
  refine (eqIntS_any _ _ zs zs _ ho5.reads (ho1.reads.below hb15)).mono ?_
  rintro e w6 ⟨rfl, hb6⟩; (first | (with_reducible have hcf6 := bcell_drew hb6) | have hcf6 := bcell hb6); obtain ⟨hc6, hf6⟩ := hcf6; have hz6 := hb6.size; (try simp at hz6); (try have hp6_0 : w.heap.size < w6.heap.size := by omega); (try have hp6_1 : w.heap.size + 1 < w6.heap.size := by omega); (try have hp6_2 : w.heap.size + 2 < w6.heap.size := by omega)
  have hb46 : Below w4.heap.size w4 w6 := by (repeat (first | exact Below.refl _ _ | assumption | refine Below.drew ?_ | refine below_drewN ?_ _ | refine Below.alloc ?_ (by first | omega | (simp; done) | (simp; omega)) _ | refine Below.setCell ?_ (by first | omega | (simp; done) | (simp; omega)) _ | refine Below.step (by assumption) ?_ (by first | omega | (simp; done) | (simp; omega)) | refine Below.mark (by assumption) (by assumption) ?_ (by first | omega | (simp; done) | (simp; omega)) (by first | omega | (simp; done) | (simp; omega))))
  go_wp2_with fail
  refine (held_ok _ zs.length _ _ (ho4.reads.below hb46) (by omega) (by omega)).mono ?_
  rintro e w' ⟨rfl, rfl⟩
  go_wp2
  go_ret
  exact ⟨rfl, by (repeat (first | exact Below.refl _ _ | assumption | refine Below.drew ?_ | refine below_drewN ?_ _ | refine Below.alloc ?_ (by first | omega | (simp; done) | (simp; omega)) _ | refine Below.setCell ?_ (by first | omega | (simp; done) | (simp; omega)) _ | refine Below.step (by assumption) ?_ (by first | omega | (simp; done) | (simp; omega)) | refine Below.mark (by assumption) (by assumption) ?_ (by first | omega | (simp; done) | (simp; omega)) (by first | omega | (simp; done) | (simp; omega))))⟩

end Go.Proofs.Ytloicjmnedipaaa
