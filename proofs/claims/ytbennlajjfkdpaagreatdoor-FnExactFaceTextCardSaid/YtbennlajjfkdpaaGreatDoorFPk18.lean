/- part 18 -/
import Derived.Test.YtbennlajjfkdpaaGreatDoorFPk17
set_option linter.unusedSimpArgs false
set_option linter.unusedVariables false
namespace Go.Proofs.YtbennlajjfkdpaaGreatDoor
open Go.RowKit
theorem cell_one_at {W : World} {v : Value} {t : TypeId} {g : Nat} (hg : g = W.heap.size) : ∀ (j : Nat) (u : Value), [v][j]? = some u → (W.alloc (.cells #[v] t)).cell? ((⟨g, 0, none⟩ : Addr).add j) = some u := by
  subst hg
  exact cell_one_new _ _ _
theorem iWinOk_at (vn vl : Value) (ns ls : List Pr) (b : Bool) (w : World) (hn : RP w vn ns) (hl : RP w vl ls) (hb : winB ns ls = b) :
    Calls Tryz.prog 31 #[.agg #[vn, vl]] w fun e w' => e = .returned (.bool b) ∧ Below w.heap.size w w' := by
  subst hb; exact iWinOk_any vn vl ns ls w hn hl
theorem sWinOk_at (vn vl : Value) (ns ls : List Pr) (b : Bool) (w : World) (hn : RP w vn ns) (hl : RP w vl ls) (hb : winB ns ls = b) :
    Calls Tryz.prog 59 #[.agg #[vn, vl]] w fun e w' => e = .returned (.bool b) ∧ Below w.heap.size w w' := by
  subst hb; exact sWinOk_any vn vl ns ls w hn hl
end Go.Proofs.YtbennlajjfkdpaaGreatDoor

namespace Go.Proofs.YtbennlajjfkdpaaGreatDoor
open Go.RowKit
theorem cross_any {ns ls : List Pr} (h : WinOk ns ls) {i k : Nat} (hi : i < ls.length) (hk : k < ls.length) (hne : i ≠ k) : crossB ns (ndI ls k) (ndI ls i) = false := by
  rcases Nat.lt_or_gt_of_ne hne with h1 | h1
  · exact (h.2.2.2.2.2 k hk).2.1 i h1
  · rw [crossB_comm]; exact (h.2.2.2.2.2 i hi).2.1 k h1
theorem cross_self {ns : List Pr} {l : Pr} (h : leadB ns l = true) : crossB ns l l = true := by
  have e : ∀ p : Pr, sameP p p = true := fun p => sameP_iff.2 rfl
  simp [crossB, h, crossP, e]
theorem lead_apart {ns ls : List Pr} (h : WinOk ns ls) {i k : Nat} (hi : i < ls.length) (hk : k < ls.length) (hne : i ≠ k) : ndI ls (i : Nat) ≠ ndI ls (k : Nat) := by
  intro e
  have h1 := cross_any h hi hk hne
  rw [e, cross_self ((h.2.2.2.2.2 k hk).1)] at h1
  cases h1
end Go.Proofs.YtbennlajjfkdpaaGreatDoor
