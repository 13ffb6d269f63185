/-
  SameWindow of the reference, and the law.
-/
import Derived.Test.YtoghnlcnacocgaaDoorWin
set_option linter.unusedSimpArgs false
set_option linter.unusedVariables false
namespace Go.Proofs.YtoghnlcnacocgaaDoor
open Go.RowKit

attribute [local go_sem ↓] run_eqNode run_eqLead run_neNode run_neLead



theorem szW_le {a b : Nat} (h : ¬ szW 1048576 a b < 0) : a ≤ 1048576 ∧ b ≤ 1048576 ∧ 0 ≤ szW 1048576 a b ∧ szW 1048576 a b ≤ 1048576 := by
  unfold szW at *
  split at h
  · omega
  · split at h
    · omega
    · rename_i h1 h2; rw [if_neg h1, if_neg h2]; omega

theorem szW_le2 {n : Int} {a b : Nat} (hn : n ≤ 1048576) (h : ¬ szW n a b < 0) : a ≤ 1048576 ∧ b ≤ 1048576 ∧ 0 ≤ szW n a b ∧ szW n a b ≤ n := by
  unfold szW at *
  split at h
  · omega
  · split at h
    · omega
    · rename_i h1 h2; rw [if_neg h1, if_neg h2]; omega

theorem szWindow_at (vn vl : Value) (ns ls : List (Int × Int)) (n x : Int) (w : World) (hn : RP w vn ns) (hl : RP w vl ls) (h0 : 0 ≤ n) (h1 : n ≤ 1000000000) (hx : Hid (szW n ns.length ls.length = x)) :
    Calls Tryd.prog 18 #[.agg #[vn, vl], .int .i64 n] w fun e w' => e = .returned (.int .i64 x) ∧ Below w.heap.size w w' :=
  (szWindow_any vn vl ns ls n w hn hl h0 h1).mono fun e w' ⟨he, hw⟩ => ⟨he.trans (ret_int hx.out), hw⟩





end Go.Proofs.YtoghnlcnacocgaaDoor
