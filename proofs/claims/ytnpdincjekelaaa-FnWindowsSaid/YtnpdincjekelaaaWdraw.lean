/-
  A drawn window.
-/
import Derived.Test.YtnpdincjekelaaaDrawRs
import Derived.Test.YtnpdincjekelaaaWinP
import Derived.Test.YtnpdincjekelaaaDropA
import Derived.Test.YtnpdincjekelaaaAddS
import Derived.Test.YtnpdincjekelaaaLast
set_option linter.unusedSimpArgs false
set_option linter.unusedVariables false
namespace Go.Proofs.Ytnpdincjekelaaa
open Go.RowKit

attribute [local go_sem ↓] run_eqNode run_neNode run_mn2 run_mx2

set_option maxHeartbeats 1000000 in
theorem once_any (W0 : World) (v : Value) (zs : List Int) (g : Nat) (n : Int) (w : World) (h : RB W0 v zs) (hle : zs.length ≤ 1048576) (hn : 0 < n) (hc : CurOk W0 v g w) :
    Calls Try.prog 85 #[.pointer (some ⟨g, 0, none⟩), .int .i64 n] w fun e w' => ∃ b : Bool, e = .returned (.bool b) ∧ CurOk W0 v g w' ∧ w.grownBy w' (some g) := by
  go_enter Try.func85, Try.ntmps85
  go_wp2_with fail
  refine (below_any W0 v zs g n _ h hle hn hc).mono ?_
  rintro e w1 ⟨x, rfl, x0, x1, hc1, hg1⟩
  go_wp2
  go_ret
  exact ⟨_, rfl, hc1, hg1⟩

theorem only_far {a w : World} {row : Option Nat} (h : a.grownBy w row) {p : Addr} (hp : a.heap.size ≤ p.block) (u : Value) : a.grownBy (w.setCell p u) row :=
  ⟨h.os, h.tape, h.output, by simpa [World.setCell] using h.size, fun i hi hne => (Below.heap_setCell w p u i (fun e => by omega)).trans (h.block i hi hne)⟩

set_option maxHeartbeats 1000000 in
theorem node_any (W0 : World) (v : Value) (zs : List Int) (g : Nat) (w : World) (h : RB W0 v zs) (hle : zs.length ≤ 1048576) (hc : CurOk W0 v g w) :
    Calls Try.prog 86 #[.pointer (some ⟨g, 0, none⟩)] w fun e w' => ∃ x y : Int, e = .returned (.agg #[.int .i64 x, .int .i64 y]) ∧ CurOk W0 v g w' ∧ w.grownBy w' (some g) := by
  have hlt := hc.lt
  go_enter Try.func86, Try.ntmps86
  go_wp2_with fail
  refine (below_any W0 v zs g 13 _ h hle (by omega) (hc.alloc _)).mono ?_
  rintro e w1 ⟨x, rfl, x0, x1, hc1, hg1⟩
  go_wp2_with fail
  refine (below_any W0 v zs g 13 _ h hle (by omega) hc1).mono ?_
  rintro e w2 ⟨y, rfl, y0, y1, hc2, hg2⟩
  have hR : Blk w2 w.heap.size 76 #[.int .i64 0, .int .i64 0] := (((Blk.new w _ _).grown hg1 (by omega)).grown hg2 (by omega))
  (have r_0 := hR.cell 0); (have r_1 := hR.cell 1); simp only [List.getElem?_toArray, List.getElem?_cons_succ, List.getElem?_cons_zero] at r_0 r_1; (have r_f0 := hR.frozen 0); (have r_f1 := hR.frozen 1)
  have hl2 := hR.lt
  have HC := Lib.hid (((hc2.far (p := ⟨w.heap.size, 0, none⟩) hlt (.int .i64 x))).far (p := ⟨w.heap.size, 1, none⟩) hlt (.int .i64 y))
  have HG := Lib.hid (grownBy_trans (grownBy_trans (only_alloc (World.grownBy.refl w (some g)) (.cells #[.int .i64 0, .int .i64 0] 76)) hg1) hg2)
  clear hg1 hg2 hR
  go_wp2
  refine bodyPost_ret (v := .agg #[.int .i64 x, .int .i64 y]) (by simp [results, Try.results86, go_sem, r_0, r_1, hl2]) rfl ⟨_, _, rfl, HC.out, only_far (p := ⟨w.heap.size, 1, none⟩) (only_far (p := ⟨w.heap.size, 0, none⟩) HG.out (Nat.le_refl _) (.int .i64 x)) (Nat.le_refl _) (.int .i64 y)⟩

theorem win_dropL {ns ls : List Pr} (h : WinOk ns ls) (k : Int) : WinOk ns (dropL ns ls k) := by
  unfold dropL
  split
  · rename_i hk
    obtain ⟨_, m, rfl, hm⟩ := hasL_win hk
    have := win_drop h hm
    simpa using this
  · exact h

theorem win_addL {ns ls : List Pr} (h : WinOk ns ls) (a b : Int) : WinOk ns (addL ns ls a b) := by
  unfold addL
  split
  · rename_i hk
    unfold addB at hk
    rw [Bool.and_eq_true] at hk
    exact winB_true.1 hk.2
  · exact h

set_option maxHeartbeats 1000000 in
set_option maxRecDepth 100000 in
/-- A byte of the code. -/
theorem at_any (v : Value) (zs : List Int) (i : Int) (w : World) (h : RB w v zs) (hle : zs.length ≤ 1048576) (h0 : 0 ≤ i) (h1 : i ≤ 100) :
    Calls Try.prog 15 #[v, .int .i64 i] w fun e w' => ∃ x : Int, e = .returned (.int .i64 x) ∧ 0 ≤ x ∧ x ≤ 255 ∧ w = w' := by
  obtain ⟨A, c, rfl, hc, hm, hcell⟩ := h.form
  unfold maxLen at hm
  by_cases hz : zs.length = 0
  · have e1 : ((zs.length : Int) == 0) = true := by simp [hz]
    have e2 : (zs.length == 0) = true := by simp [hz]
    go_enter Try.func15, Try.ntmps15
    go_wp2
    go_ret
    exact ⟨0, rfl, by omega, by omega, rfl⟩
  · obtain ⟨b, off, rfl, hb, hcl⟩ := hcell (by omega)
    have e1 : ((zs.length : Int) == 0) = false := beq_eq_false_iff_ne.2 (by omega)
    have e2 : (zs.length == 0) = false := by simp [hz]
    have k0 : 0 ≤ (i * 5 + 1) % (zs.length : Int) := Int.emod_nonneg _ (by omega)
    have k1 : (i * 5 + 1) % (zs.length : Int) < (zs.length : Int) := Int.emod_lt_of_pos _ (by omega)
    obtain ⟨k, hk⟩ : ∃ k : Nat, (i * 5 + 1) % (zs.length : Int) = (k : Int) := ⟨((i * 5 + 1) % (zs.length : Int)).toNat, (Int.toNat_of_nonneg k0).symm⟩
    rw [hk] at k1
    have hkl : k < zs.length := by omega
    clear k0
    obtain ⟨z, q0, z0, z1⟩ := hcl k hkl
    have i0 : (0 : Int) ≤ (k : Int) := by omega
    have i1 : (k : Int) < (zs.length : Int) := by omega
    clear hcl hcell
    go_enter Try.func15, Try.ntmps15
    go_wp2
    go_ret
    exact ⟨z, rfl, z0, z1, rfl⟩

end Go.Proofs.Ytnpdincjekelaaa
