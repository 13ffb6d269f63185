/-
  The cursor of the draws: each draw is a number below its bound, and only the cursor's block turns.
-/
import Derived.Test.YtognjdappchpkaaGreatBlk
import Derived.Test.YtognjdappchpkaaGreatMarkI
import Derived.BigRegion
import Derived.Outline
import Derived.Deep.QuietTactic
import Derived.BigQuiet
set_option linter.unusedSimpArgs false
set_option linter.unusedVariables false
namespace Go.Proofs.YtognjdappchpkaaGreat
open Go.RowKit

/-- A list of bytes in memory. -/
def RB (w : World) (v : Value) (zs : List Int) : Prop := RS w 1 v zs.length (zs.map (Value.int .u8)) ∧ ∀ z ∈ zs, 0 ≤ z ∧ z ≤ 255

theorem RB.below {w w' : World} {v : Value} {zs : List Int} (h : RB w v zs) (hb : Below w.heap.size w w') : RB w' v zs := ⟨RS.below h.1 hb, h.2⟩

theorem RB.form {w : World} {v : Value} {zs : List Int} (h : RB w v zs) : ∃ A c, v = .slice A zs.length c ∧ zs.length ≤ c ∧ zs.length ≤ maxLen ∧
    (0 < zs.length → ∃ b off, A = some ⟨b, off, none⟩ ∧ b < w.heap.size ∧ ∀ k, k < zs.length → ∃ z : Int, w.cell? ⟨b, off + k, none⟩ = some (.int .u8 z) ∧ 0 ≤ z ∧ z ≤ 255) := by
  obtain ⟨⟨_, A, c, hv, h1, h2, h3⟩, hz⟩ := h
  refine ⟨A, c, hv, h1, h2, fun hn => ?_⟩
  obtain ⟨b, off, hA, hlt, hc⟩ := h3 hn
  refine ⟨b, off, hA, hlt, fun k hk => ⟨zs[k], hc k _ ?_, hz _ (List.getElem_mem hk)⟩⟩
  rw [List.getElem?_map, List.getElem?_eq_getElem hk]
  rfl

/-- The cursor lies in block g over the bytes v; what was there at W0 is as it was. -/
def CurOk (W0 : World) (v : Value) (g : Nat) (w : World) : Prop :=
  W0.heap.size ≤ g ∧ Below W0.heap.size W0 w ∧ ∃ i h : Int, 0 ≤ i ∧ Blk w g 93 #[v, .int .i64 i, .int .i64 h]

/-- A draw: a number below n, and only the cursor has turned. -/
def Drawn (W0 : World) (v : Value) (g : Nat) (w : World) (n : Int) (e : Ending) (w' : World) : Prop :=
  ∃ x : Int, e = .returned (.int .i64 x) ∧ 0 ≤ x ∧ x < n ∧ CurOk W0 v g w' ∧ w.grownBy w' (some g)

theorem and_255 (a : Int) : 0 ≤ bits .and .i64 a 255 ∧ bits .and .i64 a 255 < 256 := by
  have e : bits .and .i64 a 255 = IntKind.i64.wrap ((BitVec.ofInt 64 a &&& BitVec.ofInt 64 255).toNat : Int) := rfl
  have h : (BitVec.ofInt 64 a &&& BitVec.ofInt 64 255).toNat ≤ 255 := by
    rw [BitVec.toNat_and]
    exact Nat.and_le_right
  rw [e, IntKind.wrap_i64]
  omega

set_option maxRecDepth 100000 in
theorem new_any (v : Value) (zs : List Int) (w : World) (h : RB w v zs) (hle : zs.length ≤ 1048576) :
    Calls Tryz.prog 51 #[v] w fun e w' => e = .returned (.pointer (some ⟨w.heap.size, 0, none⟩)) ∧ CurOk w v w.heap.size w' := by
  obtain ⟨A, c, rfl, hc, hm, hcell⟩ := h.form
  clear h hm
  go_enter Tryz.func51, Tryz.ntmps51
  go_wp2
  go_loop [3, 4] (fun x i => ∃ k : Nat, ∃ h : Int, k ≤ zs.length ∧ i = .int .i64 k ∧ x = .int .i64 h) (fun _ i => zs.length - (intOf i).toNat)
  case atStart => exact ⟨0, _, Nat.zero_le _, rfl, rfl⟩
  case round =>
    obtain ⟨k, h, hk, rfl, rfl⟩ := hrel
    by_cases hlt : k < zs.length
    · by_cases h4 : k < 4000
      · obtain ⟨b, off, rfl, hb, hcl⟩ := hcell (by omega)
        obtain ⟨z, hz, hz0, hz1⟩ := hcl k hlt
        clear hcl hcell
        go_wp2
        go_round
        case rel => exact ⟨k + 1, _, by omega, by go_num, rfl⟩
        case measure => simp [intOf]; omega
      · clear hcell
        go_wp2
        go_ret
        exact ⟨rfl, Nat.le_refl _, (Below.refl _ _).alloc (Nat.le_refl _) _, 0, h, by omega, Blk.new _ _ _⟩
    · have hkk : k = zs.length := by omega
      subst hkk
      clear hcell
      go_wp2
      go_ret
      exact ⟨rfl, Nat.le_refl _, (Below.refl _ _).alloc (Nat.le_refl _) _, 0, h, by omega, Blk.new _ _ _⟩

theorem drawn_of {W0 w w1 : World} {v : Value} {g : Nat} {n x : Int} (h0 : 0 ≤ x) (h1 : x < n) (hc : CurOk W0 v g w1) (hg : w.grownBy w1 (some g)) : Drawn W0 v g w n (.returned (.int .i64 x)) w1 := ⟨x, rfl, h0, h1, hc, hg⟩

theorem CurOk.set1 {W0 w : World} {v : Value} {g : Nat} (h : CurOk W0 v g w) {x : Int} (hx : 0 ≤ x) : CurOk W0 v g (w.setCell ⟨g, 1, none⟩ (.int .i64 x)) := by
  obtain ⟨hg, hbl, i, s, hi, hB⟩ := h
  exact ⟨hg, hbl.setCell (p := ⟨g, 1, none⟩) hg _, x, s, hx, hB.set_ 1 _⟩

theorem CurOk.set2 {W0 w : World} {v : Value} {g : Nat} (h : CurOk W0 v g w) (x : Int) : CurOk W0 v g (w.setCell ⟨g, 2, none⟩ (.int .i64 x)) := by
  obtain ⟨hg, hbl, i, s, hi, hB⟩ := h
  exact ⟨hg, hbl.setCell (p := ⟨g, 2, none⟩) hg _, i, x, hi, hB.set_ 2 _⟩

theorem CurOk.drewN {W0 w : World} {v : Value} {g : Nat} (h : CurOk W0 v g w) (n : Nat) : CurOk W0 v g (w.drewN n) := by
  obtain ⟨hg, hbl, i, s, hi, hB⟩ := h
  exact ⟨hg, below_drewN hbl n, i, s, hi, hB.drewN n⟩

set_option maxHeartbeats 1000000 in
set_option maxRecDepth 100000 in
theorem byte_any (W0 : World) (v : Value) (zs : List Int) (g : Nat) (w : World) (h : RB W0 v zs) (hle : zs.length ≤ 1048576) (hc : CurOk W0 v g w) :
    Calls Tryz.prog 105 #[.pointer (some ⟨g, 0, none⟩)] w (Drawn W0 v g w 256) := by
  have HC := Lib.hid hc
  obtain ⟨hg, hbl, i, s, hi, hB⟩ := hc
  obtain ⟨A, c, rfl, hcc, hm, hcell⟩ := h.form
  clear h hm
  have c0 := hB.cell 0
  have c1 := hB.cell 1
  have c2 := hB.cell 2
  have f0 := hB.frozen 0
  have f1 := hB.frozen 1
  have f2 := hB.frozen 2
  simp only [List.getElem?_toArray, List.getElem?_cons_succ, List.getElem?_cons_zero] at c0 c1 c2
  clear hB
  by_cases hlt : i < zs.length
  · obtain ⟨k, rfl⟩ := Int.eq_ofNat_of_zero_le hi
    obtain ⟨b, off, rfl, hb, hcl⟩ := hcell (by omega)
    obtain ⟨z, hz, hz0, hz1⟩ := hcl k (by omega)
    have hzw := (hbl.cell (p := ⟨b, off + k, none⟩) hb).trans hz
    have hne : ¬ b = g := by omega
    have hne2 : ¬ g = b := by omega
    clear hcl hcell hz hbl
    go_enter Tryz.func105, Tryz.ntmps105
    go_wp2
    go_quiet (fail)
    go_wp2
    go_quiet (fail)
    go_wp2
    go_quiet (fail)
    go_wp2
    go_ret
    exact drawn_of (and_255 _).1 (and_255 _).2 (((HC.out.set2 _).drewN _).set1 (by omega)) (grownBy_set (only_drewN (grownBy_set (World.grownBy.refl _ _) _ _) _) _ _)
  · clear hcell hbl
    go_enter Tryz.func105, Tryz.ntmps105
    go_wp2
    go_quiet (fail)
    go_wp2
    go_quiet (fail)
    go_wp2
    go_ret
    exact drawn_of (and_255 _).1 (and_255 _).2 (((HC.out.set2 _).drewN _).drewN _) (only_drewN (only_drewN (grownBy_set (World.grownBy.refl _ _) _ _) _) _)

theorem CurOk.size {W0 w : World} {v : Value} {g : Nat} (h : CurOk W0 v g w) : W0.heap.size ≤ w.heap.size := h.2.1.size

set_option maxHeartbeats 1000000 in
set_option maxRecDepth 100000 in
theorem below_any (W0 : World) (v : Value) (zs : List Int) (g : Nat) (n : Int) (w : World) (h : RB W0 v zs) (hle : zs.length ≤ 1048576) (hn : 0 < n) (hc : CurOk W0 v g w) :
    Calls Tryz.prog 79 #[.pointer (some ⟨g, 0, none⟩), .int .i64 n] w (Drawn W0 v g w n) := by
  by_cases h2 : n ≤ 256
  · go_enter Tryz.func79, Tryz.ntmps79
    go_wp2_with fail
    refine (byte_any W0 v zs g _ h hle hc).mono ?_
    rintro e w1 ⟨x, rfl, x0, x1, hc1, hg1⟩
    have hne : ¬ n = 0 := by omega
    go_wp2
    go_ret
    exact drawn_of (Int.emod_nonneg _ (by omega)) (Int.emod_lt_of_pos _ hn) hc1 hg1
  · go_enter Tryz.func79, Tryz.ntmps79
    go_wp2_with fail
    refine (byte_any W0 v zs g _ h hle hc).mono ?_
    rintro e w1 ⟨x, rfl, x0, x1, hc1, hg1⟩
    go_wp2_with fail
    refine (byte_any W0 v zs g _ h hle hc1).mono ?_
    rintro e w2 ⟨y, rfl, y0, y1, hc2, hg2⟩
    go_wp2_with fail
    refine (byte_any W0 v zs g _ h hle hc2).mono ?_
    rintro e w3 ⟨z, rfl, z0, z1, hc3, hg3⟩
    go_wp2_with fail
    refine (byte_any W0 v zs g _ h hle hc3).mono ?_
    rintro e w4 ⟨u, rfl, u0, u1, hc4, hg4⟩
    have hne : ¬ n = 0 := by omega
    go_wp2
    go_ret
    exact drawn_of (Int.emod_nonneg _ (by omega)) (Int.emod_lt_of_pos _ hn) hc4 (grownBy_trans (grownBy_trans (grownBy_trans hg1 hg2) hg3) hg4)

end Go.Proofs.YtognjdappchpkaaGreat
