/-
  A list of recipes converted into new memory.
-/
import Derived.Test.YtdladmmhmncpoaaAvgLaw
import Derived.OwnWalk
import Derived.StillTailTactics
set_option linter.unusedSimpArgs false
set_option linter.unusedVariables false
namespace Go.Proofs.Ytdladmmhmncpoaa
open Go.RowKit

theorem made4 (n : Nat) : (madeCells #[.int .i64 0, .int .i64 0, .int .i64 0, .int .i64 0] n).toList = List.replicate n (.int .i64 0) := by
  apply List.ext_getElem?
  intro j
  by_cases hj : j < n
  · simp only [madeCells, Array.toList_map, List.getElem?_map, Array.toList_range, List.getElem?_range hj, List.getElem?_replicate, if_pos hj, Option.map_some]
    congr 1
    have : j % 4 = 0 ∨ j % 4 = 1 ∨ j % 4 = 2 ∨ j % 4 = 3 := by omega
    show #[Value.int .i64 0, .int .i64 0, .int .i64 0, .int .i64 0][j % 4]! = _
    rcases this with h | h | h | h <;> rw [h] <;> rfl
  · simp [madeCells, hj]

/-- v is a list of recipes that lies in a block of its own, not below base. -/
def OwnR (base : Nat) (w : World) (v : Value) (l : List Rc) : Prop := w.ownsRow base 46 4 v l.length (l.flatMap Rc.cs)

theorem OwnR.reads {base : Nat} {w : World} {v : Value} {l : List Rc} (h : OwnR base w v l) : RR w v l := own_reads h

theorem OwnR.kept {base : Nat} {w w' : World} {v : Value} {l : List Rc} (h : OwnR base w v l) (hb : Below w.heap.size w w') : OwnR base w' v l := own_kept h hb

def RetR (l : List Rc) (w : World) (e : Ending) (w' : World) : Prop := ∃ v, e = .returned v ∧ OwnR w.heap.size w' v l ∧ Below w.heap.size w w'

set_option maxHeartbeats 4000000 in
set_option maxRecDepth 100000 in
theorem toRecipeS_any (v : Value) (l : List Rc) (w : World) (h : RR w v l) (hle : l.length ≤ 1048576) :
    Calls Try.prog 36 #[v] w (RetR l w) := by
  obtain ⟨A, c, rfl, hc, hm, hcell⟩ := h.form
  clear h hm
  obtain ⟨i0, hi, hz0, hz1, hz2⟩ := info_parts infoRecipe
  go_enter Try.func36, Try.ntmps36
  go_wp2_with (at_make; refine wpList_make_full _ rfl _ _ 49 rfl w.heap.size 46 i0 (.agg #[.int .i64 0, .int .i64 0, .int .i64 0, .int .i64 0]) 4 Try.underlying49 hi hz0 hz1 .i64 .i64 _ _ l.length rfl rfl rfl rfl (by rw [hz2]; omega) (by unfold maxLen; omega) (Nat.le_refl _) ?_)
  intro w1 hown1 hgr1
  have hb1 : Below w.heap.size w w1 := (Below.refl _ _).grown hgr1 (Nat.le_refl _) (by intro k hk; cases hk)
  have hown : w1.ownsRow w.heap.size 46 4 (.slice (some ⟨w.heap.size, 0, none⟩) l.length l.length) l.length (fillR l 0) := by
    rw [made4] at hown1
    simpa [fillR] using hown1
  have hw1 : w.heap.size ≤ w1.heap.size := hb1.size
  clear hown1 hgr1 hz0 hz1 hz2 hi
  go_wp2
  go_loopw [4] (fun i wr => ∃ k : Nat, k ≤ l.length ∧ i = .int .i64 k ∧ wr.ownsRow w.heap.size 46 4 (.slice (some ⟨w.heap.size, 0, none⟩) l.length l.length) l.length (fillR l k) ∧ Below w.heap.size w wr) (fun i _ => l.length - (intOf i).toNat)
  case atStart => exact ⟨0, Nat.zero_le _, rfl, hown, hb1⟩
  case round =>
    obtain ⟨k, hk, rfl, ho, hbl⟩ := hrel
    have hsz := hbl.size
    clear hown hb1 hw1
    by_cases hlt : k < l.length
    · obtain ⟨b, off, rfl, hb, hcl⟩ := hcell (by omega)
      obtain ⟨k0, k1, k2, k3⟩ := hcl k hlt
      have q0 := (hbl.cell (p := ⟨b, off + k * 4, none⟩) hb).trans k0
      have q1 := (hbl.cell (p := ⟨b, off + k * 4 + 1, none⟩) hb).trans k1
      have q2 := (hbl.cell (p := ⟨b, off + k * 4 + 2, none⟩) hb).trans k2
      have q3 := (hbl.cell (p := ⟨b, off + k * 4 + 3, none⟩) hb).trans k3
      clear k0 k1 k2 k3 hcl hcell
      go_wp2_with fail
      refine (toRecipe_any _ _ _ _ _).mono ?_
      rintro e w2 ⟨rfl, hb2⟩
      have ho2 := own_kept ho hb2
      have hsz2 := hb2.size
      have hbl2 : Below w.heap.size w w2 := by (repeat (first | exact Below.refl _ _ | assumption | refine Below.drew ?_ | refine below_drewN ?_ _ | refine Below.alloc ?_ (by first | omega | (simp; done) | (simp; omega)) _ | refine Below.setCell ?_ (by first | omega | (simp; done) | (simp; omega)) _ | refine Below.step (by assumption) ?_ (by first | omega | (simp; done) | (simp; omega)) | refine Below.mark (by assumption) (by assumption) ?_ (by first | omega | (simp; done) | (simp; omega)) (by first | omega | (simp; done) | (simp; omega))))
      have x0 := ho2.cellAt (k * 4 + 0) (by omega)
      have x1 := ho2.cellAt (k * 4 + 1) (by omega)
      have x2 := ho2.cellAt (k * 4 + 2) (by omega)
      have x3 := ho2.cellAt (k * 4 + 3) (by omega)
      have f0 := ho2.frozenAt (k * 4)
      have f1 := ho2.frozenAt (k * 4 + 1)
      have f2 := ho2.frozenAt (k * 4 + 2)
      have f3 := ho2.frozenAt (k * 4 + 3)
      rw [fillR_get l k _ hlt (by omega)] at x0 x1 x2 x3
      rw [Nat.add_zero] at x0
      have s1 := (ho2.stored (k * 4) (.int .i64 l[k].s)).1
      have s2 := (s1.stored (k * 4 + 1) (.int .i64 l[k].a)).1
      have s3 := (s2.stored (k * 4 + 2) (.int .i64 l[k].l)).1
      have s4 := (s3.stored (k * 4 + 3) (.int .i64 l[k].m)).1
      rw [← fillR_succ l k hlt] at s4
      have HB := (((hbl2.setCell (p := ⟨w.heap.size, k * 4, none⟩) (Nat.le_refl _) (.int .i64 l[k].s)).setCell (p := ⟨w.heap.size, k * 4 + 1, none⟩) (Nat.le_refl _) (.int .i64 l[k].a)).setCell (p := ⟨w.heap.size, k * 4 + 2, none⟩) (Nat.le_refl _) (.int .i64 l[k].l)).setCell (p := ⟨w.heap.size, k * 4 + 3, none⟩) (Nat.le_refl _) (.int .i64 l[k].m)
      have HS := Lib.hid s4
      have HBL := Lib.hid HB
      clear s1 s2 s3 s4 HB hbl2 ho2 ho hb2 hbl
      go_wp2
      go_roundw
      case rel => exact ⟨k + 1, by omega, by go_num, HS.out, HBL.out⟩
      case measure => simp [intOf]; omega
    · have hkk : k = l.length := by omega
      subst hkk
      rw [fillR_all] at ho
      have HO := Lib.hid ho
      have HB := Lib.hid hbl
      clear ho hbl hcell
      go_wp2
      go_ret
      exact ⟨_, rfl, HO.out, HB.out⟩

theorem Rc.eq_of {r t : Rc} (h : (r.s == t.s && r.a == t.a && r.l == t.l && r.m == t.m) = true) : r = t := by
  cases r; cases t; simp_all

theorem Rc.beq_self (r : Rc) : (r.s == r.s && r.a == r.a && r.l == r.l && r.m == r.m) = true := by simp

set_option maxHeartbeats 2000000 in
set_option maxRecDepth 100000 in
/-- Two lists that read alike are found equal. -/
theorem eqRecipeS_any (v u : Value) (l : List Rc) (w : World) (hv : RR w v l) (hu : RR w u l) :
    Calls Try.prog 38 #[v, u] w fun e w' => e = .returned (.bool true) ∧ Below w.heap.size w w' := by
  obtain ⟨A, c, rfl, hc, hm, hcell⟩ := hv.form
  obtain ⟨A', c', rfl, hc', hm', hcell'⟩ := hu.form
  unfold maxLen at hm hm'
  clear hv hu
  go_enter Try.func38, Try.ntmps38
  go_wp2
  go_loopw [5] (fun i wr => ∃ k : Nat, k ≤ l.length ∧ i = .int .i64 k ∧ Below w.heap.size w wr) (fun i _ => l.length - (intOf i).toNat)
  case atStart => exact ⟨0, Nat.zero_le _, rfl, Below.refl _ _⟩
  case round =>
    obtain ⟨k, hk, rfl, hbl⟩ := hrel
    have hsz := hbl.size
    by_cases hlt : k < l.length
    · obtain ⟨b, off, rfl, hb, hcl⟩ := hcell (by omega)
      obtain ⟨k0, k1, k2, k3⟩ := hcl k hlt
      have q0 := (hbl.cell (p := ⟨b, off + k * 4, none⟩) hb).trans k0
      have q1 := (hbl.cell (p := ⟨b, off + k * 4 + 1, none⟩) hb).trans k1
      have q2 := (hbl.cell (p := ⟨b, off + k * 4 + 2, none⟩) hb).trans k2
      have q3 := (hbl.cell (p := ⟨b, off + k * 4 + 3, none⟩) hb).trans k3
      obtain ⟨b', off', rfl, hb', hcl'⟩ := hcell' (by omega)
      obtain ⟨j0, j1, j2, j3⟩ := hcl' k hlt
      have p0 := (hbl.cell (p := ⟨b', off' + k * 4, none⟩) hb').trans j0
      have p1 := (hbl.cell (p := ⟨b', off' + k * 4 + 1, none⟩) hb').trans j1
      have p2 := (hbl.cell (p := ⟨b', off' + k * 4 + 2, none⟩) hb').trans j2
      have p3 := (hbl.cell (p := ⟨b', off' + k * 4 + 3, none⟩) hb').trans j3
      have hi1 : (0 : Int) ≤ (k : Int) := by omega
      have hi2 : (k : Int) < (l.length : Int) := by omega
      clear k0 k1 k2 k3 hcl hcell j0 j1 j2 j3 hcl' hcell'
      go_wp2
      go_still_tail 8, (by kernel_rfl)
      go_wp2_with fail
      refine (eqRecipe_any _ _ _ _ _ _ _ _ _).mono ?_
      rw [Rc.beq_self]
      rintro e w2 ⟨rfl, hb2⟩
      have hbl2 : Below w.heap.size w w2 := hbl.trans ((show Below wr.heap.size wr w2 from ⟨hb2.os, hb2.tape, hb2.output, hb2.size, hb2.block⟩).mono hsz)
      clear hb2
      go_wp2
      go_roundw
      case rel => exact ⟨k + 1, by omega, by go_num, hbl2⟩
      case measure => simp [intOf]; omega
    · go_wp2
      go_ret
      exact ⟨rfl, hbl⟩

end Go.Proofs.Ytdladmmhmncpoaa
