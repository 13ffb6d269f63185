/-
  A window marked with running numbers, and found marked.
-/
import Derived.Test.YtoknmjpnelbplaaGreatWin
import Derived.Test.YtoknmjpnelbplaaGreatMarkP
set_option linter.unusedSimpArgs false
set_option linter.unusedVariables false
namespace Go.Proofs.YtoknmjpnelbplaaGreat
open Go.RowKit

theorem Blk.turned {w w' : World} {g : Nat} {t : TypeId} {cs : Array Value} {S : Nat → Prop} (h : Blk w g t cs) (hb : Turns S w w') (hn : ¬ S g) : Blk w' g t cs := (hb.block g h.lt hn).trans h

/-- The blocks of a window. -/
def blksW (vn vl : Value) (k : Nat) : Prop := vn.ownBlock = some k ∨ vl.ownBlock = some k

theorem OwnW.turned {base : Nat} {w w' : World} {vn vl : Value} {ns ls : List (Int × Int)} {S : Nat → Prop} (h : OwnW base w vn vl ns ls) (hb : Turns S w w') (hs : ∀ k, blksW vn vl k → ¬ S k) : OwnW base w' vn vl ns ls :=
  ⟨h.1.turned hb (fun k hk => hs k (.inl hk)), h.2.1.turned hb (fun k hk => hs k (.inr hk)), h.2.2⟩

theorem OwnW.lt {base : Nat} {w : World} {vn vl : Value} {ns ls : List (Int × Int)} (h : OwnW base w vn vl ns ls) (k : Nat) (hk : blksW vn vl k) : base ≤ k ∧ k < w.heap.size := by
  rcases hk with hk | hk
  · exact h.1.lt k hk
  · exact h.2.1.lt k hk

set_option maxHeartbeats 2000000 in
set_option maxRecDepth 100000 in
theorem markWindow_any (base : Nat) (vn vl : Value) (ns ls : List (Int × Int)) (a : Int) (w : World) (h : OwnW base w vn vl ns ls) (ha : 0 ≤ a) (hb : a + 2 * ns.length + 2 * ls.length ≤ 1000000000000) :
    Calls Tryz.prog 31 #[.agg #[vn, vl], .int .i64 a] w fun e w' => e = .returned (.int .i64 (a + 2 * ns.length + 2 * ls.length)) ∧ OwnW base w' vn vl (runP a ns.length) (runP (a + 2 * ns.length) ls.length) ∧ Turns (blksW vn vl) w w' := by
  have hlt := h.lt
  have T0 : ∀ w' : World, Below w.heap.size w w' → Turns (blksW vn vl) w w' := fun w' h => Turns.ofBelow h
  go_enter Tryz.func31, Tryz.ntmps31
  go_wp2_with fail
  refine (markNodeS_any base vn ns a _ (h.1.kept (by (repeat' (first | (with_reducible exact Below.refl _ _) | (with_reducible assumption) | (with_reducible refine Below.drew ?_) | (with_reducible refine below_drewN ?_ _) | (with_reducible refine Below.alloc ?_ ?_ _) | (with_reducible refine Below.setCell ?_ ?_ _) | (with_reducible refine Below.step (by assumption) ?_ ?_))); all_goals (first | omega | (simp; done) | (simp; omega)))) ha (by omega)).mono ?_
  rintro e w1 ⟨rfl, ho1, hg1⟩
  have hz1 := hg1.size
  have t1 : Turns (blksW vn vl) w w1 := Turns.trans (T0 _ (by (repeat' (first | (with_reducible exact Below.refl _ _) | (with_reducible assumption) | (with_reducible refine Below.drew ?_) | (with_reducible refine below_drewN ?_ _) | (with_reducible refine Below.alloc ?_ ?_ _) | (with_reducible refine Below.setCell ?_ ?_ _) | (with_reducible refine Below.step (by assumption) ?_ ?_))); all_goals (first | omega | (simp; done) | (simp; omega)))) (Turns.ofGrown hg1 (fun k hk => .inl hk))
  have B0 : Blk (w.alloc (.cells #[vn, vl] 38)) w.heap.size 38 #[vn, vl] := Blk.newAt rfl
  have hV1 : Blk w1 w.heap.size 38 #[vn, vl] := Blk.turned B0 (Turns.ofGrown (S := blksW vn vl) hg1 (fun k hk => .inl hk)) (fun hk => by have := (hlt _ hk).2; omega)
  (have q_0 := hV1.cell 0); (have q_1 := hV1.cell 1); simp only [List.getElem?_toArray, List.getElem?_cons_succ, List.getElem?_cons_zero] at q_0 q_1
  simp at hz1
  have n1 : w.heap.size < w1.heap.size := by omega
  have l1 : OwnP 143 base w1 vl ls := h.2.1.turned (S := fun k => vn.ownBlock = some k) (Turns.trans (Turns.ofBelow (by (repeat' (first | (with_reducible exact Below.refl _ _) | (with_reducible assumption) | (with_reducible refine Below.drew ?_) | (with_reducible refine below_drewN ?_ _) | (with_reducible refine Below.alloc ?_ ?_ _) | (with_reducible refine Below.setCell ?_ ?_ _) | (with_reducible refine Below.step (by assumption) ?_ ?_))); all_goals (first | omega | (simp; done) | (simp; omega)))) (Turns.ofGrown hg1 (fun k hk => hk))) (fun k hk hk' => h.2.2 k hk' hk)
  clear hg1 B0
  go_wp2_with fail
  refine (markLeadS_any base vl ls (a + 2 * ns.length) _ l1 (by omega) (by omega)).mono ?_
  rintro e w2 ⟨rfl, ho2, hg2⟩
  have t2 : Turns (blksW vn vl) w w2 := Turns.trans t1 (Turns.ofGrown hg2 (fun k hk => .inr hk))
  have o2 : OwnP 141 base w2 vn (runP a ns.length) := ho1.turned (S := fun k => vl.ownBlock = some k) (Turns.ofGrown hg2 (fun k hk => hk)) (fun k hk hk' => h.2.2 k hk hk')
  go_wp2
  go_ret
  exact ⟨rfl, ⟨o2, ho2, h.2.2⟩, t2⟩

set_option maxHeartbeats 2000000 in
set_option maxRecDepth 100000 in
theorem heldWindow_ok (vn vl : Value) (n m : Nat) (a : Int) (w : World) (hn : RP w vn (runP a n)) (hl : RP w vl (runP (a + 2 * n) m)) (ha : 0 ≤ a) (hb : a + 2 * n + 2 * m ≤ 1000000000000) :
    Calls Tryz.prog 136 #[.agg #[vn, vl], .int .i64 a] w fun e w' => e = .returned (.int .i64 (a + 2 * n + 2 * m)) ∧ Below w.heap.size w w' := by
  have e1 : ¬ a + 2 * (n : Int) < 0 := by omega
  have e2 : ¬ a + 2 * (n : Int) + 2 * (m : Int) < 0 := by omega
  go_enter Tryz.func136, Tryz.ntmps136
  go_wp2_with fail
  refine (heldNodeS_ok vn n a _ (hn.below (by (repeat (first | exact Below.refl _ _ | assumption | refine Below.drew ?_ | refine below_drewN ?_ _ | refine Below.alloc ?_ (by first | omega | (simp; done) | (simp; omega)) _ | refine Below.setCell ?_ (by first | omega | (simp; done) | (simp; omega)) _ | refine Below.step (by assumption) ?_ (by first | omega | (simp; done) | (simp; omega)) | refine Below.mark (by assumption) (by assumption) ?_ (by first | omega | (simp; done) | (simp; omega)) (by first | omega | (simp; done) | (simp; omega)))))) ha (by omega)).mono ?_
  rintro e w' ⟨rfl, rfl⟩
  go_wp2_with fail
  refine (heldLeadS_ok vl m (a + 2 * n) _ (hl.below (by (repeat (first | exact Below.refl _ _ | assumption | refine Below.drew ?_ | refine below_drewN ?_ _ | refine Below.alloc ?_ (by first | omega | (simp; done) | (simp; omega)) _ | refine Below.setCell ?_ (by first | omega | (simp; done) | (simp; omega)) _ | refine Below.step (by assumption) ?_ (by first | omega | (simp; done) | (simp; omega)) | refine Below.mark (by assumption) (by assumption) ?_ (by first | omega | (simp; done) | (simp; omega)) (by first | omega | (simp; done) | (simp; omega)))))) (by omega) (by omega)).mono ?_
  rintro e w' ⟨rfl, rfl⟩
  go_wp2
  go_ret
  exact ⟨rfl, by (repeat (first | exact Below.refl _ _ | assumption | refine Below.drew ?_ | refine below_drewN ?_ _ | refine Below.alloc ?_ (by first | omega | (simp; done) | (simp; omega)) _ | refine Below.setCell ?_ (by first | omega | (simp; done) | (simp; omega)) _ | refine Below.step (by assumption) ?_ (by first | omega | (simp; done) | (simp; omega)) | refine Below.mark (by assumption) (by assumption) ?_ (by first | omega | (simp; done) | (simp; omega)) (by first | omega | (simp; done) | (simp; omega))))⟩

end Go.Proofs.YtoknmjpnelbplaaGreat
