/-
  Drafts: measured, converted, compared; the law of DraftOk.
-/
import Derived.Test.YtnpdincjekelaaaDrf
import Derived.Test.YtnpdincjekelaaaDok
set_option linter.unusedSimpArgs false
set_option linter.unusedVariables false
namespace Go.Proofs.Ytnpdincjekelaaa
open Go.RowKit

/-- What is left of a bound behind a draft. -/
def szD (n : Int) (D : Dr) : Int :=
  if szW n D.fn.length D.fl.length < 0 then -1 else if szW (szW n D.fn.length D.fl.length) D.nn.length D.nl.length < 0 then -1 else szT (szW (szW n D.fn.length D.fl.length) D.nn.length D.nl.length) D.ss

/-- The numbers of a draft are few. -/
structure DrLe (D : Dr) : Prop where
  fn : D.fn.length ≤ 1048576
  fl : D.fl.length ≤ 1048576
  nn : D.nn.length ≤ 1048576
  nl : D.nl.length ≤ 1048576
  ss : D.ss.length ≤ 1048576
  ws : ∀ k (hk : k < D.ss.length), D.ss[k].ns.length ≤ 1048576 ∧ D.ss[k].ls.length ≤ 1048576
  sum : sumT D.ss ≤ 1048576

theorem szD_le {D : Dr} (h : ¬ szD 1048576 D < 0) : DrLe D := by
  unfold szD at h
  split at h
  · omega
  · rename_i h1
    split at h
    · omega
    · rename_i h2
      have e1 := szW_val h1
      have e2 := szW_val h2
      have e3 := szT_val h
      have hs : (sumT D.ss : Int) + D.ss.length ≤ 1048576 := by omega
      refine ⟨by omega, by omega, by omega, by omega, by omega, fun k hk => ?_, by omega⟩
      have := sumT_ge D.ss k hk
      omega

set_option maxHeartbeats 4000000 in
set_option maxRecDepth 100000 in
theorem szDraft_at (v0 v1 v2 v3 v4 : Value) (D : Dr) (x : Int) (w : World) (h : RD w v0 v1 v2 v3 v4 D) (hx : Hid (szD 1048576 D = x)) :
    Calls Try.prog 31 #[.agg #[v0, v1, v2, v3, v4], .int .i64 1048576] w fun e w' => e = .returned (.int .i64 x) ∧ Below w.heap.size w w' := by
  obtain ⟨y, hy⟩ : ∃ y, szW 1048576 D.fn.length D.fl.length = y := ⟨_, rfl⟩
  have HY := Lib.hid hy
  have hfn := h.fn
  have hfl := h.fl
  by_cases hy0 : y < 0
  · have hx' := hx.out
    unfold szD at hx'
    rw [hy, if_pos hy0] at hx'
    subst hx'
    clear hy hx
    go_enter Try.func31, Try.ntmps31
    go_wp2_with fail
    refine (szWindow_at _ _ D.fn D.fl 1048576 y _ (hfn.below (by (repeat' (first | (with_reducible exact Below.refl _ _) | (with_reducible assumption) | (with_reducible refine Below.drew ?_) | (with_reducible refine below_drewN ?_ _) | (with_reducible refine Below.alloc ?_ ?_ _) | (with_reducible refine Below.setCell ?_ ?_ _) | (with_reducible refine Below.step (by assumption) ?_ ?_))); all_goals (first | omega | (simp; done) | (simp; omega)))) (hfl.below (by (repeat' (first | (with_reducible exact Below.refl _ _) | (with_reducible assumption) | (with_reducible refine Below.drew ?_) | (with_reducible refine below_drewN ?_ _) | (with_reducible refine Below.alloc ?_ ?_ _) | (with_reducible refine Below.setCell ?_ ?_ _) | (with_reducible refine Below.step (by assumption) ?_ ?_))); all_goals (first | omega | (simp; done) | (simp; omega)))) (by omega) (by omega) HY).mono ?_
    rintro e w1 ⟨rfl, hb1⟩; (first | (with_reducible have hcf1 := bcell_drew hb1) | have hcf1 := bcell hb1); obtain ⟨hc1, hf1⟩ := hcf1; have hz1 := hb1.size; (try simp at hz1); (try have hp1_0 : w.heap.size < w1.heap.size := by omega); (try have hp1_1 : w.heap.size + 1 < w1.heap.size := by omega); (try have hp1_2 : w.heap.size + 1 + 1 < w1.heap.size := by omega); (try have hp1_3 : w.heap.size + 1 + 1 + 1 < w1.heap.size := by omega)
    go_wp2
    go_ret
    exact ⟨rfl, by (repeat' (first | (with_reducible exact Below.refl _ _) | (with_reducible assumption) | (with_reducible refine Below.drew ?_) | (with_reducible refine below_drewN ?_ _) | (with_reducible refine Below.alloc ?_ ?_ _) | (with_reducible refine Below.setCell ?_ ?_ _) | (with_reducible refine Below.step (by assumption) ?_ ?_))); all_goals (first | omega | (simp; done) | (simp; omega))⟩
  · obtain ⟨z, hz⟩ : ∃ z, szW y D.nn.length D.nl.length = z := ⟨_, rfl⟩
    have HZ := Lib.hid hz
    have hnn := h.nn
    have hnl := h.nl
    have hyv := szW_val (show ¬ szW 1048576 D.fn.length D.fl.length < 0 by rw [hy]; exact hy0)
    rw [hy] at hyv
    have hy1 : y ≤ 1048576 := by omega
    clear hyv
    by_cases hz0 : z < 0
    · have hx' := hx.out
      unfold szD at hx'
      rw [hy, if_neg hy0, hz, if_pos hz0] at hx'
      subst hx'
      clear hy hz hx
      go_enter Try.func31, Try.ntmps31
      go_wp2_with fail
      refine (szWindow_at _ _ D.fn D.fl 1048576 y _ (hfn.below (by (repeat' (first | (with_reducible exact Below.refl _ _) | (with_reducible assumption) | (with_reducible refine Below.drew ?_) | (with_reducible refine below_drewN ?_ _) | (with_reducible refine Below.alloc ?_ ?_ _) | (with_reducible refine Below.setCell ?_ ?_ _) | (with_reducible refine Below.step (by assumption) ?_ ?_))); all_goals (first | omega | (simp; done) | (simp; omega)))) (hfl.below (by (repeat' (first | (with_reducible exact Below.refl _ _) | (with_reducible assumption) | (with_reducible refine Below.drew ?_) | (with_reducible refine below_drewN ?_ _) | (with_reducible refine Below.alloc ?_ ?_ _) | (with_reducible refine Below.setCell ?_ ?_ _) | (with_reducible refine Below.step (by assumption) ?_ ?_))); all_goals (first | omega | (simp; done) | (simp; omega)))) (by omega) (by omega) HY).mono ?_
      rintro e w1 ⟨rfl, hb1⟩
      have hz1 := hb1.size
      have hV1 : Blk w1 w.heap.size 54 #[v0, v1, v2, v3, v4] := Blk.below (Blk.newAt rfl) hb1 (by first | omega | (simp; done) | (simp; omega))
      have hbw1 : Below w.heap.size w w1 := by (repeat' (first | (with_reducible exact Below.refl _ _) | (with_reducible assumption) | (with_reducible refine Below.drew ?_) | (with_reducible refine below_drewN ?_ _) | (with_reducible refine Below.alloc ?_ ?_ _) | (with_reducible refine Below.setCell ?_ ?_ _) | (with_reducible refine Below.step (by assumption) ?_ ?_))); all_goals (first | omega | (simp; done) | (simp; omega))
      clear hb1
      (have a_0 := hV1.cell 0); (have a_1 := hV1.cell 1); (have a_2 := hV1.cell 2); (have a_3 := hV1.cell 3); (have a_4 := hV1.cell 4); simp only [List.getElem?_toArray, List.getElem?_cons_succ, List.getElem?_cons_zero] at a_0 a_1 a_2 a_3 a_4
      go_wp2_with fail
      refine (szWindow_at _ _ D.nn D.nl y z _ (hnn.below hbw1) (hnl.below hbw1) (by omega) (by omega) HZ).mono ?_
      rintro e w2 ⟨rfl, hb2⟩
      have hbw2 : Below w.heap.size w w2 := hbw1.trans (hb2.mono hbw1.size)
      go_wp2
      go_ret
      exact ⟨rfl, hbw2⟩
    · obtain ⟨u, hu⟩ : ∃ u, szT z D.ss = u := ⟨_, rfl⟩
      have HU := Lib.hid hu
      have hss := h.ss
      have hzv := szW_val (show ¬ szW y D.nn.length D.nl.length < 0 by rw [hz]; exact hz0)
      rw [hz] at hzv
      have hz1 : z ≤ 1048576 := by omega
      clear hzv
      have hx' := hx.out
      unfold szD at hx'
      rw [hy, if_neg hy0, hz, if_neg hz0, hu] at hx'
      subst hx'
      have hun : u < 0 → u = -1 := fun h0 => by rw [← hu]; exact szT_neg _ _ (by rw [hu]; exact h0)
      by_cases hu0 : u < 0
      · have e := hun hu0
        subst e
        clear hy hz hx hu hun
        go_enter Try.func31, Try.ntmps31
        go_wp2_with fail
        refine (szWindow_at _ _ D.fn D.fl 1048576 y _ (hfn.below (by (repeat' (first | (with_reducible exact Below.refl _ _) | (with_reducible assumption) | (with_reducible refine Below.drew ?_) | (with_reducible refine below_drewN ?_ _) | (with_reducible refine Below.alloc ?_ ?_ _) | (with_reducible refine Below.setCell ?_ ?_ _) | (with_reducible refine Below.step (by assumption) ?_ ?_))); all_goals (first | omega | (simp; done) | (simp; omega)))) (hfl.below (by (repeat' (first | (with_reducible exact Below.refl _ _) | (with_reducible assumption) | (with_reducible refine Below.drew ?_) | (with_reducible refine below_drewN ?_ _) | (with_reducible refine Below.alloc ?_ ?_ _) | (with_reducible refine Below.setCell ?_ ?_ _) | (with_reducible refine Below.step (by assumption) ?_ ?_))); all_goals (first | omega | (simp; done) | (simp; omega)))) (by omega) (by omega) HY).mono ?_
        rintro e w1 ⟨rfl, hb1⟩
        have hzz1 := hb1.size
        have hV1 : Blk w1 w.heap.size 54 #[v0, v1, v2, v3, v4] := Blk.below (Blk.newAt rfl) hb1 (by first | omega | (simp; done) | (simp; omega))
        have hbw1 : Below w.heap.size w w1 := by (repeat' (first | (with_reducible exact Below.refl _ _) | (with_reducible assumption) | (with_reducible refine Below.drew ?_) | (with_reducible refine below_drewN ?_ _) | (with_reducible refine Below.alloc ?_ ?_ _) | (with_reducible refine Below.setCell ?_ ?_ _) | (with_reducible refine Below.step (by assumption) ?_ ?_))); all_goals (first | omega | (simp; done) | (simp; omega))
        clear hb1
        (have a_0 := hV1.cell 0); (have a_1 := hV1.cell 1); (have a_2 := hV1.cell 2); (have a_3 := hV1.cell 3); (have a_4 := hV1.cell 4); simp only [List.getElem?_toArray, List.getElem?_cons_succ, List.getElem?_cons_zero] at a_0 a_1 a_2 a_3 a_4
        go_wp2_with fail
        refine (szWindow_at _ _ D.nn D.nl y z _ (hnn.below hbw1) (hnl.below hbw1) (by omega) (by omega) HZ).mono ?_
        rintro e w2 ⟨rfl, hb2⟩
        have hV2 := hV1.below hb2 hV1.lt
        have hbw2 : Below w.heap.size w w2 := hbw1.trans (hb2.mono hbw1.size)
        clear hb2 hV1 a_0 a_1 a_2 a_3 a_4
        (have a_0 := hV2.cell 0); (have a_1 := hV2.cell 1); (have a_2 := hV2.cell 2); (have a_3 := hV2.cell 3); (have a_4 := hV2.cell 4); simp only [List.getElem?_toArray, List.getElem?_cons_succ, List.getElem?_cons_zero] at a_0 a_1 a_2 a_3 a_4
        go_wp2_with fail
        refine (szStepS_at _ D.ss z (-1) _ (hss.below hbw2) (by omega) (by omega) HU).mono ?_
        rintro e w3 ⟨rfl, hb3⟩
        have hbw3 : Below w.heap.size w w3 := hbw2.trans (hb3.mono hbw2.size)
        go_wp2
        go_ret
        exact ⟨rfl, hbw3⟩
      · clear hy hz hx hu hun
        go_enter Try.func31, Try.ntmps31
        go_wp2_with fail
        refine (szWindow_at _ _ D.fn D.fl 1048576 y _ (hfn.below (by (repeat' (first | (with_reducible exact Below.refl _ _) | (with_reducible assumption) | (with_reducible refine Below.drew ?_) | (with_reducible refine below_drewN ?_ _) | (with_reducible refine Below.alloc ?_ ?_ _) | (with_reducible refine Below.setCell ?_ ?_ _) | (with_reducible refine Below.step (by assumption) ?_ ?_))); all_goals (first | omega | (simp; done) | (simp; omega)))) (hfl.below (by (repeat' (first | (with_reducible exact Below.refl _ _) | (with_reducible assumption) | (with_reducible refine Below.drew ?_) | (with_reducible refine below_drewN ?_ _) | (with_reducible refine Below.alloc ?_ ?_ _) | (with_reducible refine Below.setCell ?_ ?_ _) | (with_reducible refine Below.step (by assumption) ?_ ?_))); all_goals (first | omega | (simp; done) | (simp; omega)))) (by omega) (by omega) HY).mono ?_
        rintro e w1 ⟨rfl, hb1⟩
        have hzz1 := hb1.size
        have hV1 : Blk w1 w.heap.size 54 #[v0, v1, v2, v3, v4] := Blk.below (Blk.newAt rfl) hb1 (by first | omega | (simp; done) | (simp; omega))
        have hbw1 : Below w.heap.size w w1 := by (repeat' (first | (with_reducible exact Below.refl _ _) | (with_reducible assumption) | (with_reducible refine Below.drew ?_) | (with_reducible refine below_drewN ?_ _) | (with_reducible refine Below.alloc ?_ ?_ _) | (with_reducible refine Below.setCell ?_ ?_ _) | (with_reducible refine Below.step (by assumption) ?_ ?_))); all_goals (first | omega | (simp; done) | (simp; omega))
        clear hb1
        (have a_0 := hV1.cell 0); (have a_1 := hV1.cell 1); (have a_2 := hV1.cell 2); (have a_3 := hV1.cell 3); (have a_4 := hV1.cell 4); simp only [List.getElem?_toArray, List.getElem?_cons_succ, List.getElem?_cons_zero] at a_0 a_1 a_2 a_3 a_4
        go_wp2_with fail
        refine (szWindow_at _ _ D.nn D.nl y z _ (hnn.below hbw1) (hnl.below hbw1) (by omega) (by omega) HZ).mono ?_
        rintro e w2 ⟨rfl, hb2⟩
        have hV2 := hV1.below hb2 hV1.lt
        have hbw2 : Below w.heap.size w w2 := hbw1.trans (hb2.mono hbw1.size)
        clear hb2 hV1 a_0 a_1 a_2 a_3 a_4
        (have a_0 := hV2.cell 0); (have a_1 := hV2.cell 1); (have a_2 := hV2.cell 2); (have a_3 := hV2.cell 3); (have a_4 := hV2.cell 4); simp only [List.getElem?_toArray, List.getElem?_cons_succ, List.getElem?_cons_zero] at a_0 a_1 a_2 a_3 a_4
        go_wp2_with fail
        refine (szStepS_at _ D.ss z u _ (hss.below hbw2) (by omega) (by omega) HU).mono ?_
        rintro e w3 ⟨rfl, hb3⟩
        have hbw3 : Below w.heap.size w w3 := hbw2.trans (hb3.mono hbw2.size)
        go_wp2
        go_ret
        exact ⟨rfl, hbw3⟩

/-- A draft lies in blocks of its own, all apart. -/
structure OwnD (base : Nat) (w : World) (a b c d e : Value) (D : Dr) (fs : List SF) : Prop where
  first : OwnW base w a b D.fn D.fl
  now : OwnW base w c d D.nn D.nl
  ss : OwnT base w e fs
  map : fs.map Prod.fst = D.ss
  f_n : ∀ k, blksW a b k → ¬ blksW c d k
  f_s : ∀ k, blksW a b k → ¬ blksT e fs k
  n_s : ∀ k, blksW c d k → ¬ blksT e fs k

/-- The blocks of a draft. -/
def blksD (a b c d e : Value) (fs : List SF) (k : Nat) : Prop := blksW a b k ∨ blksW c d k ∨ blksT e fs k

section
variable {base : Nat} {w w' : World} {a b c d e : Value} {D : Dr} {fs : List SF}
theorem OwnD.lt (h : OwnD base w a b c d e D fs) (k : Nat) (hk : blksD a b c d e fs k) : base ≤ k ∧ k < w.heap.size := by
  rcases hk with hk | hk | hk
  · exact h.first.lt k hk
  · exact h.now.lt k hk
  · exact h.ss.lt k hk

theorem OwnD.turned {S : Nat → Prop} (h : OwnD base w a b c d e D fs) (hb : Turns S w w') (hs : ∀ k, blksD a b c d e fs k → ¬ S k) : OwnD base w' a b c d e D fs :=
  ⟨h.first.turned hb (fun k hk => hs k (.inl hk)), h.now.turned hb (fun k hk => hs k (.inr (.inl hk))), h.ss.turned hb (fun k hk => hs k (.inr (.inr hk))), h.map, h.f_n, h.f_s, h.n_s⟩

theorem OwnD.kept (h : OwnD base w a b c d e D fs) (hb : Below w.heap.size w w') : OwnD base w' a b c d e D fs :=
  h.turned (S := fun _ => False) (Turns.ofBelow hb) (fun _ _ h => h)

theorem OwnD.alloc (h : OwnD base w a b c d e D fs) (o : Obj) : OwnD base (w.alloc o) a b c d e D fs := h.kept ((Below.refl _ _).alloc (Nat.le_refl _) o)

theorem OwnD.reads (h : OwnD base w a b c d e D fs) : RD w a b c d e D :=
  ⟨h.first.1.reads, h.first.2.1.reads, h.now.1.reads, h.now.2.1.reads, by have := h.ss.reads; rw [h.map] at this; exact this⟩
end

/-- A call returns a draft in new memory. -/
def RetD (D : Dr) (w : World) (e : Ending) (w' : World) : Prop := ∃ A0 c0 A1 c1 A2 c2 A3 c3 A4 c4 fs,
  e = .returned (.agg #[.slice A0 D.fn.length c0, .slice A1 D.fl.length c1, .slice A2 D.nn.length c2, .slice A3 D.nl.length c3, .slice A4 D.ss.length c4]) ∧
  OwnD w.heap.size w' (.slice A0 D.fn.length c0) (.slice A1 D.fl.length c1) (.slice A2 D.nn.length c2) (.slice A3 D.nl.length c3) (.slice A4 D.ss.length c4) D fs ∧ Below w.heap.size w w'

set_option maxHeartbeats 8000000 in
set_option maxRecDepth 100000 in
theorem toDraft_any (v0 v1 v2 v3 v4 : Value) (D : Dr) (w : World) (h : RD w v0 v1 v2 v3 v4 D) (hle : DrLe D) :
    Calls Try.prog 33 #[.agg #[v0, v1, v2, v3, v4]] w (RetD D w) := by
  have hfn := h.fn
  have hfl := h.fl
  go_enter Try.func33, Try.ntmps33
  go_wp2_with fail
  refine (toWindow_any _ _ D.fn D.fl _ (hfn.below (by (repeat' (first | (with_reducible exact Below.refl _ _) | (with_reducible assumption) | (with_reducible refine Below.drew ?_) | (with_reducible refine below_drewN ?_ _) | (with_reducible refine Below.alloc ?_ ?_ _) | (with_reducible refine Below.setCell ?_ ?_ _) | (with_reducible refine Below.step (by assumption) ?_ ?_))); all_goals (first | omega | (simp; done) | (simp; omega)))) (hfl.below (by (repeat' (first | (with_reducible exact Below.refl _ _) | (with_reducible assumption) | (with_reducible refine Below.drew ?_) | (with_reducible refine below_drewN ?_ _) | (with_reducible refine Below.alloc ?_ ?_ _) | (with_reducible refine Below.setCell ?_ ?_ _) | (with_reducible refine Below.step (by assumption) ?_ ?_))); all_goals (first | omega | (simp; done) | (simp; omega)))) hle.fn hle.fl).mono ?_
  rintro e w1 ⟨A0, c0, A1, c1, rfl, ho1, hb1⟩
  have hz1 := hb1.size
  simp at hz1
  have hX1 : Blk w1 w.heap.size 54 #[v0, v1, v2, v3, v4] := Blk.below (((Blk.newAt rfl).alloc _).alloc _) hb1 (by first | omega | (simp; done) | (simp; omega))
  have hR1 : Blk w1 (w.heap.size + 1) 59 #[.slice none 0 0, .slice none 0 0, .slice none 0 0, .slice none 0 0, .slice none 0 0] := Blk.below ((Blk.newAt (by simp)).alloc _) hb1 (by first | omega | (simp; done) | (simp; omega))
  have hS1 : Blk w1 (w.heap.size + 1 + 1) 59 #[.slice none 0 0, .slice none 0 0, .slice none 0 0, .slice none 0 0, .slice none 0 0] := Blk.below (Blk.newAt (by simp)) hb1 (by first | omega | (simp; done) | (simp; omega))
  have hO1 : OwnW (w.heap.size + 1 + 1 + 1) w1 (.slice A0 D.fn.length c0) (.slice A1 D.fl.length c1) D.fn D.fl := by simpa using ho1
  have hbw1 : Below w.heap.size w w1 := by (repeat' (first | (with_reducible exact Below.refl _ _) | (with_reducible assumption) | (with_reducible refine Below.drew ?_) | (with_reducible refine below_drewN ?_ _) | (with_reducible refine Below.alloc ?_ ?_ _) | (with_reducible refine Below.setCell ?_ ?_ _) | (with_reducible refine Below.step (by assumption) ?_ ?_))); all_goals (first | omega | (simp; done) | (simp; omega))
  clear hb1 ho1
  (have x_0 := hX1.cell 0); (have x_1 := hX1.cell 1); (have x_2 := hX1.cell 2); (have x_3 := hX1.cell 3); (have x_4 := hX1.cell 4); simp only [List.getElem?_toArray, List.getElem?_cons_succ, List.getElem?_cons_zero] at x_0 x_1 x_2 x_3 x_4; (have x_f0 := hX1.frozen 0); (have x_f1 := hX1.frozen 1); (have x_f2 := hX1.frozen 2); (have x_f3 := hX1.frozen 3); (have x_f4 := hX1.frozen 4)
  (have s_0 := hS1.cell 0); (have s_1 := hS1.cell 1); (have s_2 := hS1.cell 2); (have s_3 := hS1.cell 3); (have s_4 := hS1.cell 4); simp only [List.getElem?_toArray, List.getElem?_cons_succ, List.getElem?_cons_zero] at s_0 s_1 s_2 s_3 s_4; (have s_f0 := hS1.frozen 0); (have s_f1 := hS1.frozen 1); (have s_f2 := hS1.frozen 2); (have s_f3 := hS1.frozen 3); (have s_f4 := hS1.frozen 4)
  have hXlt := hX1.lt
  have hSlt := hS1.lt
  go_wp2_with fail
  obtain ⟨u1, hu1⟩ : ∃ u1, u1 = ((w1.setCell ⟨w.heap.size + 1 + 1, 0, none⟩ (.slice A0 D.fn.length c0)).setCell ⟨w.heap.size + 1 + 1, 1, none⟩ (.slice A1 D.fl.length c1)) := ⟨_, rfl⟩
  rw [← hu1]
  have hy1 : u1.heap.size = w1.heap.size := by rw [hu1]; simp
  have hX1' : Blk u1 w.heap.size 54 #[v0, v1, v2, v3, v4] := hu1 ▸ (hX1.far (p := ⟨w.heap.size + 1 + 1, 0, none⟩) (by show _ ≠ w.heap.size + 1 + 1; omega) _).far (p := ⟨w.heap.size + 1 + 1, 1, none⟩) (by show _ ≠ w.heap.size + 1 + 1; omega) _
  have hR1' : Blk u1 (w.heap.size + 1) 59 #[.slice none 0 0, .slice none 0 0, .slice none 0 0, .slice none 0 0, .slice none 0 0] := hu1 ▸ (hR1.far (p := ⟨w.heap.size + 1 + 1, 0, none⟩) (by show _ ≠ w.heap.size + 1 + 1; omega) _).far (p := ⟨w.heap.size + 1 + 1, 1, none⟩) (by show _ ≠ w.heap.size + 1 + 1; omega) _
  have hS1' : Blk u1 (w.heap.size + 1 + 1) 59 #[.slice A0 D.fn.length c0, .slice A1 D.fl.length c1, .slice none 0 0, .slice none 0 0, .slice none 0 0] := hu1 ▸ (hS1.set_ 0 _).set_ 1 _
  have hO1' : OwnW (w.heap.size + 1 + 1 + 1) u1 (.slice A0 D.fn.length c0) (.slice A1 D.fl.length c1) D.fn D.fl := hu1 ▸ (hO1.setLow (p := ⟨w.heap.size + 1 + 1, 0, none⟩) (Nat.lt_succ_self _) _).setLow (p := ⟨w.heap.size + 1 + 1, 1, none⟩) (Nat.lt_succ_self _) _
  have hbv1 : Below w.heap.size w u1 := hu1 ▸ (hbw1.setCell (p := ⟨w.heap.size + 1 + 1, 0, none⟩) (by first | omega | (simp; done) | (simp; omega)) _).setCell (p := ⟨w.heap.size + 1 + 1, 1, none⟩) (by first | omega | (simp; done) | (simp; omega)) _
  clear hu1 hX1 hR1 hS1 hO1 hbw1 x_0 x_1 x_2 x_3 x_4 s_0 s_1 s_2 s_3 s_4 x_f0 x_f1 x_f2 x_f3 x_f4 s_f0 s_f1 s_f2 s_f3 s_f4 hXlt hSlt
  refine (toWindow_any _ _ D.nn D.nl _ (h.nn.below hbv1) (h.nl.below hbv1) hle.nn hle.nl).mono ?_
  rintro e w2 ⟨A2, c2, A3, c3, rfl, ho2, hb2⟩
  have hz2 := hb2.size
  have hX2 := hX1'.below hb2 hX1'.lt
  have hR2 := hR1'.below hb2 hR1'.lt
  have hS2 := hS1'.below hb2 hS1'.lt
  have hO2 := hO1'.kept hb2
  have hlt1 := hO1'.lt
  have hbw2 := hbv1.trans (hb2.mono hbv1.size)
  clear hb2 hX1' hR1' hS1' hO1' hbv1
  (have x_0 := hX2.cell 0); (have x_1 := hX2.cell 1); (have x_2 := hX2.cell 2); (have x_3 := hX2.cell 3); (have x_4 := hX2.cell 4); simp only [List.getElem?_toArray, List.getElem?_cons_succ, List.getElem?_cons_zero] at x_0 x_1 x_2 x_3 x_4; (have x_f0 := hX2.frozen 0); (have x_f1 := hX2.frozen 1); (have x_f2 := hX2.frozen 2); (have x_f3 := hX2.frozen 3); (have x_f4 := hX2.frozen 4)
  (have s_0 := hS2.cell 0); (have s_1 := hS2.cell 1); (have s_2 := hS2.cell 2); (have s_3 := hS2.cell 3); (have s_4 := hS2.cell 4); simp only [List.getElem?_toArray, List.getElem?_cons_succ, List.getElem?_cons_zero] at s_0 s_1 s_2 s_3 s_4; (have s_f0 := hS2.frozen 0); (have s_f1 := hS2.frozen 1); (have s_f2 := hS2.frozen 2); (have s_f3 := hS2.frozen 3); (have s_f4 := hS2.frozen 4)
  have hXlt := hX2.lt
  have hSlt := hS2.lt
  go_wp2_with fail
  obtain ⟨u2, hu2⟩ : ∃ u2, u2 = ((w2.setCell ⟨w.heap.size + 1 + 1, 2, none⟩ (.slice A2 D.nn.length c2)).setCell ⟨w.heap.size + 1 + 1, 3, none⟩ (.slice A3 D.nl.length c3)) := ⟨_, rfl⟩
  rw [← hu2]
  have hy2 : u2.heap.size = w2.heap.size := by rw [hu2]; simp
  have hX2' : Blk u2 w.heap.size 54 #[v0, v1, v2, v3, v4] := hu2 ▸ (hX2.far (p := ⟨w.heap.size + 1 + 1, 2, none⟩) (by show _ ≠ w.heap.size + 1 + 1; omega) _).far (p := ⟨w.heap.size + 1 + 1, 3, none⟩) (by show _ ≠ w.heap.size + 1 + 1; omega) _
  have hR2' : Blk u2 (w.heap.size + 1) 59 #[.slice none 0 0, .slice none 0 0, .slice none 0 0, .slice none 0 0, .slice none 0 0] := hu2 ▸ (hR2.far (p := ⟨w.heap.size + 1 + 1, 2, none⟩) (by show _ ≠ w.heap.size + 1 + 1; omega) _).far (p := ⟨w.heap.size + 1 + 1, 3, none⟩) (by show _ ≠ w.heap.size + 1 + 1; omega) _
  have hS2' : Blk u2 (w.heap.size + 1 + 1) 59 #[.slice A0 D.fn.length c0, .slice A1 D.fl.length c1, .slice A2 D.nn.length c2, .slice A3 D.nl.length c3, .slice none 0 0] := hu2 ▸ (hS2.set_ 2 _).set_ 3 _
  have hO2' : OwnW (w.heap.size + 1 + 1 + 1) u2 (.slice A0 D.fn.length c0) (.slice A1 D.fl.length c1) D.fn D.fl := hu2 ▸ (hO2.setLow (p := ⟨w.heap.size + 1 + 1, 2, none⟩) (Nat.lt_succ_self _) _).setLow (p := ⟨w.heap.size + 1 + 1, 3, none⟩) (Nat.lt_succ_self _) _
  have hN2' : OwnW u1.heap.size u2 (.slice A2 D.nn.length c2) (.slice A3 D.nl.length c3) D.nn D.nl := hu2 ▸ (ho2.setLow (p := ⟨w.heap.size + 1 + 1, 2, none⟩) (by show w.heap.size + 1 + 1 < _; omega) _).setLow (p := ⟨w.heap.size + 1 + 1, 3, none⟩) (by show w.heap.size + 1 + 1 < _; omega) _
  have hbv2 : Below w.heap.size w u2 := hu2 ▸ (hbw2.setCell (p := ⟨w.heap.size + 1 + 1, 2, none⟩) (by first | omega | (simp; done) | (simp; omega)) _).setCell (p := ⟨w.heap.size + 1 + 1, 3, none⟩) (by first | omega | (simp; done) | (simp; omega)) _
  clear hu2 hX2 hR2 hS2 hO2 ho2 hbw2 x_0 x_1 x_2 x_3 x_4 s_0 s_1 s_2 s_3 s_4 x_f0 x_f1 x_f2 x_f3 x_f4 s_f0 s_f1 s_f2 s_f3 s_f4 hXlt hSlt
  refine (toStepS_any _ D.ss _ (h.ss.below hbv2) hle.ss hle.ws).mono ?_
  rintro e w3 ⟨A4, c4, fs, rfl, hmap, ho3, hb3⟩
  have hz3 := hb3.size
  have hR3 := hR2'.below hb3 hR2'.lt
  have hS3 := hS2'.below hb3 hS2'.lt
  have hO3 := hO2'.kept hb3
  have hN3 := hN2'.kept hb3
  have hlt2 := hN2'.lt
  have hbw3 := hbv2.trans (hb3.mono hbv2.size)
  have hlt3 := ho3.lt
  have n1 : w.heap.size + 1 < w3.heap.size := hR3.lt
  have n2 : w.heap.size + 1 + 1 < w3.heap.size := hS3.lt
  clear hb3 hX2' hR2' hS2' hO2' hN2' hbv2
  have hH : ∀ (v w0 w1 w2 w3' w4 : Value), Hid (OwnD w.heap.size (((((((w3.setCell ⟨w.heap.size + 1 + 1, 4, none⟩ v).setCell ⟨w.heap.size + 1, 0, none⟩ w0).setCell ⟨w.heap.size + 1, 1, none⟩ w1).setCell ⟨w.heap.size + 1, 2, none⟩ w2).setCell ⟨w.heap.size + 1, 3, none⟩ w3').setCell ⟨w.heap.size + 1, 4, none⟩ w4)) (.slice A0 D.fn.length c0) (.slice A1 D.fl.length c1) (.slice A2 D.nn.length c2) (.slice A3 D.nl.length c3) (.slice A4 D.ss.length c4) D fs) := by
    intro v w0 w1' w2' w3' w4
    have hD : OwnD w.heap.size w3 (.slice A0 D.fn.length c0) (.slice A1 D.fl.length c1) (.slice A2 D.nn.length c2) (.slice A3 D.nl.length c3) (.slice A4 D.ss.length c4) D fs :=
      ⟨hO3.mono (by omega), hN3.mono (by omega), ho3.mono (by omega), hmap, fun k h1 h2 => by have := (hlt1 k h1).2; have := (hlt2 k h2).1; omega, fun k h1 h2 => by have := (hlt1 k h1).2; have := (hlt3 k h2).1; omega, fun k h1 h2 => by have := (hlt2 k h1).2; have := (hlt3 k h2).1; omega⟩
    have hlo : ∀ k, blksD (.slice A0 D.fn.length c0) (.slice A1 D.fl.length c1) (.slice A2 D.nn.length c2) (.slice A3 D.nl.length c3) (.slice A4 D.ss.length c4) fs k → w.heap.size + 1 + 1 < k := by
      rintro k (hk | hk | hk)
      · have := (hlt1 k hk).1; omega
      · have := (hlt2 k hk).1; omega
      · have := (hlt3 k hk).1; omega
    have step : ∀ (W : World) (g j : Nat) (u : Value), g ≤ w.heap.size + 1 + 1 → OwnD w.heap.size W (.slice A0 D.fn.length c0) (.slice A1 D.fl.length c1) (.slice A2 D.nn.length c2) (.slice A3 D.nl.length c3) (.slice A4 D.ss.length c4) D fs → OwnD w.heap.size (W.setCell ⟨g, j, none⟩ u) (.slice A0 D.fn.length c0) (.slice A1 D.fl.length c1) (.slice A2 D.nn.length c2) (.slice A3 D.nl.length c3) (.slice A4 D.ss.length c4) D fs :=
      fun W g j u hg hW => hW.turned (S := fun b => b = g) (Turns.ofGrown (set_grown W ⟨g, j, none⟩ u) (fun k hk => by cases hk; rfl)) (fun b hb e => by have := hlo b hb; omega)
    exact Lib.hid (step _ _ _ _ (by omega) (step _ _ _ _ (by omega) (step _ _ _ _ (by omega) (step _ _ _ _ (by omega) (step _ _ _ _ (by omega) (step _ _ _ _ (by omega) hD))))))
  have hB : ∀ (v w0 w1 w2 w3' w4 : Value), Hid (Below w.heap.size w (((((((w3.setCell ⟨w.heap.size + 1 + 1, 4, none⟩ v).setCell ⟨w.heap.size + 1, 0, none⟩ w0).setCell ⟨w.heap.size + 1, 1, none⟩ w1).setCell ⟨w.heap.size + 1, 2, none⟩ w2).setCell ⟨w.heap.size + 1, 3, none⟩ w3').setCell ⟨w.heap.size + 1, 4, none⟩ w4))) := fun v w0 w1 w2 w3' w4 => Lib.hid
    ((((((hbw3.setCell (p := ⟨w.heap.size + 1 + 1, 4, none⟩) (by first | omega | (simp; done) | (simp; omega)) v).setCell (p := ⟨w.heap.size + 1, 0, none⟩) (by first | omega | (simp; done) | (simp; omega)) w0).setCell (p := ⟨w.heap.size + 1, 1, none⟩) (by first | omega | (simp; done) | (simp; omega)) w1).setCell (p := ⟨w.heap.size + 1, 2, none⟩) (by first | omega | (simp; done) | (simp; omega)) w2).setCell (p := ⟨w.heap.size + 1, 3, none⟩) (by first | omega | (simp; done) | (simp; omega)) w3').setCell (p := ⟨w.heap.size + 1, 4, none⟩) (by first | omega | (simp; done) | (simp; omega)) w4)
  clear hO3 hN3 ho3 hbw3 hlt1 hlt2 hlt3
  (have r_0 := hR3.cell 0); (have r_1 := hR3.cell 1); (have r_2 := hR3.cell 2); (have r_3 := hR3.cell 3); (have r_4 := hR3.cell 4); simp only [List.getElem?_toArray, List.getElem?_cons_succ, List.getElem?_cons_zero] at r_0 r_1 r_2 r_3 r_4; (have r_f0 := hR3.frozen 0); (have r_f1 := hR3.frozen 1); (have r_f2 := hR3.frozen 2); (have r_f3 := hR3.frozen 3); (have r_f4 := hR3.frozen 4)
  (have s_0 := hS3.cell 0); (have s_1 := hS3.cell 1); (have s_2 := hS3.cell 2); (have s_3 := hS3.cell 3); (have s_4 := hS3.cell 4); simp only [List.getElem?_toArray, List.getElem?_cons_succ, List.getElem?_cons_zero] at s_0 s_1 s_2 s_3 s_4; (have s_f0 := hS3.frozen 0); (have s_f1 := hS3.frozen 1); (have s_f2 := hS3.frozen 2); (have s_f3 := hS3.frozen 3); (have s_f4 := hS3.frozen 4)
  go_wp2
  exact bodyPost_ret (v := .agg #[.slice A0 D.fn.length c0, .slice A1 D.fl.length c1, .slice A2 D.nn.length c2, .slice A3 D.nl.length c3, .slice A4 D.ss.length c4]) (by simp [results, Try.results33, go_sem, r_0, r_1, r_2, r_3, r_4, s_0, s_1, s_2, s_3, s_4, n1, n2]) rfl ⟨_, _, _, _, _, _, _, _, _, _, fs, rfl, (hH _ _ _ _ _ _).out, (hB _ _ _ _ _ _).out⟩

set_option maxHeartbeats 4000000 in
set_option maxRecDepth 100000 in
/-- Two drafts that read alike are found equal. -/
theorem eqDraft_any (v0 v1 v2 v3 v4 u0 u1 u2 u3 u4 : Value) (D : Dr) (w : World) (h : RD w v0 v1 v2 v3 v4 D) (g : RD w u0 u1 u2 u3 u4 D) :
    Calls Try.prog 35 #[.agg #[v0, v1, v2, v3, v4], .agg #[u0, u1, u2, u3, u4]] w fun e w' => e = .returned (.bool true) ∧ Below w.heap.size w w' := by
  have a1 := h.fn
  have a2 := h.fl
  have b1 := g.fn
  have b2 := g.fl
  go_enter Try.func35, Try.ntmps35
  go_wp2_with fail
  refine (eqWindow_any _ _ _ _ D.fn D.fl _ (a1.below (by (repeat' (first | (with_reducible exact Below.refl _ _) | (with_reducible assumption) | (with_reducible refine Below.drew ?_) | (with_reducible refine below_drewN ?_ _) | (with_reducible refine Below.alloc ?_ ?_ _) | (with_reducible refine Below.setCell ?_ ?_ _) | (with_reducible refine Below.step (by assumption) ?_ ?_))); all_goals (first | omega | (simp; done) | (simp; omega)))) (a2.below (by (repeat' (first | (with_reducible exact Below.refl _ _) | (with_reducible assumption) | (with_reducible refine Below.drew ?_) | (with_reducible refine below_drewN ?_ _) | (with_reducible refine Below.alloc ?_ ?_ _) | (with_reducible refine Below.setCell ?_ ?_ _) | (with_reducible refine Below.step (by assumption) ?_ ?_))); all_goals (first | omega | (simp; done) | (simp; omega)))) (b1.below (by (repeat' (first | (with_reducible exact Below.refl _ _) | (with_reducible assumption) | (with_reducible refine Below.drew ?_) | (with_reducible refine below_drewN ?_ _) | (with_reducible refine Below.alloc ?_ ?_ _) | (with_reducible refine Below.setCell ?_ ?_ _) | (with_reducible refine Below.step (by assumption) ?_ ?_))); all_goals (first | omega | (simp; done) | (simp; omega)))) (b2.below (by (repeat' (first | (with_reducible exact Below.refl _ _) | (with_reducible assumption) | (with_reducible refine Below.drew ?_) | (with_reducible refine below_drewN ?_ _) | (with_reducible refine Below.alloc ?_ ?_ _) | (with_reducible refine Below.setCell ?_ ?_ _) | (with_reducible refine Below.step (by assumption) ?_ ?_))); all_goals (first | omega | (simp; done) | (simp; omega))))).mono ?_
  rintro e w1 ⟨rfl, hb1⟩
  have hz1 := hb1.size
  simp at hz1
  have hX1 : Blk w1 w.heap.size 59 #[v0, v1, v2, v3, v4] := Blk.below ((Blk.newAt rfl).alloc _) hb1 (by first | omega | (simp; done) | (simp; omega))
  have hY1 : Blk w1 (w.heap.size + 1) 59 #[u0, u1, u2, u3, u4] := Blk.below (Blk.newAt (by simp)) hb1 (by first | omega | (simp; done) | (simp; omega))
  have hbw1 : Below w.heap.size w w1 := by (repeat' (first | (with_reducible exact Below.refl _ _) | (with_reducible assumption) | (with_reducible refine Below.drew ?_) | (with_reducible refine below_drewN ?_ _) | (with_reducible refine Below.alloc ?_ ?_ _) | (with_reducible refine Below.setCell ?_ ?_ _) | (with_reducible refine Below.step (by assumption) ?_ ?_))); all_goals (first | omega | (simp; done) | (simp; omega))
  clear hb1
  (have x_0 := hX1.cell 0); (have x_1 := hX1.cell 1); (have x_2 := hX1.cell 2); (have x_3 := hX1.cell 3); (have x_4 := hX1.cell 4); simp only [List.getElem?_toArray, List.getElem?_cons_succ, List.getElem?_cons_zero] at x_0 x_1 x_2 x_3 x_4
  (have y_0 := hY1.cell 0); (have y_1 := hY1.cell 1); (have y_2 := hY1.cell 2); (have y_3 := hY1.cell 3); (have y_4 := hY1.cell 4); simp only [List.getElem?_toArray, List.getElem?_cons_succ, List.getElem?_cons_zero] at y_0 y_1 y_2 y_3 y_4
  go_wp2_with fail
  refine (eqWindow_any _ _ _ _ D.nn D.nl _ (h.nn.below hbw1) (h.nl.below hbw1) (g.nn.below hbw1) (g.nl.below hbw1)).mono ?_
  rintro e w2 ⟨rfl, hb2⟩
  have hX2 := hX1.below hb2 hX1.lt
  have hY2 := hY1.below hb2 hY1.lt
  have hbw2 := hbw1.trans (hb2.mono hbw1.size)
  clear hb2 hX1 hY1 x_0 x_1 x_2 x_3 x_4 y_0 y_1 y_2 y_3 y_4
  (have x_0 := hX2.cell 0); (have x_1 := hX2.cell 1); (have x_2 := hX2.cell 2); (have x_3 := hX2.cell 3); (have x_4 := hX2.cell 4); simp only [List.getElem?_toArray, List.getElem?_cons_succ, List.getElem?_cons_zero] at x_0 x_1 x_2 x_3 x_4
  (have y_0 := hY2.cell 0); (have y_1 := hY2.cell 1); (have y_2 := hY2.cell 2); (have y_3 := hY2.cell 3); (have y_4 := hY2.cell 4); simp only [List.getElem?_toArray, List.getElem?_cons_succ, List.getElem?_cons_zero] at y_0 y_1 y_2 y_3 y_4
  go_wp2_with fail
  refine (eqStepS_any _ _ D.ss _ (h.ss.below hbw2) (g.ss.below hbw2)).mono ?_
  rintro e w3 ⟨rfl, hb3⟩
  have hbw3 := hbw2.trans (hb3.mono hbw2.size)
  go_wp2
  go_ret
  exact ⟨rfl, hbw3⟩

end Go.Proofs.Ytnpdincjekelaaa
