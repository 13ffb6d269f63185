/-
  Drafts: measured, converted, compared.
-/
import Derived.Test.YtnpdincjekelaaaSpT
set_option linter.unusedSimpArgs false
set_option linter.unusedVariables false
namespace Go.Proofs.Ytnpdincjekelaaa
open Go.RowKit

theorem infoStep : (Try.prog.info? 94).map (fun i => (i.zero, i.size, i.bytes)) = some (some (.agg #[.int .i64 0, .int .i64 0, .int .i64 0, .slice none 0 0, .slice none 0 0]), 5, 72) := by kernel_rfl

/-- A step of zeroes. -/
def zSF : SF := (⟨0, 0, 0, [], []⟩, .slice none 0 0, .slice none 0 0)

theorem made5 (n : Nat) : (madeCells #[.int .i64 0, .int .i64 0, .int .i64 0, .slice none 0 0, .slice none 0 0] (n * 5)).toList = (List.replicate n zSF).flatMap sfc := by
  apply List.ext_getElem?
  intro j
  by_cases hj : j < n * 5
  · have h1 := flat_get sfc 5 (fun _ => rfl) (List.replicate n zSF) (j / 5) (j % 5) (by simp; omega) (by omega)
    rw [show j / 5 * 5 + j % 5 = j by omega] at h1
    rw [h1]
    simp only [madeCells, Array.toList_map, List.getElem?_map, Array.toList_range, List.getElem?_range hj, Option.map_some]
    show some (#[Value.int .i64 0, .int .i64 0, .int .i64 0, .slice none 0 0, .slice none 0 0][j % 5]!) = _
    have : j % 5 = 0 ∨ j % 5 = 1 ∨ j % 5 = 2 ∨ j % 5 = 3 ∨ j % 5 = 4 := by omega
    rcases this with h | h | h | h | h <;> rw [h] <;> simp [sfc, zSF]
  · rw [List.getElem?_eq_none (by simp [madeCells]; omega), List.getElem?_eq_none (by rw [flat_len sfc 5 (fun _ => rfl)]; simp; omega)]

theorem blksW_nil (k : Nat) : ¬ blksW (.slice none 0 0) (.slice none 0 0) k := by
  rintro (h | h) <;> simp [Value.ownBlock] at h

/-- A row of zeroes. -/
theorem OwnT.zero {base : Nat} {w : World} {v : Value} {n : Nat} (h : w.ownsRow base 94 5 v n ((List.replicate n zSF).flatMap sfc)) : OwnT base w v (List.replicate n zSF) := by
  refine ⟨by simpa using h, fun k hk => ?_, fun k hk b _ => ?_, fun i j hi hj _ b hb => ?_⟩
  · rw [List.getElem_replicate]
    exact ⟨OwnP.nil _ _ _, OwnP.nil _ _ _, fun k hk => by simp [zSF, Value.ownBlock] at hk⟩
  · rw [List.getElem_replicate]
    exact blksW_nil b
  · rw [List.getElem_replicate] at hb
    exact absurd hb (blksW_nil b)

/-- A call returns steps in new memory. -/
def RetT (l : List Sp) (w : World) (e : Ending) (w' : World) : Prop := ∃ A c fs, e = .returned (.slice A l.length c) ∧ fs.map Prod.fst = l ∧ OwnT w.heap.size w' (.slice A l.length c) fs ∧ Below w.heap.size w w'

set_option maxHeartbeats 8000000 in
set_option maxRecDepth 100000 in
theorem toStepS_any (v : Value) (l : List Sp) (w : World) (h : RT w v l) (hle : l.length ≤ 1048576) (hws : ∀ k (hk : k < l.length), l[k].ns.length ≤ 1048576 ∧ l[k].ls.length ≤ 1048576) :
    Calls Try.prog 75 #[v] w (RetT l w) := by
  obtain ⟨A, c, rfl, hc, hm, hcell⟩ := h
  clear hm
  obtain ⟨i0, hi, hz0, hz1, hz2⟩ := info_parts infoStep
  go_enter Try.func75, Try.ntmps75
  go_wp2_with (at_make; refine wpList_make_full _ rfl _ _ 57 rfl w.heap.size 94 i0 (.agg #[.int .i64 0, .int .i64 0, .int .i64 0, .slice none 0 0, .slice none 0 0]) 5 Try.underlying57 hi hz0 hz1 .i64 .i64 _ _ l.length rfl rfl rfl rfl (by rw [hz2]; omega) (by unfold maxLen; omega) (Nat.le_refl _) ?_)
  intro w1 hown1 hgr1
  have hb1 : Below w.heap.size w w1 := (Below.refl _ _).grown hgr1 (Nat.le_refl _) (by intro k hk; cases hk)
  have hown : OwnT w.heap.size w1 (.slice (some ⟨w.heap.size, 0, none⟩) l.length l.length) (List.replicate l.length zSF) := by
    exact OwnT.zero (by rw [← made5]; exact hown1)
  have hw1 : w.heap.size < w1.heap.size := (World.ownsRow.lt hown1 w.heap.size rfl).2
  have HO1 := Lib.hid hown
  clear hown1 hown hgr1 hz0 hz1 hz2 hi
  go_wp2
  go_loopw [4] (fun i wr => ∃ (k : Nat) (fs : List SF), k ≤ l.length ∧ i = .int .i64 k ∧ fs.length = k ∧ Hid (fs.map Prod.fst = l.take k) ∧ Hid (OwnT w.heap.size wr (.slice (some ⟨w.heap.size, 0, none⟩) l.length l.length) (fs ++ List.replicate (l.length - k) zSF)) ∧ Below w.heap.size w wr ∧ w.heap.size < wr.heap.size) (fun i _ => l.length - (intOf i).toNat)
  case atStart => exact ⟨0, [], Nat.zero_le _, rfl, rfl, Lib.hid (by simp), Lib.hid (by simpa using HO1.out), hb1, hw1⟩
  case round =>
    obtain ⟨k, fs, hk, rfl, hfl, HM, HO, hbl, hwl⟩ := hrel
    have hsz := hbl.size
    clear HO1 hb1 hw1
    by_cases hlt : k < l.length
    · obtain ⟨b, off, rfl, hb, hcl⟩ := hcell (by omega)
      obtain ⟨k0, k1, k2, vn, vl, k3, k4, hn, hl⟩ := hcl k hlt
      obtain ⟨hw1, hw2⟩ := hws k hlt
      obtain ⟨Av, cv, ev, _⟩ := hn.form
      obtain ⟨Au, cu, eu, _⟩ := hl.form
      subst ev eu
      have q0 := (hbl.cell (p := ⟨b, off + k * 5, none⟩) hb).trans k0
      have q1 := (hbl.cell (p := ⟨b, off + k * 5 + 1, none⟩) hb).trans k1
      have q2 := (hbl.cell (p := ⟨b, off + k * 5 + 2, none⟩) hb).trans k2
      have q3 := (hbl.cell (p := ⟨b, off + k * 5 + 3, none⟩) hb).trans k3
      have q4 := (hbl.cell (p := ⟨b, off + k * 5 + 4, none⟩) hb).trans k4
      have hn' := hn.below hbl
      have hl' := hl.below hbl
      have hsk : Hid (l.take (k + 1) = l.take k ++ [l[k]]) := Lib.hid (List.take_succ_eq_append_getElem hlt)
      generalize l[k] = s at *
      clear k0 k1 k2 k3 k4 hcl hcell hn hl hws
      go_wp2_with fail
      refine (toStep_any s.k s.a s.b _ _ s.ns s.ls _ hn' hl' hw1 hw2).mono ?_
      rintro e w2 ⟨An, cn, Al, cl, rfl, ho2, hb2⟩
      have hsz2 := hb2.size
      have hbl2 : Below w.heap.size w w2 := hbl.trans (hb2.mono hsz)
      have hwl2 : w.heap.size < w2.heap.size := by omega
      have hT := HO.out.kept hb2
      have hlen : (fs ++ List.replicate (l.length - k) zSF).length = l.length := by simp; omega
      have hkq : k < (fs ++ List.replicate (l.length - k) zSF).length := by omega
      have hzk : (fs ++ List.replicate (l.length - k) zSF)[k] = zSF := by
        rw [List.getElem_append_right (by omega), List.getElem_replicate]
      have hrow := hT.row
      rw [hlen] at hrow
      have hset : (fs ++ List.replicate (l.length - k) zSF).set k (s, .slice An s.ns.length cn, .slice Al s.ls.length cl) = (fs ++ [(s, .slice An s.ns.length cn, .slice Al s.ls.length cl)]) ++ List.replicate (l.length - (k + 1)) zSF := by
        rw [List.set_append, if_neg (by omega), show l.length - k = (l.length - (k + 1)) + 1 by omega, List.replicate_succ, hfl, Nat.sub_self, List.set_cons_zero, List.append_assoc]
        rfl
      have hlt2 := ho2.lt
      have hltT := HO.out.lt
      have x0 := hrow.cellAt (k * 5 + 0) (by omega)
      have x1 := hrow.cellAt (k * 5 + 1) (by omega)
      have x2 := hrow.cellAt (k * 5 + 2) (by omega)
      have x3 := hrow.cellAt (k * 5 + 3) (by omega)
      have x4 := hrow.cellAt (k * 5 + 4) (by omega)
      rw [flat_get sfc 5 (fun _ => rfl) _ k _ hkq (by omega), hzk] at x0 x1 x2 x3 x4
      simp only [sfc, zSF, Nat.add_zero, List.getElem?_cons_zero, List.getElem?_cons_succ] at x0 x1 x2 x3 x4
      have f0 := hrow.frozenAt (k * 5)
      have f1 := hrow.frozenAt (k * 5 + 1)
      have f2 := hrow.frozenAt (k * 5 + 2)
      have f3 := hrow.frozenAt (k * 5 + 3)
      have f4 := hrow.frozenAt (k * 5 + 4)
      obtain ⟨r0, t0⟩ := hrow.stored (k * 5 + 0) (.int .i64 s.k)
      obtain ⟨r1, t1⟩ := r0.stored (k * 5 + 1) (.int .i64 s.a)
      obtain ⟨r2, t2⟩ := r1.stored (k * 5 + 2) (.int .i64 s.b)
      obtain ⟨r3, t3⟩ := r2.stored (k * 5 + 3) (.slice An s.ns.length cn)
      obtain ⟨r4, t4⟩ := r3.stored (k * 5 + 4) (.slice Al s.ls.length cl)
      rw [flat_setT _ k 0 _ (⟨s.k, 0, 0, [], []⟩, .slice none 0 0, .slice none 0 0) hkq (by omega) (by rw [hzk]; rfl),
        flat_setT _ k 1 _ (⟨s.k, s.a, 0, [], []⟩, .slice none 0 0, .slice none 0 0) (by rw [List.length_set]; exact hkq) (by omega) (by rw [List.getElem_set_self]; rfl),
        flat_setT _ k 2 _ (⟨s.k, s.a, s.b, [], []⟩, .slice none 0 0, .slice none 0 0) (by rw [List.length_set, List.length_set]; exact hkq) (by omega) (by rw [List.getElem_set_self]; rfl),
        flat_setT _ k 3 _ (⟨s.k, s.a, s.b, [], []⟩, .slice An s.ns.length cn, .slice none 0 0) (by rw [List.length_set, List.length_set, List.length_set]; exact hkq) (by omega) (by rw [List.getElem_set_self]; rfl),
        flat_setT _ k 4 _ (s, .slice An s.ns.length cn, .slice Al s.ls.length cl) (by rw [List.length_set, List.length_set, List.length_set, List.length_set]; exact hkq) (by omega) (by rw [List.getElem_set_self]; rfl),
        List.set_set, List.set_set, List.set_set, List.set_set] at r4
      have hput := hT.put hkq hlen.symm r4 (Turns.trans (Turns.trans (Turns.trans (Turns.trans (Turns.ofGrown t0 (fun k hk => by cases hk; rfl)) (Turns.ofGrown t1 (fun k hk => by cases hk; rfl))) (Turns.ofGrown t2 (fun k hk => by cases hk; rfl))) (Turns.ofGrown t3 (fun k hk => by cases hk; rfl))) (Turns.ofGrown t4 (fun k hk => by cases hk; rfl)))
        (f := (s, .slice An s.ns.length cn, .slice Al s.ls.length cl)) (ho2.mono hsz) (fun hb => by have := (hlt2 _ hb).1; omega) (fun j hj _ b hb hb' => by
          have h1 := (hlt2 _ hb).1
          have h2 := (hltT b (.inr ⟨j, hj, hb'⟩)).2
          omega)
      rw [hset] at hput
      have HP := Lib.hid hput
      have HB := Lib.hid (((((hbl2.setCell (p := ⟨w.heap.size, k * 5 + 0, none⟩) (Nat.le_refl _) (.int .i64 s.k)).setCell (p := ⟨w.heap.size, k * 5 + 1, none⟩) (Nat.le_refl _) (.int .i64 s.a)).setCell (p := ⟨w.heap.size, k * 5 + 2, none⟩) (Nat.le_refl _) (.int .i64 s.b)).setCell (p := ⟨w.heap.size, k * 5 + 3, none⟩) (Nat.le_refl _) (.slice An s.ns.length cn)).setCell (p := ⟨w.heap.size, k * 5 + 4, none⟩) (Nat.le_refl _) (.slice Al s.ls.length cl))
      rw [Nat.add_zero] at HP HB
      have HM2 : Hid ((fs ++ [(s, Value.slice An s.ns.length cn, Value.slice Al s.ls.length cl)]).map Prod.fst = l.take (k + 1)) := Lib.hid (by rw [List.map_append, HM.out, hsk.out]; rfl)
      clear r0 r1 r2 r3 r4 t0 t1 t2 t3 t4 hput hT hrow hset hzk hb2 ho2 hlt2 hltT HM HO hsk hbl hbl2 hkq hlen q0 q1 q2 q3 q4
      go_wp2
      go_roundw
      case rel => exact ⟨k + 1, _, by omega, by go_num, by simp; omega, HM2, HP, HB.out, by simp; omega⟩
      case measure => simp [intOf]; omega
    · have hkk : k = l.length := by omega
      have hfs : fs ++ List.replicate (l.length - k) zSF = fs := by rw [hkk]; simp
      rw [hfs] at HO
      rw [hkk, List.take_length] at HM
      clear hcell
      go_wp2
      go_ret
      exact ⟨_, _, fs, rfl, HM.out, HO.out, hbl⟩

set_option maxHeartbeats 2000000 in
set_option maxRecDepth 100000 in
/-- Two steps that read alike are found equal. -/
theorem eqStep_any (k a b : Int) (vn vl un ul : Value) (ns ls : List Pr) (w : World) (hn : RP w vn ns) (hl : RP w vl ls) (hn' : RP w un ns) (hl' : RP w ul ls) :
    Calls Try.prog 112 #[.agg #[.int .i64 k, .int .i64 a, .int .i64 b, vn, vl], .agg #[.int .i64 k, .int .i64 a, .int .i64 b, un, ul]] w fun e w' => e = .returned (.bool true) ∧ Below w.heap.size w w' := by
  go_enter Try.func112, Try.ntmps112
  go_wp2_with fail
  refine (eqWindow_any _ _ _ _ ns ls _ (hn.below (by (repeat' (first | (with_reducible exact Below.refl _ _) | (with_reducible assumption) | (with_reducible refine Below.drew ?_) | (with_reducible refine below_drewN ?_ _) | (with_reducible refine Below.alloc ?_ ?_ _) | (with_reducible refine Below.setCell ?_ ?_ _) | (with_reducible refine Below.step (by assumption) ?_ ?_))); all_goals (first | omega | (simp; done) | (simp; omega)))) (hl.below (by (repeat' (first | (with_reducible exact Below.refl _ _) | (with_reducible assumption) | (with_reducible refine Below.drew ?_) | (with_reducible refine below_drewN ?_ _) | (with_reducible refine Below.alloc ?_ ?_ _) | (with_reducible refine Below.setCell ?_ ?_ _) | (with_reducible refine Below.step (by assumption) ?_ ?_))); all_goals (first | omega | (simp; done) | (simp; omega)))) (hn'.below (by (repeat' (first | (with_reducible exact Below.refl _ _) | (with_reducible assumption) | (with_reducible refine Below.drew ?_) | (with_reducible refine below_drewN ?_ _) | (with_reducible refine Below.alloc ?_ ?_ _) | (with_reducible refine Below.setCell ?_ ?_ _) | (with_reducible refine Below.step (by assumption) ?_ ?_))); all_goals (first | omega | (simp; done) | (simp; omega)))) (hl'.below (by (repeat' (first | (with_reducible exact Below.refl _ _) | (with_reducible assumption) | (with_reducible refine Below.drew ?_) | (with_reducible refine below_drewN ?_ _) | (with_reducible refine Below.alloc ?_ ?_ _) | (with_reducible refine Below.setCell ?_ ?_ _) | (with_reducible refine Below.step (by assumption) ?_ ?_))); all_goals (first | omega | (simp; done) | (simp; omega))))).mono ?_
  rintro e w1 ⟨rfl, hb1⟩; (first | (with_reducible have hcf1 := bcell_drew hb1) | have hcf1 := bcell hb1); obtain ⟨hc1, hf1⟩ := hcf1; have hz1 := hb1.size; (try simp at hz1); (try have hp1_0 : w.heap.size < w1.heap.size := by omega); (try have hp1_1 : w.heap.size + 1 < w1.heap.size := by omega); (try have hp1_2 : w.heap.size + 1 + 1 < w1.heap.size := by omega); (try have hp1_3 : w.heap.size + 1 + 1 + 1 < w1.heap.size := by omega)
  go_wp2
  go_ret
  exact ⟨rfl, by (repeat' (first | (with_reducible exact Below.refl _ _) | (with_reducible assumption) | (with_reducible refine Below.drew ?_) | (with_reducible refine below_drewN ?_ _) | (with_reducible refine Below.alloc ?_ ?_ _) | (with_reducible refine Below.setCell ?_ ?_ _) | (with_reducible refine Below.step (by assumption) ?_ ?_))); all_goals (first | omega | (simp; done) | (simp; omega))⟩

set_option maxHeartbeats 4000000 in
set_option maxRecDepth 100000 in
/-- Two lists of steps that read alike are found equal. -/
theorem eqStepS_any (v u : Value) (l : List Sp) (w : World) (hv : RT w v l) (hu : RT w u l) :
    Calls Try.prog 77 #[v, u] w fun e w' => e = .returned (.bool true) ∧ Below w.heap.size w w' := by
  obtain ⟨A, c, rfl, hc, hm, hcell⟩ := hv
  obtain ⟨A', c', rfl, hc', hm', hcell'⟩ := hu
  unfold maxLen at hm hm'
  go_enter Try.func77, Try.ntmps77
  go_wp2
  go_loopw [5] (fun i wr => ∃ k : Nat, k ≤ l.length ∧ i = .int .i64 k ∧ Below w.heap.size w wr) (fun i _ => l.length - (intOf i).toNat)
  case atStart => exact ⟨0, Nat.zero_le _, rfl, Below.refl _ _⟩
  case round =>
    obtain ⟨k, hk, rfl, hbl⟩ := hrel
    have hsz := hbl.size
    by_cases hlt : k < l.length
    · obtain ⟨b, off, rfl, hb, hcl⟩ := hcell (by omega)
      obtain ⟨k0, k1, k2, vn, vl, k3, k4, hn, hl⟩ := hcl k hlt
      have q0 := (hbl.cell (p := ⟨b, off + k * 5, none⟩) hb).trans k0
      have q1 := (hbl.cell (p := ⟨b, off + k * 5 + 1, none⟩) hb).trans k1
      have q2 := (hbl.cell (p := ⟨b, off + k * 5 + 2, none⟩) hb).trans k2
      have q3 := (hbl.cell (p := ⟨b, off + k * 5 + 3, none⟩) hb).trans k3
      have q4 := (hbl.cell (p := ⟨b, off + k * 5 + 4, none⟩) hb).trans k4
      obtain ⟨b', off', rfl, hb', hcl'⟩ := hcell' (by omega)
      obtain ⟨j0, j1, j2, un, ul, j3, j4, hn2, hl2⟩ := hcl' k hlt
      have p0 := (hbl.cell (p := ⟨b', off' + k * 5, none⟩) hb').trans j0
      have p1 := (hbl.cell (p := ⟨b', off' + k * 5 + 1, none⟩) hb').trans j1
      have p2 := (hbl.cell (p := ⟨b', off' + k * 5 + 2, none⟩) hb').trans j2
      have p3 := (hbl.cell (p := ⟨b', off' + k * 5 + 3, none⟩) hb').trans j3
      have p4 := (hbl.cell (p := ⟨b', off' + k * 5 + 4, none⟩) hb').trans j4
      have hi1 : (0 : Int) ≤ (k : Int) := by omega
      have hi2 : (k : Int) < (l.length : Int) := by omega
      have hn3 := Lib.hid (hn.below hbl)
      have hl3 := Lib.hid (hl.below hbl)
      have hn4 := Lib.hid (hn2.below hbl)
      have hl4 := Lib.hid (hl2.below hbl)
      generalize l[k] = s at *
      clear k0 k1 k2 k3 k4 hcl hcell j0 j1 j2 j3 j4 hcl' hcell' hn hl hn2 hl2
      go_wp2
      go_still_tail 8, (by kernel_rfl)
      go_wp2_with fail
      refine (eqStep_any _ _ _ _ _ _ _ s.ns s.ls _ (hn3.out.below (by (repeat' (first | (with_reducible exact Below.refl _ _) | (with_reducible assumption) | (with_reducible refine Below.drew ?_) | (with_reducible refine below_drewN ?_ _) | (with_reducible refine Below.alloc ?_ ?_ _) | (with_reducible refine Below.setCell ?_ ?_ _) | (with_reducible refine Below.step (by assumption) ?_ ?_))); all_goals (first | omega | (simp; done) | (simp; omega)))) (hl3.out.below (by (repeat' (first | (with_reducible exact Below.refl _ _) | (with_reducible assumption) | (with_reducible refine Below.drew ?_) | (with_reducible refine below_drewN ?_ _) | (with_reducible refine Below.alloc ?_ ?_ _) | (with_reducible refine Below.setCell ?_ ?_ _) | (with_reducible refine Below.step (by assumption) ?_ ?_))); all_goals (first | omega | (simp; done) | (simp; omega)))) (hn4.out.below (by (repeat' (first | (with_reducible exact Below.refl _ _) | (with_reducible assumption) | (with_reducible refine Below.drew ?_) | (with_reducible refine below_drewN ?_ _) | (with_reducible refine Below.alloc ?_ ?_ _) | (with_reducible refine Below.setCell ?_ ?_ _) | (with_reducible refine Below.step (by assumption) ?_ ?_))); all_goals (first | omega | (simp; done) | (simp; omega)))) (hl4.out.below (by (repeat' (first | (with_reducible exact Below.refl _ _) | (with_reducible assumption) | (with_reducible refine Below.drew ?_) | (with_reducible refine below_drewN ?_ _) | (with_reducible refine Below.alloc ?_ ?_ _) | (with_reducible refine Below.setCell ?_ ?_ _) | (with_reducible refine Below.step (by assumption) ?_ ?_))); all_goals (first | omega | (simp; done) | (simp; omega))))).mono ?_
      rintro e w2 ⟨rfl, hb2⟩
      have hbl2 : Below w.heap.size w w2 := hbl.trans ((show Below wr.heap.size wr w2 from ⟨hb2.os, hb2.tape, hb2.output, hb2.size, hb2.block⟩).mono hsz)
      clear hb2
      go_wp2
      go_roundw
      case rel => exact ⟨k + 1, by omega, by go_num, hbl2⟩
      case measure => simp [intOf]; omega
    · clear hcell hcell'
      go_wp2
      go_ret
      exact ⟨rfl, hbl⟩

end Go.Proofs.Ytnpdincjekelaaa
