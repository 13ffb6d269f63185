/- FetchPane over the packs -/
import Derived.Test.YtoknmjpnelbplaaGreatLPk41
import Derived.Lib.SliceRun
import Derived.Deep.Upon
import Derived.Deep.RegionHeld3
set_option linter.unusedSimpArgs false
set_option linter.unusedVariables false
namespace Go.Proofs.YtoknmjpnelbplaaGreat
open Go.RowKit
theorem OwnDp.kept {base : Nat} {w w' : World} {v : Value} {l : List Dp} (h : OwnDp base w v l) (hb : Below w.heap.size w w') : OwnDp base w' v l := own_kept h hb
end Go.Proofs.YtoknmjpnelbplaaGreat

namespace Go.Proofs.YtoknmjpnelbplaaGreat
open Go.RowKit

theorem dp_len (l : List Dp) : (l.flatMap Dp.cs).length = l.length * 3 := flat_len Dp.cs 3 (fun _ => rfl) l
theorem dp_drop (ls : List Dp) (k : Nat) : (ls.drop k).flatMap Dp.cs = (ls.flatMap Dp.cs).drop (k * 3) := by
  induction ls generalizing k with
  | nil => simp
  | cons p ls ih =>
    cases k with
    | zero => simp
    | succ k =>
      rw [List.drop_succ_cons, ih, List.flatMap_cons, show (k + 1) * 3 = k * 3 + 3 by omega]
      simp [Dp.cs]
theorem dp_take (ls : List Dp) (k : Nat) : (ls.take k).flatMap Dp.cs = (ls.flatMap Dp.cs).take (k * 3) := by
  induction ls generalizing k with
  | nil => simp
  | cons p ls ih =>
    cases k with
    | zero => simp
    | succ k =>
      rw [List.take_succ_cons, List.flatMap_cons, ih, List.flatMap_cons, show (k + 1) * 3 = k * 3 + 3 by omega]
      simp [Dp.cs]
theorem dp_one (l : List Dp) : ∀ u ∈ l.flatMap Dp.cs, u.oneCell' = true := one_deps l

/-- A piece in the midst of a row of deposits written over by what lies behind it. -/
theorem own_cut3 {base g cap : Nat} {w : World} {ls : List Dp} {k : Nat} (h : OwnDp base w (.slice (some ⟨g, 0, none⟩) ls.length cap) ls) (hk : k < ls.length) :
    OwnDp base (w.setCells g (k * 3) ((ls.drop (k + 1)).flatMap Dp.cs)) (.slice (some ⟨g, 0, none⟩) (ls.length - 1) cap) (ls.take k ++ ls.drop (k + 1)) := by
  have hlen : (ls.take k ++ ls.drop (k + 1)).length = ls.length - 1 := by simp; omega
  have hdl : ((ls.drop (k + 1)).flatMap Dp.cs).length = (ls.length - (k + 1)) * 3 := by rw [dp_len]; simp
  refine ⟨dp_len _, ?_⟩
  rcases h.2 with ⟨e, _⟩ | ⟨g', cap', cur, e, hb, hh, hnc, hcm, hsz, hxs⟩
  · cases e
  · cases e
    have hcur : ls.length * 3 ≤ cur.size := by rw [hsz]; exact Nat.mul_le_mul_right 3 hnc
    have hrow := setCells_row g 91 ((ls.drop (k + 1)).flatMap Dp.cs) (k * 3) w cur hh (by rw [hdl]; omega)
    refine .inr ⟨g, cap, _, by rw [hlen], hb, hrow, by rw [hlen]; omega, hcm, ?_, ?_⟩
    · simp only [List.size_toArray, List.length_append, List.length_take, List.length_drop, hdl, Array.length_toList]
      omega
    · rw [hlen, List.flatMap_append, dp_drop, dp_take, ← hxs]
      have hc : cur.toList.length = cur.size := Array.length_toList
      have htl : (List.take (k * 3) cur.toList).length = k * 3 := by rw [List.length_take, hc]; omega
      have e3 : (List.drop ((k + 1) * 3) (List.take (ls.length * 3) cur.toList)).length = (ls.length - 1) * 3 - k * 3 := by rw [List.length_drop, List.length_take, hc]; omega
      show List.take ((ls.length - 1) * 3) (List.take (k * 3) cur.toList ++ _ ++ _) = _
      rw [List.append_assoc, List.take_append, htl, List.take_of_length_le (by rw [htl]; omega), List.take_left' e3, List.take_take, Nat.min_eq_left (by omega)]

/-- What lies behind a row turns. -/
theorem own_tail3 {base g n cap : Nat} {w : World} {ls : List Dp} {vs : List Value} (h : OwnDp base w (.slice (some ⟨g, 0, none⟩) n cap) ls) (hn : n = ls.length) (hv : n * 3 + vs.length ≤ cap * 3) :
    OwnDp base (w.setCells g (n * 3) vs) (.slice (some ⟨g, 0, none⟩) n cap) ls := by
  subst hn
  refine ⟨h.1, ?_⟩
  rcases h.2 with ⟨e, _⟩ | ⟨g', cap', cur, e, hb, hh, hnc, hcm, hsz, hxs⟩
  · cases e
  · cases e
    have hrow := setCells_row g 91 vs (ls.length * 3) w cur hh (by rw [hsz]; exact hv)
    refine .inr ⟨g, cap, _, rfl, hb, hrow, hnc, hcm, ?_, ?_⟩
    · simp only [List.size_toArray, List.length_append, List.length_take, List.length_drop, Array.length_toList]
      omega
    · have hcur : ls.length * 3 ≤ cur.size := by rw [hsz]; exact Nat.mul_le_mul_right 3 hnc
      have hc : cur.toList.length = cur.size := Array.length_toList
      have htl : (List.take (ls.length * 3) cur.toList).length = ls.length * 3 := by rw [List.length_take, hc]; omega
      show List.take (ls.length * 3) (List.take (ls.length * 3) cur.toList ++ _ ++ _) = _
      rw [List.append_assoc, List.take_left' htl]
      exact hxs

/-- append of a slice's own tail to its head: run. -/
theorem run_append_cut3 {P : Program} {w : World} {t ty : TypeId} {i : TypeInfo} {base g cap c2 : Nat} {ls : List Dp} {k : Nat} (ht : P.underlying t = some (.slice 91)) (hi : P.info? 91 = some i) (hsize : i.size = 3)
    (h : OwnDp base w (.slice (some ⟨g, 0, none⟩) ls.length cap) ls) (hk : k < ls.length) :
    (Builtin.append_ #[t, t] ty #[.slice (some ⟨g, 0, none⟩) k cap, .slice (if cap = k + 1 then some ⟨g, 0, none⟩ else some ⟨g, (k + 1) * 3, none⟩) (ls.length - (k + 1)) c2]).run P w =
      .ok (.slice (some ⟨g, 0, none⟩) (ls.length - 1) cap) (w.setCells g (k * 3) ((ls.drop (k + 1)).flatMap Dp.cs)) := by
  have hcap : ls.length ≤ cap := by
    rcases h.2 with ⟨e, _⟩ | ⟨g', cap', cur, e, hb, hh, hnc, hcm, hsz, hxs⟩
    · cases e
    · cases e; exact hnc
  have hdl : ((ls.drop (k + 1)).flatMap Dp.cs).length = (ls.length - (k + 1)) * 3 := by rw [dp_len, List.length_drop]
  have hfl := dp_len ls
  have ho : w.ownsRow base 91 3 (.slice (some ⟨g, 0, none⟩) ls.length cap) ls.length (ls.flatMap Dp.cs) := h
  have hcell : ∀ j, j < ls.length * 3 → w.cell? ⟨g, j, none⟩ = (ls.flatMap Dp.cs)[j]? := fun j hj => ho.cellAt j (by omega)
  have hsrc : Src P i.size t (.slice (if cap = k + 1 then some ⟨g, 0, none⟩ else some ⟨g, (k + 1) * 3, none⟩) (ls.length - (k + 1)) c2) (ls.length - (k + 1)) ((ls.drop (k + 1)).flatMap Dp.cs) w := by
    by_cases hck : cap = k + 1
    · rw [if_pos hck]
      have e0 : ls.length - (k + 1) = 0 := by omega
      refine Src.ofSlice w ht _ _ _ _ (by rw [hsize]; exact hdl) ?_ (dp_one _)
      intro j u hu
      have hj := (List.getElem?_eq_some_iff.1 hu).1
      rw [hdl] at hj
      omega
    · rw [if_neg hck]
      refine Src.ofSlice w ht _ _ _ _ (by rw [hsize]; exact hdl) ?_ (dp_one _)
      intro j u hu
      have hj := (List.getElem?_eq_some_iff.1 hu).1
      rw [hdl] at hj
      rw [addr_add, hcell _ (by omega), ← hu, dp_drop, List.getElem?_drop]
  have hr := run_append_room_src (P := P) w t t ty 91 i ht hi g 0 k cap _ (ls.length - (k + 1)) ((ls.drop (k + 1)).flatMap Dp.cs) hsrc (by omega)
    (fun j hj => by rw [hdl] at hj; rw [hsize, Nat.zero_add, hcell _ (by omega), List.getElem?_eq_getElem (by omega)]; rfl)
    (fun j hj => ho.frozenAt _)
  rw [hsize, Nat.zero_add, show k + (ls.length - (k + 1)) = ls.length - 1 by omega] at hr
  exact hr

theorem step_append_cut3 {P : Program} {w : World} {ops : Array Oper} {rest : List Oper} {o : Oper} {a : Act} {Q : Exit → Act → World → Prop} (hgd : o.guard = none) (s x : Operand) (t : TypeId)
    (ho : o.op = .call { callee := .builtin .append, args := #[s, x], argTypes := #[t, t] })
    (base : Nat) (i : TypeInfo) (ht : P.underlying t = some (.slice 91)) (hi : P.info? 91 = some i) (hsize : i.size = 3) (g cap c2 : Nat) (ls : List Dp) (k : Nat)
    (hs : a.eval s = .slice (some ⟨g, 0, none⟩) k cap) (hx : a.eval x = .slice (if cap = k + 1 then some ⟨g, 0, none⟩ else some ⟨g, (k + 1) * 3, none⟩) (ls.length - (k + 1)) c2)
    (hown : OwnDp base w (.slice (some ⟨g, 0, none⟩) ls.length cap) ls) (hk : k < ls.length)
    (h : ∀ w', OwnDp base w' (.slice (some ⟨g, 0, none⟩) (ls.length - 1) cap) (ls.take k ++ ls.drop (k + 1)) → w.grownBy w' (some g) → wpList P ops Q rest (a.put o.dst (.slice (some ⟨g, 0, none⟩) (ls.length - 1) cap)) w') :
    wpList P ops Q (o :: rest) a w :=
  wpList_plain hgd fun K hK => by
    have hrun := run_append_cut3 (ty := o.type) (c2 := c2) ht hi hsize hown hk
    unfold Oper.wp execOp
    simp only [ho, resolve, invoke, builtin, Sem.run_bind, Sem.run_pure, Result.andThen_ok, List.map_toArray, List.map_cons, List.map_nil, hs, hx, hrun]
    exact hK _ _ (h _ (own_cut3 hown hk) ⟨World.os_setCells _ _ _ _, setCells_tape _ _ _ _, World.output_setCells _ _ _ _, by rw [setCells_size]; exact Nat.le_refl _, fun i hi hne => World.heap_setCells_other _ _ _ _ hi (fun e => hne (by rw [e]))⟩)

/-- clear of one deposit behind the row. -/
theorem run_clear_dep {P : Program} (w : World) (t ty : TypeId) (ht : P.underlying t = some (.slice 91)) (hv : ∀ w, (zeroValue 91).run P w = .ok (.agg #[.int .i64 0, .int .i64 0, .int .i64 0]) w) (b o c : Nat)
    (hc : ∀ j, j < 3 → (w.cell? ⟨b, o + j, none⟩).isSome = true) (hf : ∀ j, j < 3 → w.frozen? ⟨b, o + j, none⟩ = false) :
    (Builtin.clear_ #[t] ty #[.slice (some ⟨b, o, none⟩) 1 c]).run P w = .ok (.tuple #[]) (w.setCells b o [.int .i64 0, .int .i64 0, .int .i64 0]) := by
  have hzc : (Builtin.zeroCells (Value.agg #[.int .i64 0, .int .i64 0, .int .i64 0]).cells 1).toList = [.int .i64 0, .int .i64 0, .int .i64 0] := by
    simp [Builtin.zeroCells, Value.cells, List.range_succ]
  have hst := run_storeCells_cells (P := P) b o [.int .i64 0, .int .i64 0, .int .i64 0] 0 w (by simpa using hc) (by simpa using hf) (by intro v hv'; simp at hv'; subst hv'; rfl)
  simp only [Nat.add_zero] at hst
  simp [Builtin.clear_, run_underlying ht, hv, hzc, hst]

theorem step_clear_dep {P : Program} {w : World} {ops : Array Oper} {rest : List Oper} {o : Oper} {a : Act} {Q : Exit → Act → World → Prop} (hgd : o.guard = none) (x : Operand) (t : TypeId)
    (ho : o.op = .call { callee := .builtin .clear, args := #[x], argTypes := #[t] })
    (base : Nat) (ht : P.underlying t = some (.slice 91)) (hv : ∀ w, (zeroValue 91).run P w = .ok (.agg #[.int .i64 0, .int .i64 0, .int .i64 0]) w) (g n cap c : Nat) (ls : List Dp)
    (hx : a.eval x = .slice (some ⟨g, n * 3, none⟩) 1 c) (hn : n = ls.length) (hcap : n < cap) (hown : OwnDp base w (.slice (some ⟨g, 0, none⟩) n cap) ls)
    (h : ∀ w', OwnDp base w' (.slice (some ⟨g, 0, none⟩) n cap) ls → w.grownBy w' (some g) → wpList P ops Q rest (a.put o.dst (.tuple #[])) w') :
    wpList P ops Q (o :: rest) a w :=
  wpList_plain hgd fun K hK => by
    have hcur : ∃ cur : Array Value, w.heap[g]? = some (.cells cur 91 (0, 0)) ∧ cur.size = cap * 3 := by
      rcases hown.2 with ⟨e, _⟩ | ⟨g', cap', cur, e, hb, hh, hnc, hcm, hsz, hxs⟩
      · cases e
      · cases e; exact ⟨cur, hh, hsz⟩
    obtain ⟨cur, hh, hsz⟩ := hcur
    have hrun := run_clear_dep (P := P) w t o.type ht hv g (n * 3) c (fun j hj => by
      rw [Blk.cell (show Blk w g 91 cur from hh), Array.getElem?_eq_getElem (by omega)]; rfl) (fun j hj => Blk.frozen (show Blk w g 91 cur from hh) _)
    unfold Oper.wp execOp
    simp only [ho, resolve, invoke, builtin, Sem.run_bind, Sem.run_pure, Result.andThen_ok, List.map_toArray, List.map_cons, List.map_nil, hx, hrun]
    exact hK _ _ (h _ (own_tail3 hown hn (by simp; omega)) ⟨World.os_setCells _ _ _ _, setCells_tape _ _ _ _, World.output_setCells _ _ _ _, by rw [setCells_size]; exact Nat.le_refl _, fun i hi hne => World.heap_setCells_other _ _ _ _ hi (fun e => hne (by rw [e]))⟩)

end Go.Proofs.YtoknmjpnelbplaaGreat

namespace Go.Proofs.YtoknmjpnelbplaaGreat
open Go.RowKit

set_option maxRecDepth 100000 in
theorem infoDepZ (w : World) : (zeroValue 91).run Tryz.prog w = .ok (.agg #[.int .i64 0, .int .i64 0, .int .i64 0]) w := rfl

theorem clear_own {P : Program} {w : World} {t ty : TypeId} {base g n cap c : Nat} {ls : List Dp} (ht : P.underlying t = some (.slice 91)) (hv : ∀ w, (zeroValue 91).run P w = .ok (.agg #[.int .i64 0, .int .i64 0, .int .i64 0]) w)
    (hn : n = ls.length) (hcap : n < cap) (hown : OwnDp base w (.slice (some ⟨g, 0, none⟩) n cap) ls) :
    ∃ w', (Builtin.clear_ #[t] ty #[.slice (some ⟨g, n * 3, none⟩) 1 c]).run P w = .ok (.tuple #[]) w' ∧ OwnDp base w' (.slice (some ⟨g, 0, none⟩) n cap) ls ∧ w.grownBy w' (some g) := by
  have hcur : ∃ cur : Array Value, w.heap[g]? = some (.cells cur 91 (0, 0)) ∧ cur.size = cap * 3 := by
    rcases hown.2 with ⟨e, _⟩ | ⟨g', cap', cur, e, hb, hh, hnc, hcm, hsz, hxs⟩
    · cases e
    · cases e; exact ⟨cur, hh, hsz⟩
  obtain ⟨cur, hh, hsz⟩ := hcur
  exact ⟨_, run_clear_dep (P := P) w t ty ht hv g (n * 3) c (fun j hj => by
    rw [Blk.cell (show Blk w g 91 cur from hh), Array.getElem?_eq_getElem (by omega)]; rfl) (fun j hj => Blk.frozen (show Blk w g 91 cur from hh) _),
    own_tail3 hown hn (by simp; omega), World.os_setCells _ _ _ _, setCells_tape _ _ _ _, World.output_setCells _ _ _ _, by rw [setCells_size]; exact Nat.le_refl _, fun i hi hne => World.heap_setCells_other _ _ _ _ hi (fun e => hne (by rw [e]))⟩

theorem cut_own {P : Program} {w : World} {t ty : TypeId} {i : TypeInfo} {base g cap c2 : Nat} {ls : List Dp} {k : Nat} (ht : P.underlying t = some (.slice 91)) (hi : P.info? 91 = some i) (hsize : i.size = 3)
    (h : OwnDp base w (.slice (some ⟨g, 0, none⟩) ls.length cap) ls) (hk : k < ls.length) (hck : ¬ cap = k + 1) :
    ∃ w', (Builtin.append_ #[t, t] ty #[.slice (some ⟨g, 0, none⟩) k cap, .slice (some ⟨g, (k + 1) * 3, none⟩) (ls.length - (k + 1)) c2]).run P w = .ok (.slice (some ⟨g, 0, none⟩) (ls.length - 1) cap) w' ∧
      OwnDp base w' (.slice (some ⟨g, 0, none⟩) (ls.length - 1) cap) (ls.take k ++ ls.drop (k + 1)) ∧ w.grownBy w' (some g) := by
  have hr := run_append_cut3 (ty := ty) (c2 := c2) ht hi hsize h hk
  rw [if_neg hck] at hr
  exact ⟨_, hr, own_cut3 h hk, World.os_setCells _ _ _ _, setCells_tape _ _ _ _, World.output_setCells _ _ _ _, by rw [setCells_size]; exact Nat.le_refl _, fun i hi hne => World.heap_setCells_other _ _ _ _ hi (fun e => hne (by rw [e]))⟩

set_option maxHeartbeats 4000000 in
set_option maxRecDepth 100000 in
theorem iDelDep_any (base g cap : Nat) (l : List Dp) (k : Nat) (w : World) (ho : OwnDp base w (.slice (some ⟨g, 0, none⟩) l.length cap) l) (hk : k < l.length) (hbw : base ≤ w.heap.size) :
    Calls Tryz.prog 146 #[.slice (some ⟨g, 0, none⟩) l.length cap, .int .i64 k, .int .i64 ((k : Int) + 1)] w fun e w' => e = .returned (.slice (some ⟨g, 0, none⟩) (l.length - 1) cap) ∧ OwnDp base w' (.slice (some ⟨g, 0, none⟩) (l.length - 1) cap) (l.take k ++ l.drop (k + 1)) ∧ Below base w w' := by
  obtain ⟨j0, hj, jz0, jz1, jz2⟩ := info_parts infoDep
  obtain ⟨hbg, hcap, hcm⟩ : base ≤ g ∧ l.length ≤ cap ∧ cap ≤ maxLen := by
    rcases ho.2 with ⟨e, _⟩ | ⟨g', cap', cur, e, hb, hh, hnc, hcm, hsz, hxs⟩
    · cases e
    · cases e; exact ⟨hb, hnc, hcm⟩
  have HO := Lib.hid ho
  clear ho
  have hL : (l.take k ++ l.drop (k + 1)).length = l.length - 1 := by simp; omega
  unfold maxLen at hcm
  go_enter Tryz.func146, Tryz.ntmps146
  have c1 : (k : Int) ≤ ((cap : Nat) : Int) := by omega
  have c2 : (0 : Int) ≤ (k : Int) := by omega
  have c3 : (k : Int) + 1 ≤ (l.length : Int) := by omega
  have c4 : (l.length : Int) ≤ ((cap : Nat) : Int) := by omega
  have c1' : (k : Int) ≤ (k : Int) + 1 := by omega
  have c5 : (0 : Int) ≤ (k : Int) + 1 := by omega
  have c6 : ((k : Int) + 1).toNat = k + 1 := by omega
  have c7 : ¬ (l.length : Int) < (k : Int) + 1 := by omega
  have c8 : ¬ (k : Int) + 1 < 0 := by omega
  have c9 : ¬ (k : Int) + 1 < (k : Int) := by omega
  have c11 : ¬ (k : Int) = (k : Int) + 1 := by omega
  go_wp2_with fail
  by_cases hck : cap = k + 1
  · have c12 : l.length = k + 1 := by omega
    have hcut : OwnDp base w.drew (.slice (some ⟨g, 0, none⟩) k (k + 1)) (l.take k ++ l.drop (k + 1)) := by
      have h1 := own_cut3 (g := g) (cap := cap) (w := w.drew) (k := k) (show OwnDp base w.drew _ l from HO.out) hk
      have h2 : (l.drop (k + 1)).flatMap Dp.cs = [] := by rw [List.drop_of_length_le (by omega)]; rfl
      rw [h2, show l.length - 1 = k by omega, hck] at h1
      exact h1
    obtain ⟨w4, hrun, hown, hgr⟩ := clear_own (ty := 0) (c := 1) Tryz.underlying42 infoDepZ (by rw [hL]; omega) (show k < k + 1 by omega) hcut
    clear hcut HO
    have hbw4 : Below base w w4 := (Below.drew ((Below.refl _ _).mono hbw)).grown hgr (by simpa using hbw) (fun b e => by cases e; omega)
    have hE : l.length - 1 = k := by omega
    have HH := Lib.hid (show OwnDp base w4 (.slice (some ⟨g, 0, none⟩) (l.length - 1) cap) (l.take k ++ l.drop (k + 1)) ∧ Below base w w4 from ⟨by rw [hE, hck]; exact hown, hbw4⟩)
    clear hown hbw4 hgr
    go_still_tail 6, (by kernel_rfl)
    go_wp2
    go_ret
    exact ⟨by rw [hE, hck]; rfl, HH.out⟩
  · have hm : l.length - (l.length - 1) = 1 := by omega
    have d1 : ((l.length - 1 : Nat) : Int) ≤ (l.length : Int) := by omega
    have d2 : (0 : Int) ≤ ((l.length - 1 : Nat) : Int) := by omega
    have d3 : ¬ cap = l.length - 1 := by omega
    go_still_tail 6, (by kernel_rfl)
    go_wp2_with (at_builtin; refine step_append_cut3 (c2 := cap - (k + 1)) rfl _ _ _ rfl base j0 Tryz.underlying42 hj jz1 g cap l k rfl (by rw [if_neg hck]; rfl) (show OwnDp base w.drew (.slice (some ⟨g, 0, none⟩) l.length cap) l from HO.out) hk ?_)
    intro w3 hcut hgr
    have hbw3 : Below base w w3 := (Below.drew ((Below.refl _ _).mono hbw)).grown hgr (by simpa using hbw) (fun b e => by cases e; omega)
    obtain ⟨w4, hrun4, hown, hgr4⟩ := clear_own (ty := 0) (c := cap - (l.length - 1)) Tryz.underlying42 infoDepZ (by rw [hL]) (show l.length - 1 < cap by omega) hcut
    have hbw4 : Below base w w4 := hbw3.grown hgr4 (Nat.le_trans hbw hbw3.size) (fun b e => by cases e; omega)
    have HH := Lib.hid (And.intro hown hbw4)
    clear hcut hgr hbw3 HO hown hbw4 hgr4
    go_wp2
    go_ret
    exact ⟨rfl, HH.out⟩

set_option maxRecDepth 100000 in
theorem iDepAt_zero (A : Option Addr) (c : Nat) (x : Int) (w : World) :
    Calls Tryz.prog 128 #[.slice A 0 c, .int .i64 x] w fun e w' => e = .returned (.int .i64 (-1)) ∧ Below w.heap.size w w' := by
  go_enter Tryz.func128, Tryz.ntmps128
  go_wp2_with fail
  go_at_call 185
  refine Calls.mono (R := fun e w' => e = .returned (.int .i64 (-1)) ∧ Below w.heap.size w w') ?_ ?_
  · go_enter Tryz.func185, Tryz.ntmps185
    go_wp2
    go_loopw [8] (fun y wr => y = .int .i64 0 ∧ Below w.heap.size w wr) (fun y _ => 0)
    case atStart => exact ⟨rfl, by exact bel_⟩
    case round =>
      obtain ⟨rfl, hbl⟩ := hrel
      go_wp2
      go_ret
      exact ⟨rfl, hbl⟩
  rintro e w2 ⟨rfl, hb2⟩
  go_wp2
  go_ret
  exact ⟨rfl, hb2⟩

theorem iDepAtV_any (v : Value) (l : List Dp) (x : Int) (w : World) (h : RDp w v l) :
    Calls Tryz.prog 128 #[v, .int .i64 x] w fun e w' => e = .returned (.int .i64 (plF l x l.length 0)) ∧ Below w.heap.size w w' := by
  obtain ⟨A, c, rfl, hc, hm, hat⟩ := h.at_
  by_cases h0 : 0 < l.length
  · obtain ⟨b, off, rfl, hd⟩ := hat h0
    exact iDepAt_at b off _ c l x _ w hd hm rfl
  · have hz : l.length = 0 := by omega
    rw [hz]
    exact iDepAt_zero A c x w

/-- A deposit taken back. -/
def tkI (l : List Dp) (x : Int) : Int := plF l x l.length 0
def tkB (l : List Dp) (x : Int) : Bool := !(decide (tkI l x < 0)) && depsB l
def tkL (l : List Dp) (x : Int) : List Dp := if tkB l x then l.take (tkI l x).toNat ++ l.drop ((tkI l x).toNat + 1) else l
/-- A list and whether it was done. -/
def RetDpB (l : List Dp) (b : Bool) (w : World) (e : Ending) (w' : World) : Prop := ∃ v, e = .returned (.tuple #[v, .bool b]) ∧ OwnDp w.heap.size w' v l ∧ Below w.heap.size w w'

set_option maxHeartbeats 4000000 in
set_option maxRecDepth 100000 in
theorem iTake_any (v : Value) (l : List Dp) (x : Int) (w : World) (h : RDp w v l) (hle : l.length ≤ 1048576) :
    Calls Tryz.prog 99 #[v, .int .i64 x] w (RetDpB (tkL l x) (tkB l x) w) := by
  have HR := Lib.hid h
  have HT : Hid (plF l x l.length 0 = tkI l x) := Lib.hid rfl
  have HB : Hid (tkB l x = (!(decide (tkI l x < 0)) && depsB l)) := Lib.hid rfl
  have HL : Hid (tkL l x = if tkB l x then l.take (tkI l x).toNat ++ l.drop ((tkI l x).toNat + 1) else l) := Lib.hid rfl
  have hk1 : tkI l x < l.length := by
    rcases plF_spec l x l.length 0 with ⟨i, h1, _, h3, _⟩ | ⟨h1, _⟩
    · unfold tkI; rw [h1]; omega
    · unfold tkI; rw [h1]; omega
  clear h
  go_enter Tryz.func99, Tryz.ntmps99
  go_wp2_with fail
  refine (iCopyDeps_any _ l _ HR.out hle).mono ?_
  rintro e w1 ⟨v1, rfl, ho1, hb1⟩
  have HO := Lib.hid ho1
  clear ho1
  go_wp2_with fail
  refine (iDepAtV_any _ l x _ (HR.out.below hb1)).mono ?_
  rintro e w2 ⟨rfl, hb2⟩
  rw [HT.out]
  have HR2 := Lib.hid ((HR.out.below hb1).below hb2)
  have HO2 := Lib.hid (HO.out.kept hb2)
  have hbw2 := hb1.trans (hb2.mono hb1.size)
  clear hb1 hb2 HR HO HT
  generalize tkI l x = K at *
  by_cases hK : K < 0
  · go_wp2
    exact bodyPost_ret (v := .tuple #[v1, .bool false]) (by simp [results, Tryz.results99, go_sem]) rfl ⟨v1, by rw [HB.out]; simp [hK], by rw [HL.out, HB.out]; simpa [hK] using HO2.out, hbw2⟩
  · go_wp2_with fail
    refine (iDeps_any _ l _ HR2.out).mono ?_
    rintro e w3 ⟨rfl, hb3⟩
    have HO3 := Lib.hid (HO2.out.kept hb3)
    have hbw3 := hbw2.trans (hb3.mono hbw2.size)
    clear hb3 hbw2 HO2 HR2
    cases hd : depsB l
    · go_wp2
      exact bodyPost_ret (v := .tuple #[v1, .bool false]) (by simp [results, Tryz.results99, go_sem]) rfl ⟨v1, by rw [HB.out]; simp [hd], by rw [HL.out, HB.out]; simpa [hd] using HO3.out, hbw3⟩
    · obtain ⟨g, cap, rfl⟩ : ∃ g cap, v1 = .slice (some ⟨g, 0, none⟩) l.length cap := by
        rcases HO3.out.2 with ⟨e, h0⟩ | ⟨g', cap', cur, e, _⟩
        · have h0' : l.length = 0 := h0
          omega
        · exact ⟨_, _, e⟩
      obtain ⟨k, rfl⟩ : ∃ k : Nat, K = k := ⟨K.toNat, by omega⟩
      have hw1 : IntKind.i64.wrap ((k : Int) + 1) = (k : Int) + 1 := IntWalk.i64_in _ (by omega)
      go_wp2_with fail
      refine (iDelDep_any w.heap.size g cap l k _ HO3.out (by omega) hbw3.size).mono ?_
      rintro e w4 ⟨rfl, ho4, hb4⟩
      have HO4 := Lib.hid ho4
      clear ho4
      have hbw4 := hbw3.trans hb4
      go_wp2
      exact bodyPost_ret (v := .tuple #[.slice (some ⟨g, 0, none⟩) (l.length - 1) cap, .bool true]) (by simp [results, Tryz.results99, go_sem]) rfl ⟨.slice (some ⟨g, 0, none⟩) (l.length - 1) cap, by rw [HB.out]; simp [hd], by
        have hL : (l.take k ++ l.drop (k + 1)).length = l.length - 1 := by simp; omega
        have := HO4.out
        rw [HL.out, HB.out]
        simpa [hd] using this, hbw4⟩

end Go.Proofs.YtoknmjpnelbplaaGreat

namespace Go.Proofs.YtoknmjpnelbplaaGreat
open Go.RowKit

/-- What stays of the first k deposits. -/
def keepP (l : List Dp) (x : Int) : Nat → List Dp
  | 0 => []
  | k + 1 => if (dpI l k).k = x then keepP l x k else keepP l x k ++ [dpI l k]
theorem keepP_len (l : List Dp) (x : Int) : ∀ k, (keepP l x k).length ≤ k
  | 0 => Nat.le_refl _
  | k + 1 => by
    have := keepP_len l x k
    unfold keepP
    split
    · omega
    · simp; omega
theorem keepP_none {l : List Dp} {x : Int} : ∀ k, k ≤ l.length → (∀ j, j < k → ¬ (dpI l j).k = x) → keepP l x k = l.take k
  | 0, _, _ => by simp [keepP]
  | k + 1, hk, h => by
    have hd : dpI l k = l[k] := by simp [dpI, List.getD, show k < l.length by omega]
    unfold keepP
    rw [if_neg (h k (by omega)), keepP_none k (by omega) (fun j hj => h j (by omega)), hd, List.take_succ_eq_append_getElem (show k < l.length by omega)]
theorem keepP_one {l : List Dp} {x : Int} {i : Nat} (hi : (dpI l i).k = x) : ∀ k, i < k → k ≤ l.length → (∀ j, j < k → j ≠ i → ¬ (dpI l j).k = x) → keepP l x k = l.take i ++ (l.drop (i + 1)).take (k - (i + 1))
  | 0, h, _, _ => absurd h (by omega)
  | k + 1, hik, hk, h => by
    have hd : dpI l k = l[k] := by simp [dpI, List.getD, show k < l.length by omega]
    unfold keepP
    by_cases he : k = i
    · subst he
      rw [if_pos hi, keepP_none k (by omega) (fun j hj => h j (by omega) (by omega)), Nat.sub_self]
      simp
    · rw [if_neg (h k (by omega) he), keepP_one hi k (by omega) (by omega) (fun j hj hji => h j (by omega) hji), List.append_assoc, hd]
      congr 1
      have hl : k - (i + 1) < (l.drop (i + 1)).length := by simp; omega
      have e1 : (l.drop (i + 1))[k - (i + 1)] = l[k] := by
        rw [List.getElem_drop]
        congr 1
        omega
      rw [show k + 1 - (i + 1) = k - (i + 1) + 1 by omega, List.take_succ_eq_append_getElem hl, e1]

/-- One deposit put behind a list. -/
theorem wpList_append_d {w : World} {ops : Array Oper} {rest : List Oper} {o : Oper} {a : Act} {Q : Exit → Act → World → Prop} (hgd : o.guard = none) (s x : Operand)
    (ho : o.op = .call { callee := .builtin .append, args := #[s, x], argTypes := #[42, 42] })
    (base : Nat) (v : Value) (ds : List Dp) (d : Dp) (hs : a.eval s = v) (g : Nat) (hx : a.eval x = .slice (some ⟨g, 0, none⟩) 1 1) (hg : w.cell? ⟨g, 0, none⟩ = some (.int .i64 d.k) ∧ w.cell? ⟨g, 1, none⟩ = some (.int .i64 d.a) ∧ w.cell? ⟨g, 2, none⟩ = some (.int .i64 d.b))
    (hown : OwnDp base w v ds) (hlen : ds.length ≤ 1048576) (hbase : base ≤ w.heap.size)
    (h : ∀ v' w', OwnDp base w' v' (ds ++ [d]) → w.grownBy w' v.ownBlock → (v'.ownBlock = v.ownBlock ∨ v'.ownBlock = some w.heap.size) → wpList Tryz.prog ops Q rest (a.put o.dst v') w') : wpList Tryz.prog ops Q (o :: rest) a w := by
  obtain ⟨i, hi, hz, hsize, hby⟩ := info_parts infoDep
  exact wpList_append_own_at w hgd s x 42 ho base 91 i (.agg #[.int .i64 0, .int .i64 0, .int .i64 0]) 3 24 Tryz.underlying42 hi hz hsize hby rfl (by decide) v ds.length _ hs hown ⟨g, 0, none⟩ 1 1 d.cs hx rfl
    (fun j y hj => by
      match j, hj with
      | 0, hj => cases hj; exact hg.1
      | 1, hj => cases hj; exact hg.2.1
      | 2, hj => cases hj; exact hg.2.2
      | j + 3, hj => simp [Dp.cs] at hj)
    (by intro y hy; simp [Dp.cs] at hy; rcases hy with rfl | rfl | rfl <;> rfl) (by unfold maxLen; omega) (by omega) hbase fun v' w' e1 e2 _ e3 => h v' w' (by
      have e4 : (ds ++ [d]).flatMap Dp.cs = ds.flatMap Dp.cs ++ d.cs := by simp
      unfold OwnDp
      rw [e4, show (ds ++ [d]).length = ds.length + 1 by simp]
      exact e1) e2 e3

/-- What the reference gives back: whether the list became shorter, and the list. -/
noncomputable def sTkB (l : List Dp) (x : Int) : Bool := depsB l && !(decide ((keepP l x l.length).length = l.length))
noncomputable def sTkL (l : List Dp) (x : Int) : List Dp := if sTkB l x then keepP l x l.length else l

theorem keepP_yes {l : List Dp} {x : Int} {k : Nat} (h : (dpI l k).k = x) : keepP l x (k + 1) = keepP l x k := by simp only [keepP]; rw [if_pos h]
theorem keepP_no {l : List Dp} {x : Int} {k : Nat} (h : ¬ (dpI l k).k = x) : keepP l x (k + 1) = keepP l x k ++ [dpI l k] := by simp only [keepP]; rw [if_neg h]

set_option maxHeartbeats 8000000 in
set_option maxRecDepth 100000 in
theorem sTake_loop (v : Value) (l : List Dp) (x : Int) (w : World) (h : RDp w v l) (hle : l.length ≤ 1048576) :
    Calls Tryz.prog 98 #[v, .int .i64 x] w (RetDpB (sTkL l x) (sTkB l x) w) := by
  obtain ⟨A, c, rfl, hc, hm, hat⟩ := h.at_
  unfold maxLen at hm
  obtain ⟨i0, hi, iz0, iz1, iz2⟩ := info_parts infoDep
  have HR := Lib.hid h
  have HAT := Lib.hid hat
  have HY := Lib.hid (fun k h => keepP_yes (l := l) (x := x) (k := k) h)
  have HNo := Lib.hid (fun k h => keepP_no (l := l) (x := x) (k := k) h)
  have HKL := Lib.hid (keepP_len l x)
  have HB : Hid (sTkB l x = (depsB l && !(decide ((keepP l x l.length).length = l.length)))) := Lib.hid rfl
  have HL : Hid (sTkL l x = if sTkB l x then keepP l x l.length else l) := Lib.hid rfl
  have HK0 : Hid (keepP l x 0 = []) := Lib.hid rfl
  clear h hat
  go_enter Tryz.func98, Tryz.ntmps98
  go_wp2
  go_loopw [6, 7] (fun u y wr => ∃ k : Nat, k ≤ l.length ∧ y = .int .i64 k ∧ OwnDp w.heap.size wr u (keepP l x k) ∧ Below w.heap.size w wr) (fun _ y _ => l.length - (intOf y).toNat)
  case atStart => exact ⟨0, Nat.zero_le _, rfl, by rw [HK0.out]; exact owns_made0 (Nat.le_refl _) rfl, by exact bel_⟩
  case round =>
    obtain ⟨k, hk, rfl, ho, hbl⟩ := hrel
    by_cases hlt : k < l.length
    · have hlt1 : (k : Int) < (l.length : Int) := by omega
      have ik1 : (0 : Int) ≤ (k : Int) := by omega
      obtain ⟨b, off, rfl, hd0⟩ := HAT.out (by omega)
      have hd := hd0.below hbl
      obtain ⟨q0, q1, q2⟩ := hd.2 k hlt
      have hbl2 := hd.1
      have HY1 := Lib.hid (fun h => HY.out k h)
      have HN1 := Lib.hid (fun h => HNo.out k h)
      have hkl := HKL.out k
      clear hd hd0
      generalize dpI l k = D at *
      by_cases he : D.k = x
      · have HE := Lib.hid (HY1.out he)
        have e1 : (D.k == x) = true := beq_iff_eq.2 he
        go_wp2
        go_roundw
        case rel => exact ⟨k + 1, by omega, by go_num, by rw [HE.out]; exact ho, hbl⟩
        case measure => simp [intOf]; omega
      · have HE := Lib.hid (HN1.out he)
        have e1 : (D.k == x) = false := beq_eq_false_iff_ne.2 he
        generalize keepP l x k = G at *
        go_wp2_with (at_builtin; refine wpList_append_d rfl _ _ rfl w.heap.size _ G D rfl wr.heap.size rfl ⟨(Blk.newAt (cs := #[.int .i64 D.k, .int .i64 D.a, .int .i64 D.b]) rfl).cell 0, (Blk.newAt (cs := #[.int .i64 D.k, .int .i64 D.a, .int .i64 D.b]) rfl).cell 1, (Blk.newAt (cs := #[.int .i64 D.k, .int .i64 D.a, .int .i64 D.b]) rfl).cell 2⟩ (World.ownsRow.alloc ho _) (by omega) (by have := hbl.size; simp; omega) ?_)
        intro v2 w2 ho2 hg2 hw2
        have hbl3 : Below w.heap.size w w2 := (hbl.alloc hbl.size _).grown hg2 (by have := hbl.size; simp; omega) (fun q hq => by have := (World.ownsRow.lt ho q hq).1; omega)
        clear hg2 hw2 ho hbl q0 q1 q2
        go_wp2
        go_roundw
        case rel => exact ⟨k + 1, by omega, by go_num, by rw [HE.out]; exact ho2, hbl3⟩
        case measure => simp [intOf]; omega
    · have hkk : k = l.length := by omega
      subst hkk
      obtain ⟨Ao, co, rfl⟩ := OwnDp.form ho
      have HO := Lib.hid ho
      have hkl := HKL.out l.length
      clear ho
      go_wp2_with fail
      refine (sDeps_any _ l _ (HR.out.below hbl)).mono ?_
      rintro e w3 ⟨rfl, hb3⟩
      have HO3 := Lib.hid (HO.out.kept hb3)
      have hbw3 := hbl.trans (hb3.mono hbl.size)
      clear hb3 HO hbl
      generalize keepP l x l.length = G at *
      cases hd : depsB l
      · have hne : True := trivial
        go_wp2_with (at_builtin; refine wpList_append_rs rfl _ _ _ rfl w.heap.size 91 i0 (.agg #[.int .i64 0, .int .i64 0, .int .i64 0]) 3 24 Tryz.underlying42 hi iz0 iz1 iz2 rfl (by decide) (.slice (some ⟨w3.heap.size, 0, none⟩) 0 0) _ 0 l.length [] (l.flatMap Dp.cs) rfl rfl (owns_made0 hbw3.size rfl) (RDp.below (HR.out.below hbw3) ((Below.refl _ _).alloc (Nat.le_refl _) _)) (one_deps l) (by omega) (by decide) (by have := hbw3.size; simp; omega) ?_)
        intro A2 c2 w4 ho4 hg4 _
        have hbw4 : Below w.heap.size w w4 := (hbw3.alloc hbw3.size _).grown hg4 (by have := hbw3.size; simp; omega) (fun q hq => by cases hq; exact hbw3.size)
        have HO4 := Lib.hid (show OwnDp w.heap.size w4 (.slice A2 l.length c2) l by simpa [OwnDp] using ho4)
        clear ho4 hg4
        go_wp2
        exact bodyPost_ret (v := .tuple #[.slice A2 l.length c2, .bool false]) (by simp [results, Tryz.results98, go_sem]) rfl ⟨.slice A2 l.length c2, by rw [HB.out]; simp [hd, hne], by rw [HL.out, HB.out]; simpa [hd, hne] using HO4.out, hbw4⟩
      · by_cases hlen : G.length = l.length
        · have hne : G.length = l.length := hlen
          have e1 : ((G.length : Int) == (l.length : Int)) = true := by rw [hlen]; simp
          go_wp2_with (at_builtin; refine wpList_append_rs rfl _ _ _ rfl w.heap.size 91 i0 (.agg #[.int .i64 0, .int .i64 0, .int .i64 0]) 3 24 Tryz.underlying42 hi iz0 iz1 iz2 rfl (by decide) (.slice (some ⟨w3.heap.size, 0, none⟩) 0 0) _ 0 l.length [] (l.flatMap Dp.cs) rfl rfl (owns_made0 hbw3.size rfl) (RDp.below (HR.out.below hbw3) ((Below.refl _ _).alloc (Nat.le_refl _) _)) (one_deps l) (by omega) (by decide) (by have := hbw3.size; simp; omega) ?_)
          intro A2 c2 w4 ho4 hg4 _
          have hbw4 : Below w.heap.size w w4 := (hbw3.alloc hbw3.size _).grown hg4 (by have := hbw3.size; simp; omega) (fun q hq => by cases hq; exact hbw3.size)
          have HO4 := Lib.hid (show OwnDp w.heap.size w4 (.slice A2 l.length c2) l by simpa [OwnDp] using ho4)
          clear ho4 hg4
          go_wp2
          exact bodyPost_ret (v := .tuple #[.slice A2 l.length c2, .bool false]) (by simp [results, Tryz.results98, go_sem]) rfl ⟨.slice A2 l.length c2, by rw [HB.out]; simp [hd, hne], by rw [HL.out, HB.out]; simpa [hd, hne] using HO4.out, hbw4⟩
        · have hne := hlen
          have e1 : ((G.length : Int) == (l.length : Int)) = false := by rw [beq_eq_false_iff_ne]; omega
          go_wp2
          exact bodyPost_ret (v := .tuple #[.slice Ao G.length co, .bool true]) (by simp [results, Tryz.results98, go_sem]) rfl ⟨.slice Ao G.length co, by rw [HB.out]; simp [hd, hne], by rw [HL.out, HB.out]; simpa [hd, hne] using HO3.out, hbw3⟩

theorem deps_apart {l : List Dp} (h : depsB l = true) {i j : Nat} (hj : j < l.length) (hi : i < l.length) (hne : j ≠ i) : ¬ (dpI l j).k = (dpI l i).k := by
  have h1 := (depsB_true.1 h).2
  have key : ∀ a b, a < b → b < l.length → ¬ (dpI l a).k = (dpI l b).k := by
    intro a b hab hb hc
    have h2 := h1 b hb
    unfold depB at h2
    simp only [Bool.and_eq_true] at h2
    have h3 := noPlace_bad (l := l) (x := (dpI l b).k) hab hc
    simp_all
  rcases Nat.lt_or_gt_of_ne hne with g | g
  · exact key j i g hi
  · exact fun hc => key i j g hj hc.symm

/-- Both sides take back the same. -/
theorem take_same (l : List Dp) (x : Int) : sTkB l x = tkB l x ∧ sTkL l x = tkL l x := by
  unfold sTkL tkL sTkB tkB tkI
  cases hd : depsB l
  · simp
  · rcases plF_spec l x l.length 0 with ⟨i, h1, _, h3, h4, h5⟩ | ⟨h1, h2⟩
    · have hk : keepP l x l.length = l.take i ++ l.drop (i + 1) := by
        rw [keepP_one h4 l.length (by omega) (Nat.le_refl _) (fun j hj hji => by rw [← h4]; exact deps_apart hd hj (by omega) hji)]
        rw [List.take_of_length_le (show (l.drop (i + 1)).length ≤ l.length - (i + 1) by simp)]
      have hl : ¬ (l.take i ++ l.drop (i + 1)).length = l.length := by simp; omega
      rw [h1, hk]
      have hn : ¬ ((i : Int) < 0) := by omega
      simp only [hl, hn, decide_false, Bool.not_false, Bool.and_self, if_true, Int.toNat_natCast, and_self]
    · have hk : keepP l x l.length = l := by
        rw [keepP_none l.length (Nat.le_refl _) (fun j hj => h2 j (by omega) (by omega)), List.take_length]
      rw [h1, hk]
      simp

theorem sTake_any (v : Value) (l : List Dp) (x : Int) (w : World) (h : RDp w v l) (hle : l.length ≤ 1048576) :
    Calls Tryz.prog 98 #[v, .int .i64 x] w (RetDpB (tkL l x) (tkB l x) w) := by
  obtain ⟨h1, h2⟩ := take_same l x
  rw [← h1, ← h2]
  exact sTake_loop v l x w h hle

end Go.Proofs.YtoknmjpnelbplaaGreat

namespace Go.Proofs.YtoknmjpnelbplaaGreat
open Go.RowKit

noncomputable def fetchB (S : St) (x : Int) : Bool := okStB S && tkB S.ds x
noncomputable def fetchS (S : St) (x : Int) : St := if fetchB S x = true then ⟨S.D, S.cs, tkL S.ds x, S.fund⟩ else S

theorem tkL_no {l : List Dp} {x : Int} (h : tkB l x = false) : tkL l x = l := by unfold tkL; rw [h]; rfl
theorem fetch_no {S : St} {x : Int} (h : okStB S = false ∨ tkB S.ds x = false) : fetchS S x = S ∧ fetchB S x = false := by
  have hb : fetchB S x = false := by
    unfold fetchB
    rcases h with h | h <;> simp [h]
  exact ⟨by unfold fetchS; rw [hb]; rfl, hb⟩
theorem fetch_any {S : St} {x : Int} (h1 : okStB S = true) : fetchS S x = ⟨S.D, S.cs, tkL S.ds x, S.fund⟩ ∧ fetchB S x = tkB S.ds x := by
  have hb : fetchB S x = tkB S.ds x := by unfold fetchB; rw [h1]; rfl
  refine ⟨?_, hb⟩
  unfold fetchS
  rw [hb]
  cases h : tkB S.ds x
  · rw [tkL_no h]; rfl
  · rfl

theorem tkL_le (l : List Dp) (x : Int) : (tkL l x).length ≤ l.length := by
  unfold tkL
  split
  · simp; omega
  · exact Nat.le_refl _
theorem fetchPane_cnt (S : St) (x : Int) (h : StLe S) : cntSt (fetchS S x) ≤ 30000000 := by
  have hc := h.cnt
  unfold fetchS
  split
  · have := tkL_le S.ds x
    unfold cntSt at hc ⊢
    show cntD S.D + S.cs.length + 3 * (tkL S.ds x).length ≤ _
    omega
  · exact hc

section
variable {w wr wr' : World} {v0 v1 v2 v3 v4 v5 v6 a b c d e f g : Value} {m : Int} {Z : Nat} {S : St} {fs : List SF}
/-- The copy gets another list of deposits. -/
theorem OutSS.newDs (h : OutSS w v0 v1 v2 v3 v4 v5 v6 m Z a b c d e f g S fs wr) (hb : Below wr.heap.size wr wr') {v : Value} {l : List Dp} (ho : OwnDp wr.heap.size wr' v l) :
    OutSS w v0 v1 v2 v3 v4 v5 v6 m Z a b c d e f v ⟨S.D, S.cs, l, S.fund⟩ fs (wr'.setCell ⟨Z, 6, none⟩ v) := by
  have h1 := h.below hb
  have hlo : ∀ k, v.ownBlock = some k → wr.heap.size ≤ k := fun k hk => (World.ownsRow.lt ho k hk).1
  have hup : ∀ k, blksSt a b c d e f g fs k → k < wr.heap.size := fun k hk => (h.own.lt k hk).2
  have hZl := h.Z_.lt
  have hfar : ¬ blksSt a b c d e f v fs Z := by
    rintro (hk | hk | hk)
    · exact h.far (.inl hk)
    · exact h.far (.inr (.inl hk))
    · have := hlo _ hk; omega
  have hO : OwnSt (w.heap.size + 1 + 1) wr' a b c d e f v ⟨S.D, S.cs, l, S.fund⟩ fs :=
    ⟨h1.own.dr, h1.own.cs, World.ownsRow.mono ho (by have := h.lt; omega), h1.own.d_c, fun k hk hk2 => by have := hlo k hk2; have := hup k (.inl hk); omega, fun k hk hk2 => by have := hlo k hk2; have := hup k (.inr (.inl hk)); omega⟩
  have hlt := h.lt
  exact ⟨hO.setFar (p := ⟨Z, 6, none⟩) hfar v, h1.X.far (p := ⟨Z, 6, none⟩) (show w.heap.size ≠ Z by omega) v, h1.R.far (p := ⟨Z, 6, none⟩) (show w.heap.size + 1 ≠ Z by omega) v, h1.Z_.set_ 6 v, h1.lt, hfar, h1.blw.setCell (p := ⟨Z, 6, none⟩) (show w.heap.size ≤ Z by omega) v⟩
end

set_option maxHeartbeats 16000000 in
set_option maxRecDepth 100000 in
theorem iFetchPane_at (v0 v1 v2 v3 v4 v5 v6 : Value) (S : St) (x : Int) (w : World) (h : RSt w v0 v1 v2 v3 v4 v5 v6 S) (hle : StLe S) :
    Calls Tryz.prog 37 #[.agg #[v0, v1, v2, v3, v4, v5, v6, .int .i64 S.fund], .int .i64 x] w (RetStuB (fetchS S x) (fetchB S x) w) := by
  obtain ⟨r, hr⟩ : ∃ r, okStB S = r := ⟨_, rfl⟩
  have HR := Lib.hid hr
  have HLE := Lib.hid hle
  obtain ⟨B6, d6, ev6, hc6, hm6, hat⟩ := h.ds.at_
  subst ev6
  unfold maxLen at hm6
  have HAT := Lib.hid hat
  clear hat
  obtain ⟨E, hE⟩ : ∃ E, fetchS S x = E := ⟨_, rfl⟩
  obtain ⟨bb, hbb⟩ : ∃ bb, fetchB S x = bb := ⟨_, rfl⟩
  rw [hE, hbb]
  have HE := Lib.hid hE
  have HBB := Lib.hid hbb
  have HH := Lib.hid h
  clear hle hE hbb h
  go_enter Tryz.func37, Tryz.ntmps37
  go_wp2_with fail
  refine (iCopySt_any _ _ _ _ _ _ _ S _ (HH.out.below (by exact bel_)) HLE.out).mono ?_
  rintro e w1 ⟨A0, a0, A1, a1, A2, a2, A3, a3, A4, a4, A5, a5, A6, a6, fs, rfl, ho1, hb1⟩
  have hz1 := hb1.size
  simp at hz1
  have hX1 : Blk w1 w.heap.size 44 #[v0, v1, v2, v3, v4, v5, .slice B6 S.ds.length d6, .int .i64 S.fund] := Blk.below ((Blk.newAt rfl).alloc _) hb1 sz_
  have hR1 : Blk w1 (w.heap.size + 1) 44 #[.slice none 0 0, .slice none 0 0, .slice none 0 0, .slice none 0 0, .slice none 0 0, .slice none 0 0, .slice none 0 0, .int .i64 0] := Blk.below (Blk.newAt (by simp)) hb1 sz_
  have hbw1 : Below w.heap.size w w1 := by exact bel_
  have hO1 : OwnSt (w.heap.size + 1 + 1) w1 (.slice A0 S.D.fn.length a0) (.slice A1 S.D.fl.length a1) (.slice A2 S.D.nn.length a2) (.slice A3 S.D.nl.length a3) (.slice A4 S.D.ss.length a4) (.slice A5 S.cs.length a5) (.slice A6 S.ds.length a6) S fs := by simpa using ho1
  have HS2 := Lib.hid (OutSS.start hO1 (Nat.le_refl _) hX1 hR1 hbw1)
  obtain ⟨x_0, x_1, x_2, x_3, x_4, x_5, x_6, x_7⟩ := hX1.c8
  have hX1l := hX1.lt
  clear ho1 hb1 hO1
  go_wp2_with fail
  obtain ⟨w2, hw2⟩ : ∃ w2, w2 = w1.alloc (.cells #[.slice A0 S.D.fn.length a0, .slice A1 S.D.fl.length a1, .slice A2 S.D.nn.length a2, .slice A3 S.D.nl.length a3, .slice A4 S.D.ss.length a4, .slice A5 S.cs.length a5, .slice A6 S.ds.length a6, .int .i64 S.fund] 44) := ⟨_, rfl⟩
  rw [← hw2] at HS2 ⊢
  generalize w1.heap.size = Z at *
  clear hw2 hX1 hR1 hbw1 x_0 x_1 x_2 x_3 x_4 x_5 x_6 x_7 hX1l hz1
  refine (iStudioOk_at _ _ _ _ _ _ _ S r _ (HH.out.below HS2.out.blw) HR).mono ?_
  rintro e w3 ⟨rfl, hb3⟩
  have HS3 := Lib.hid (HS2.out.below hb3)
  clear hb3 HS2
  have hX3 := HS3.out.X
  obtain ⟨x_0, x_1, x_2, x_3, x_4, x_5, x_6, x_7⟩ := hX3.c8
  have hX3l := hX3.lt
  have hZ3l := HS3.out.Z_.lt
  cases r
  · obtain ⟨u1, u2⟩ := fetch_no (S := S) (x := x) (.inl hr)
    have hu : S = E := by rw [← HE.out]; exact u1.symm
    have hv : false = bb := by rw [← HBB.out]; exact u2.symm
    subst hu
    subst hv
    have HF := HS3
    clear HS3 HE HBB u1 u2 hr hX3 hX3l hZ3l
    obtain ⟨_, _, hR, hZ, hZl, _, _⟩ := HF.out
    obtain ⟨z_0, z_1, z_2, z_3, z_4, z_5, z_6, z_7⟩ := hZ.c8
    obtain ⟨r_0, r_1, r_2, r_3, r_4, r_5, r_6, r_7, r_f0, r_f1, r_f2, r_f3, r_f4, r_f5, r_f6, r_f7⟩ := hR.b8
    have hRlt := hR.lt
    have hZlt := hZ.lt
    have HFF := Lib.hid (fun u0 u1 u2 u3 u4 u5 u6 u7 => HF.out.fin u0 u1 u2 u3 u4 u5 u6 u7)
    clear hR hZ HF
    go_wp2
    exact bodyPost_ret (v := .tuple #[.agg #[.slice A0 S.D.fn.length a0, .slice A1 S.D.fl.length a1, .slice A2 S.D.nn.length a2, .slice A3 S.D.nl.length a3, .slice A4 S.D.ss.length a4, .slice A5 S.cs.length a5, .slice A6 S.ds.length a6, .int .i64 S.fund], .bool false]) (by simp [results, Tryz.results37, go_sem, r_0, r_1, r_2, r_3, r_4, r_5, r_6, r_7, hRlt]) rfl ⟨_, _, _, _, _, _, _, _, _, _, _, _, _, _, fs, rfl, (HFF.out _ _ _ _ _ _ _ _).1, (HFF.out _ _ _ _ _ _ _ _).2⟩
  · obtain ⟨l', hl'⟩ : ∃ l, tkL S.ds x = l := ⟨_, rfl⟩
    obtain ⟨b', hb'⟩ : ∃ b, tkB S.ds x = b := ⟨_, rfl⟩
    have HL' := Lib.hid hl'
    have HB' := Lib.hid hb'
    have HDS := Lib.hid (HH.out.ds.below HS3.out.blw)
    go_wp2_with fail
    refine (iTake_any _ S.ds x _ HDS.out HLE.out.ds).mono ?_
    rw [hl', hb']
    clear hl' hb'
    rintro e w4 ⟨vt, rfl, ho4, hb4⟩
    obtain ⟨T6, t6, rfl⟩ := OwnDp.form ho4
    have HF := Lib.hid (OutSS.newDs HS3.out hb4 ho4)
    have HS4 := Lib.hid (HS3.out.below hb4)
    clear HS3 hX3 hX3l hZ3l x_0 x_1 x_2 x_3 x_4 x_5 x_6 x_7 ho4 hb4 HDS
    obtain ⟨u1, u2⟩ := fetch_any (S := S) (x := x) hr
    rw [HL'.out] at u1
    rw [HB'.out] at u2
    have hu : (⟨S.D, S.cs, l', S.fund⟩ : St) = E := by rw [← HE.out]; exact u1.symm
    have hv : b' = bb := by rw [← HBB.out]; exact u2.symm
    subst hu
    subst hv
    obtain ⟨_, _, hR, hZ, hZl, _, _⟩ := HS4.out
    obtain ⟨z_0, z_1, z_2, z_3, z_4, z_5, z_6, z_7, z_f0, z_f1, z_f2, z_f3, z_f4, z_f5, z_f6, z_f7⟩ := hZ.b8
    obtain ⟨r_0, r_1, r_2, r_3, r_4, r_5, r_6, r_7, r_f0, r_f1, r_f2, r_f3, r_f4, r_f5, r_f6, r_f7⟩ := hR.b8
    have hRlt := hR.lt
    have hZlt := hZ.lt
    have HFF := Lib.hid (fun u0 u1 u2 u3 u4 u5 u6 u7 => HF.out.fin u0 u1 u2 u3 u4 u5 u6 u7)
    clear hR hZ HF HS4 HE HBB u1 u2 hr HL' HB'
    have hne1 : ¬ Z = w.heap.size + 1 := by omega
    have hne2 : ¬ w.heap.size + 1 = Z := by omega
    go_wp2
    exact bodyPost_ret (v := .tuple #[.agg #[.slice A0 S.D.fn.length a0, .slice A1 S.D.fl.length a1, .slice A2 S.D.nn.length a2, .slice A3 S.D.nl.length a3, .slice A4 S.D.ss.length a4, .slice A5 S.cs.length a5, .slice T6 l'.length t6, .int .i64 S.fund], .bool b']) (by simp [results, Tryz.results37, go_sem, r_0, r_1, r_2, r_3, r_4, r_5, r_6, r_7, z_0, z_1, z_2, z_3, z_4, z_5, z_6, z_7, hRlt, hZlt, hne1, hne2]) rfl ⟨_, _, _, _, _, _, _, _, _, _, _, _, _, _, fs, rfl, (HFF.out _ _ _ _ _ _ _ _).1, (HFF.out _ _ _ _ _ _ _ _).2⟩

set_option maxHeartbeats 16000000 in
set_option maxRecDepth 100000 in
theorem sFetchPane_at (v0 v1 v2 v3 v4 v5 v6 : Value) (S : St) (x : Int) (w : World) (h : RSt w v0 v1 v2 v3 v4 v5 v6 S) (hle : StLe S) :
    Calls Tryz.prog 36 #[.agg #[v0, v1, v2, v3, v4, v5, v6, .int .i64 S.fund], .int .i64 x] w (RetStuB (fetchS S x) (fetchB S x) w) := by
  obtain ⟨r, hr⟩ : ∃ r, okStB S = r := ⟨_, rfl⟩
  have HR := Lib.hid hr
  have HLE := Lib.hid hle
  obtain ⟨B6, d6, ev6, hc6, hm6, hat⟩ := h.ds.at_
  subst ev6
  unfold maxLen at hm6
  have HAT := Lib.hid hat
  clear hat
  obtain ⟨E, hE⟩ : ∃ E, fetchS S x = E := ⟨_, rfl⟩
  obtain ⟨bb, hbb⟩ : ∃ bb, fetchB S x = bb := ⟨_, rfl⟩
  rw [hE, hbb]
  have HE := Lib.hid hE
  have HBB := Lib.hid hbb
  have HH := Lib.hid h
  clear hle hE hbb h
  go_enter Tryz.func36, Tryz.ntmps36
  go_wp2_with fail
  refine (sCopySt_any _ _ _ _ _ _ _ S _ (HH.out.below (by exact bel_)) HLE.out).mono ?_
  rintro e w1 ⟨A0, a0, A1, a1, A2, a2, A3, a3, A4, a4, A5, a5, A6, a6, fs, rfl, ho1, hb1⟩
  have hz1 := hb1.size
  simp at hz1
  have hX1 : Blk w1 w.heap.size 44 #[v0, v1, v2, v3, v4, v5, .slice B6 S.ds.length d6, .int .i64 S.fund] := Blk.below ((Blk.newAt rfl).alloc _) hb1 sz_
  have hR1 : Blk w1 (w.heap.size + 1) 44 #[.slice none 0 0, .slice none 0 0, .slice none 0 0, .slice none 0 0, .slice none 0 0, .slice none 0 0, .slice none 0 0, .int .i64 0] := Blk.below (Blk.newAt (by simp)) hb1 sz_
  have hbw1 : Below w.heap.size w w1 := by exact bel_
  have hO1 : OwnSt (w.heap.size + 1 + 1) w1 (.slice A0 S.D.fn.length a0) (.slice A1 S.D.fl.length a1) (.slice A2 S.D.nn.length a2) (.slice A3 S.D.nl.length a3) (.slice A4 S.D.ss.length a4) (.slice A5 S.cs.length a5) (.slice A6 S.ds.length a6) S fs := by simpa using ho1
  have HS2 := Lib.hid (OutSS.start hO1 (Nat.le_refl _) hX1 hR1 hbw1)
  obtain ⟨x_0, x_1, x_2, x_3, x_4, x_5, x_6, x_7⟩ := hX1.c8
  have hX1l := hX1.lt
  clear ho1 hb1 hO1
  go_wp2_with fail
  obtain ⟨w2, hw2⟩ : ∃ w2, w2 = w1.alloc (.cells #[.slice A0 S.D.fn.length a0, .slice A1 S.D.fl.length a1, .slice A2 S.D.nn.length a2, .slice A3 S.D.nl.length a3, .slice A4 S.D.ss.length a4, .slice A5 S.cs.length a5, .slice A6 S.ds.length a6, .int .i64 S.fund] 44) := ⟨_, rfl⟩
  rw [← hw2] at HS2 ⊢
  generalize w1.heap.size = Z at *
  clear hw2 hX1 hR1 hbw1 x_0 x_1 x_2 x_3 x_4 x_5 x_6 x_7 hX1l hz1
  refine (sStudioOk_at _ _ _ _ _ _ _ S r _ (HH.out.below HS2.out.blw) HR).mono ?_
  rintro e w3 ⟨rfl, hb3⟩
  have HS3 := Lib.hid (HS2.out.below hb3)
  clear hb3 HS2
  have hX3 := HS3.out.X
  obtain ⟨x_0, x_1, x_2, x_3, x_4, x_5, x_6, x_7⟩ := hX3.c8
  have hX3l := hX3.lt
  have hZ3l := HS3.out.Z_.lt
  cases r
  · obtain ⟨u1, u2⟩ := fetch_no (S := S) (x := x) (.inl hr)
    have hu : S = E := by rw [← HE.out]; exact u1.symm
    have hv : false = bb := by rw [← HBB.out]; exact u2.symm
    subst hu
    subst hv
    have HF := HS3
    clear HS3 HE HBB u1 u2 hr hX3 hX3l hZ3l
    obtain ⟨_, _, hR, hZ, hZl, _, _⟩ := HF.out
    obtain ⟨z_0, z_1, z_2, z_3, z_4, z_5, z_6, z_7⟩ := hZ.c8
    obtain ⟨r_0, r_1, r_2, r_3, r_4, r_5, r_6, r_7, r_f0, r_f1, r_f2, r_f3, r_f4, r_f5, r_f6, r_f7⟩ := hR.b8
    have hRlt := hR.lt
    have hZlt := hZ.lt
    have HFF := Lib.hid (fun u0 u1 u2 u3 u4 u5 u6 u7 => HF.out.fin u0 u1 u2 u3 u4 u5 u6 u7)
    clear hR hZ HF
    go_wp2
    exact bodyPost_ret (v := .tuple #[.agg #[.slice A0 S.D.fn.length a0, .slice A1 S.D.fl.length a1, .slice A2 S.D.nn.length a2, .slice A3 S.D.nl.length a3, .slice A4 S.D.ss.length a4, .slice A5 S.cs.length a5, .slice A6 S.ds.length a6, .int .i64 S.fund], .bool false]) (by simp [results, Tryz.results36, go_sem, r_0, r_1, r_2, r_3, r_4, r_5, r_6, r_7, hRlt]) rfl ⟨_, _, _, _, _, _, _, _, _, _, _, _, _, _, fs, rfl, (HFF.out _ _ _ _ _ _ _ _).1, (HFF.out _ _ _ _ _ _ _ _).2⟩
  · obtain ⟨l', hl'⟩ : ∃ l, tkL S.ds x = l := ⟨_, rfl⟩
    obtain ⟨b', hb'⟩ : ∃ b, tkB S.ds x = b := ⟨_, rfl⟩
    have HL' := Lib.hid hl'
    have HB' := Lib.hid hb'
    have HDS := Lib.hid (HH.out.ds.below HS3.out.blw)
    go_wp2_with fail
    refine (sTake_any _ S.ds x _ HDS.out HLE.out.ds).mono ?_
    rw [hl', hb']
    clear hl' hb'
    rintro e w4 ⟨vt, rfl, ho4, hb4⟩
    obtain ⟨T6, t6, rfl⟩ := OwnDp.form ho4
    have HF := Lib.hid (OutSS.newDs HS3.out hb4 ho4)
    have HS4 := Lib.hid (HS3.out.below hb4)
    clear HS3 hX3 hX3l hZ3l x_0 x_1 x_2 x_3 x_4 x_5 x_6 x_7 ho4 hb4 HDS
    cases b'
    · clear HF
      obtain ⟨u1, u2⟩ := fetch_no (S := S) (x := x) (.inr HB'.out)
      have hu : S = E := by rw [← HE.out]; exact u1.symm
      have hv : false = bb := by rw [← HBB.out]; exact u2.symm
      subst hu
      subst hv
      have HF := HS4
      clear HS4 HE HBB u1 u2 hr HB' HL'
      obtain ⟨_, _, hR, hZ, hZl, _, _⟩ := HF.out
      obtain ⟨z_0, z_1, z_2, z_3, z_4, z_5, z_6, z_7⟩ := hZ.c8
      obtain ⟨r_0, r_1, r_2, r_3, r_4, r_5, r_6, r_7, r_f0, r_f1, r_f2, r_f3, r_f4, r_f5, r_f6, r_f7⟩ := hR.b8
      have hRlt := hR.lt
      have hZlt := hZ.lt
      have HFF := Lib.hid (fun u0 u1 u2 u3 u4 u5 u6 u7 => HF.out.fin u0 u1 u2 u3 u4 u5 u6 u7)
      clear hR hZ HF
      go_wp2
      exact bodyPost_ret (v := .tuple #[.agg #[.slice A0 S.D.fn.length a0, .slice A1 S.D.fl.length a1, .slice A2 S.D.nn.length a2, .slice A3 S.D.nl.length a3, .slice A4 S.D.ss.length a4, .slice A5 S.cs.length a5, .slice A6 S.ds.length a6, .int .i64 S.fund], .bool false]) (by simp [results, Tryz.results36, go_sem, r_0, r_1, r_2, r_3, r_4, r_5, r_6, r_7, hRlt]) rfl ⟨_, _, _, _, _, _, _, _, _, _, _, _, _, _, fs, rfl, (HFF.out _ _ _ _ _ _ _ _).1, (HFF.out _ _ _ _ _ _ _ _).2⟩
    · obtain ⟨u1, u2⟩ := fetch_any (S := S) (x := x) hr
      rw [HL'.out] at u1
      rw [HB'.out] at u2
      have hu : (⟨S.D, S.cs, l', S.fund⟩ : St) = E := by rw [← HE.out]; exact u1.symm
      have hv : true = bb := by rw [← HBB.out]; exact u2.symm
      subst hu
      subst hv
      obtain ⟨_, _, hR, hZ, hZl, _, _⟩ := HS4.out
      obtain ⟨z_0, z_1, z_2, z_3, z_4, z_5, z_6, z_7, z_f0, z_f1, z_f2, z_f3, z_f4, z_f5, z_f6, z_f7⟩ := hZ.b8
      obtain ⟨r_0, r_1, r_2, r_3, r_4, r_5, r_6, r_7, r_f0, r_f1, r_f2, r_f3, r_f4, r_f5, r_f6, r_f7⟩ := hR.b8
      have hRlt := hR.lt
      have hZlt := hZ.lt
      have HFF := Lib.hid (fun u0 u1 u2 u3 u4 u5 u6 u7 => HF.out.fin u0 u1 u2 u3 u4 u5 u6 u7)
      clear hR hZ HF HS4 HE HBB u1 u2 hr HL' HB'
      have hne1 : ¬ Z = w.heap.size + 1 := by omega
      have hne2 : ¬ w.heap.size + 1 = Z := by omega
      go_wp2
      exact bodyPost_ret (v := .tuple #[.agg #[.slice A0 S.D.fn.length a0, .slice A1 S.D.fl.length a1, .slice A2 S.D.nn.length a2, .slice A3 S.D.nl.length a3, .slice A4 S.D.ss.length a4, .slice A5 S.cs.length a5, .slice T6 l'.length t6, .int .i64 S.fund], .bool true]) (by simp [results, Tryz.results36, go_sem, r_0, r_1, r_2, r_3, r_4, r_5, r_6, r_7, z_0, z_1, z_2, z_3, z_4, z_5, z_6, z_7, hRlt, hZlt, hne1, hne2]) rfl ⟨_, _, _, _, _, _, _, _, _, _, _, _, _, _, fs, rfl, (HFF.out _ _ _ _ _ _ _ _).1, (HFF.out _ _ _ _ _ _ _ _).2⟩

end Go.Proofs.YtoknmjpnelbplaaGreat

namespace Go.Proofs.YtoknmjpnelbplaaGreat
open Go.RowKit

set_option maxHeartbeats 60000000 in
set_option maxRecDepth 100000 in
theorem fetchPaneLaw_any (v0 v1 v2 v3 v4 v5 v6 : Value) (S : St) (pl : Int) (w : World) (h : RSt w v0 v1 v2 v3 v4 v5 v6 S) :
    Calls Tryz.prog 9 #[.agg #[v0, v1, v2, v3, v4, v5, v6, .int .i64 S.fund], .int .i64 pl] w fun e w' => e = .returned (.bool true) ∧ Below w.heap.size w w' := by
  obtain ⟨x, hx⟩ : ∃ x, szSt S = x := ⟨_, rfl⟩
  have HX := Lib.hid hx
  by_cases hx0 : x < 0
  · clear hx
    go_enter Tryz.func9, Tryz.ntmps9
    go_wp2_with fail
    refine (szStudio_at _ _ _ _ _ _ _ S x _ (h.below (by exact bel_)) HX).mono ?_
    rintro e w1 ⟨rfl, hb1⟩; (first | (with_reducible have hcf1 := bcell_drew hb1) | have hcf1 := bcell hb1); obtain ⟨hc1, hf1⟩ := hcf1; have hz1 := hb1.size; (try simp at hz1); (try have hp1_0 : w.heap.size < w1.heap.size := by omega); (try have hp1_1 : w.heap.size + 1 < w1.heap.size := by omega); (try have hp1_2 : w.heap.size + 1 + 1 < w1.heap.size := by omega); (try have hp1_3 : w.heap.size + 1 + 1 + 1 < w1.heap.size := by omega)
    go_wp2
    go_ret
    exact ⟨rfl, by exact bel_⟩
  · have hle : StLe S := szSt_le (by rw [hx]; exact hx0)
    have HLE := Lib.hid hle
    clear hx hle
    obtain ⟨E, hE⟩ : ∃ E, fetchS S pl = E := ⟨_, rfl⟩
    have HE := Lib.hid hE
    obtain ⟨bb, hB⟩ : ∃ bb, fetchB S pl = bb := ⟨_, rfl⟩
    have HB := Lib.hid hB
    have hcE : cntSt E ≤ 30000000 := by rw [← hE]; exact fetchPane_cnt S pl HLE.out
    have hcD : cntSt S ≤ 30000000 := HLE.out.cnt
    clear hE hB
    have m1 : ¬ (1 : Int) + (cntSt S : Int) < 0 := by omega
    have m2 : ¬ (1 : Int) + (cntSt E : Int) < 0 := by omega
    go_enter Tryz.func9, Tryz.ntmps9
    go_wp2_with fail
    refine (szStudio_at _ _ _ _ _ _ _ S x _ (h.below (by exact bel_)) HX).mono ?_
    rintro e w1 ⟨rfl, hb1⟩
    have hz1 := hb1.size
    simp at hz1
    have hbw1 : Below w.heap.size w w1 := by exact bel_
    have hV1 : Blk w1 w.heap.size 32 #[v0, v1, v2, v3, v4, v5, v6, .int .i64 S.fund] := Blk.below (Blk.newAt rfl) hb1 sz_
    have e0 : w.heap.size < w1.heap.size := hV1.lt
    clear hb1 HX hz1
    obtain ⟨vb_0, vb_1, vb_2, vb_3, vb_4, vb_5, vb_6, vb_7⟩ := hV1.c8
    have vlt := hV1.lt
    go_wp2_with fail
    refine (toStudio_any _ _ _ _ _ _ _ S _ (h.below hbw1) HLE.out).mono ?_
    rintro e w2 ⟨T0, tc0, T1, tc1, T2, tc2, T3, tc3, T4, tc4, T5, tc5, T6, tc6, tfs, rfl, hoT, hb2⟩
    have hz2 := hb2.size
    have hV2 := hV1.below hb2 hV1.lt
    have hbw2 := hbw1.trans (hb2.mono hbw1.size)
    clear hV1  hbw1 hb2 vb_0 vb_1 vb_2 vb_3 vb_4 vb_5 vb_6 vb_7 vlt
    go_wp2_with fail
    refine (sFetchPane_at _ _ _ _ _ _ _ S pl _ hoT.reads HLE.out).mono ?_
    rw [HE.out, HB.out]
    rintro e w3 ⟨W0, wc0, W1, wc1, W2, wc2, W3, wc3, W4, wc4, W5, wc5, W6, wc6, wfs, rfl, hoW3, hb3⟩
    have hltW := hoW3.lt
    have hz3 := hb3.size
    have hV3 := hV2.below hb3 hV2.lt
    have hbw3 := hbw2.trans (hb3.mono hbw2.size)
    clear hV2  hbw2 hb3 hoT
    obtain ⟨vb_0, vb_1, vb_2, vb_3, vb_4, vb_5, vb_6, vb_7⟩ := hV3.c8
    have vlt := hV3.lt
    go_wp2_with fail
    obtain ⟨u3, hu3⟩ : ∃ v, v = w3.alloc (.cells #[.slice W0 E.D.fn.length wc0, .slice W1 E.D.fl.length wc1, .slice W2 E.D.nn.length wc2, .slice W3 E.D.nl.length wc3, .slice W4 E.D.ss.length wc4, .slice W5 E.cs.length wc5, .slice W6 E.ds.length wc6, .int .i64 E.fund] 44) := ⟨_, rfl⟩
    have hux3 : Below w3.heap.size w3 u3 := hu3 ▸ (Below.refl _ _).alloc (Nat.le_refl _) _
    have hNW : Blk u3 w3.heap.size 44 #[.slice W0 E.D.fn.length wc0, .slice W1 E.D.fl.length wc1, .slice W2 E.D.nn.length wc2, .slice W3 E.D.nl.length wc3, .slice W4 E.D.ss.length wc4, .slice W5 E.cs.length wc5, .slice W6 E.ds.length wc6, .int .i64 E.fund] := hu3 ▸ Blk.newAt rfl
    have huz3 : u3.heap.size = w3.heap.size + 1 := by rw [hu3]; simp
    rw [← hu3]
    clear hu3
    refine (toStudio_any _ _ _ _ _ _ _ S _ (h.below (hbw3.trans (hux3.mono hbw3.size))) HLE.out).mono ?_
    rintro e w4 ⟨X0, xc0, X1, xc1, X2, xc2, X3, xc3, X4, xc4, X5, xc5, X6, xc6, xfs, rfl, hoX4, hb4⟩
    have hltX := hoX4.lt
    have hs4 := hb4.size
    have hby := hux3.trans (hb4.mono hux3.size)
    have hW4 := hNW.below hb4 hNW.lt
    have hz4 := hby.size
    have hV4 := hV3.below hby hV3.lt
    have hoW4 := hoW3.kept hby
    have hbw4 := hbw3.trans (hby.mono hbw3.size)
    clear hV3 hoW3 hbw3 hby hux3 hNW vb_0 vb_1 vb_2 vb_3 vb_4 vb_5 vb_6 vb_7 vlt
    clear hb4
    obtain ⟨vb_0, vb_1, vb_2, vb_3, vb_4, vb_5, vb_6, vb_7⟩ := hV4.c8
    obtain ⟨wb_0, wb_1, wb_2, wb_3, wb_4, wb_5, wb_6, wb_7⟩ := hW4.c8
    have vlt := hV4.lt
    have wlt := hW4.lt
    go_wp2_with fail
    obtain ⟨u4, hu4⟩ : ∃ v, v = w4.alloc (.cells #[.slice X0 S.D.fn.length xc0, .slice X1 S.D.fl.length xc1, .slice X2 S.D.nn.length xc2, .slice X3 S.D.nl.length xc3, .slice X4 S.D.ss.length xc4, .slice X5 S.cs.length xc5, .slice X6 S.ds.length xc6, .int .i64 S.fund] 44) := ⟨_, rfl⟩
    have hux4 : Below w4.heap.size w4 u4 := hu4 ▸ (Below.refl _ _).alloc (Nat.le_refl _) _
    have hNX : Blk u4 w4.heap.size 44 #[.slice X0 S.D.fn.length xc0, .slice X1 S.D.fl.length xc1, .slice X2 S.D.nn.length xc2, .slice X3 S.D.nl.length xc3, .slice X4 S.D.ss.length xc4, .slice X5 S.cs.length xc5, .slice X6 S.ds.length xc6, .int .i64 S.fund] := hu4 ▸ Blk.newAt rfl
    have huz4 : u4.heap.size = w4.heap.size + 1 := by rw [hu4]; simp
    rw [← hu4]
    clear hu4
    refine (iFetchPane_at _ _ _ _ _ _ _ S pl _ (hoX4.reads.below hux4) HLE.out).mono ?_
    rw [HE.out, HB.out]
    rintro e w5 ⟨G0, gc0, G1, gc1, G2, gc2, G3, gc3, G4, gc4, G5, gc5, G6, gc6, gfs, rfl, hoG5, hb5⟩
    have hltG := hoG5.lt
    have hs5 := hb5.size
    have hby := hux4.trans (hb5.mono hux4.size)
    have hX5 := hNX.below hb5 hNX.lt
    have hz5 := hby.size
    have hV5 := hV4.below hby hV4.lt
    have hW5 := hW4.below hby hW4.lt
    have hoW5 := hoW4.kept hby
    have hoX5 := hoX4.kept hby
    have hbw5 := hbw4.trans (hby.mono hbw4.size)
    clear hV4 hW4 hoW4 hoX4 hbw4 hby hux4 hNX vb_0 vb_1 vb_2 vb_3 vb_4 vb_5 vb_6 vb_7 wb_0 wb_1 wb_2 wb_3 wb_4 wb_5 wb_6 wb_7 vlt wlt
    clear hb5
    obtain ⟨vb_0, vb_1, vb_2, vb_3, vb_4, vb_5, vb_6, vb_7⟩ := hV5.c8
    obtain ⟨wb_0, wb_1, wb_2, wb_3, wb_4, wb_5, wb_6, wb_7⟩ := hW5.c8
    obtain ⟨xb_0, xb_1, xb_2, xb_3, xb_4, xb_5, xb_6, xb_7⟩ := hX5.c8
    have vlt := hV5.lt
    have wlt := hW5.lt
    have xlt := hX5.lt
    go_wp2_with fail
    obtain ⟨u5, hu5⟩ : ∃ v, v = w5.alloc (.cells #[.slice G0 E.D.fn.length gc0, .slice G1 E.D.fl.length gc1, .slice G2 E.D.nn.length gc2, .slice G3 E.D.nl.length gc3, .slice G4 E.D.ss.length gc4, .slice G5 E.cs.length gc5, .slice G6 E.ds.length gc6, .int .i64 E.fund] 44) := ⟨_, rfl⟩
    have hux5 : Below w5.heap.size w5 u5 := hu5 ▸ (Below.refl _ _).alloc (Nat.le_refl _) _
    have hNG : Blk u5 w5.heap.size 44 #[.slice G0 E.D.fn.length gc0, .slice G1 E.D.fl.length gc1, .slice G2 E.D.nn.length gc2, .slice G3 E.D.nl.length gc3, .slice G4 E.D.ss.length gc4, .slice G5 E.cs.length gc5, .slice G6 E.ds.length gc6, .int .i64 E.fund] := hu5 ▸ Blk.newAt rfl
    have huz5 : u5.heap.size = w5.heap.size + 1 := by rw [hu5]; simp
    rw [← hu5]
    clear hu5
    refine (eqStudio_any _ _ _ _ _ _ _ _ _ _ _ _ _ _ E _ (hoG5.reads.below hux5) (hoW5.reads.below hux5)).mono ?_
    rintro e w6 ⟨rfl, hb6⟩
    have hby := hux5.trans (hb6.mono hux5.size)
    have hG6 := hNG.below hb6 hNG.lt
    have hz6 := hby.size
    have hV6 := hV5.below hby hV5.lt
    have hW6 := hW5.below hby hW5.lt
    have hX6 := hX5.below hby hX5.lt
    have hoW6 := hoW5.kept hby
    have hoX6 := hoX5.kept hby
    have hoG6 := hoG5.kept hby
    have hbw6 := hbw5.trans (hby.mono hbw5.size)
    clear hV5 hW5 hX5 hoW5 hoX5 hoG5 hbw5 hby hux5 hNG vb_0 vb_1 vb_2 vb_3 vb_4 vb_5 vb_6 vb_7 wb_0 wb_1 wb_2 wb_3 wb_4 wb_5 wb_6 wb_7 xb_0 xb_1 xb_2 xb_3 xb_4 xb_5 xb_6 xb_7 vlt wlt xlt
    clear hb6
    have ad1 := hV6.lt
    have adW := hW6.lt
    have adX := hX6.lt
    have adG := hG6.lt
    have lW : ∀ k, blksSt (.slice W0 E.D.fn.length wc0) (.slice W1 E.D.fl.length wc1) (.slice W2 E.D.nn.length wc2) (.slice W3 E.D.nl.length wc3) (.slice W4 E.D.ss.length wc4) (.slice W5 E.cs.length wc5) (.slice W6 E.ds.length wc6) wfs k → w.heap.size < k ∧ k < w3.heap.size := fun k hk => by have := hltW k hk; omega
    have lX : ∀ k, blksSt (.slice X0 S.D.fn.length xc0) (.slice X1 S.D.fl.length xc1) (.slice X2 S.D.nn.length xc2) (.slice X3 S.D.nl.length xc3) (.slice X4 S.D.ss.length xc4) (.slice X5 S.cs.length xc5) (.slice X6 S.ds.length xc6) xfs k → w3.heap.size < k ∧ k < w4.heap.size := fun k hk => by have := hltX k hk; omega
    have lG : ∀ k, blksSt (.slice G0 E.D.fn.length gc0) (.slice G1 E.D.fl.length gc1) (.slice G2 E.D.nn.length gc2) (.slice G3 E.D.nl.length gc3) (.slice G4 E.D.ss.length gc4) (.slice G5 E.cs.length gc5) (.slice G6 E.ds.length gc6) gfs k → w4.heap.size < k ∧ k < w5.heap.size := fun k hk => by have := hltG k hk; omega
    have o1 : w.heap.size < w3.heap.size := by omega
    have o2 : w3.heap.size < w4.heap.size := by omega
    have o3 : w4.heap.size < w5.heap.size := by omega
    clear hltW hltX hltG huz3 huz4 huz5 hz2 hz3 hz4 hz5 e0 hs4 hs5
    generalize w3.heap.size = BW at *
    generalize w4.heap.size = BX at *
    generalize w5.heap.size = BG at *
    clear hz6 ad1 adW adX adG
    obtain ⟨vb_0, vb_1, vb_2, vb_3, vb_4, vb_5, vb_6, vb_7⟩ := hV6.c8
    obtain ⟨xb_0, xb_1, xb_2, xb_3, xb_4, xb_5, xb_6, xb_7⟩ := hX6.c8
    have vlt := hV6.lt
    have xlt := hX6.lt
    have hd6 := Lib.hid (h.below hbw6)
    have hx6 := Lib.hid hoX6.reads
    go_wp2_with fail
    go_region_held3 (fun w' => w'.cell? ⟨w.heap.size, 0, none⟩ = some (v0) ∧ w'.cell? ⟨w.heap.size, 1, none⟩ = some (v1) ∧ w'.cell? ⟨w.heap.size, 2, none⟩ = some (v2) ∧ w'.cell? ⟨w.heap.size, 3, none⟩ = some (v3) ∧ w'.cell? ⟨w.heap.size, 4, none⟩ = some (v4) ∧ w'.cell? ⟨w.heap.size, 5, none⟩ = some (v5) ∧ w'.cell? ⟨w.heap.size, 6, none⟩ = some (v6) ∧ w'.cell? ⟨w.heap.size, 7, none⟩ = some (.int .i64 S.fund) ∧ w'.cell? ⟨BX, 0, none⟩ = some (.slice X0 S.D.fn.length xc0) ∧ w'.cell? ⟨BX, 1, none⟩ = some (.slice X1 S.D.fl.length xc1) ∧ w'.cell? ⟨BX, 2, none⟩ = some (.slice X2 S.D.nn.length xc2) ∧ w'.cell? ⟨BX, 3, none⟩ = some (.slice X3 S.D.nl.length xc3) ∧ w'.cell? ⟨BX, 4, none⟩ = some (.slice X4 S.D.ss.length xc4) ∧ w'.cell? ⟨BX, 5, none⟩ = some (.slice X5 S.cs.length xc5) ∧ w'.cell? ⟨BX, 6, none⟩ = some (.slice X6 S.ds.length xc6) ∧ w'.cell? ⟨BX, 7, none⟩ = some (.int .i64 S.fund))
      (go_keep)
      (first | (go_at_call 17; refine Calls.mono (toStudio_any v0 v1 v2 v3 v4 v5 v6 S _ (hd6.out.below ?c1) HLE.out) ?_; (case c1 => exact bel_); rintro e w7 ⟨Q0, qc0, Q1, qc1, Q2, qc2, Q3, qc3, Q4, qc4, Q5, qc5, Q6, qc6, qfs, rfl, hoQ, hb7⟩; (first | (with_reducible have hcf7 := bcell_drew hb7) | have hcf7 := bcell hb7); obtain ⟨hc7, hf7⟩ := hcf7; have hz7 := hb7.size; (try simp at hz7); (try have hp7_0 : w.heap.size < w7.heap.size := by omega); (try have hp7_1 : w.heap.size + 1 < w7.heap.size := by omega); (try have hp7_2 : w.heap.size + 1 + 1 < w7.heap.size := by omega); (try have hp7_3 : w.heap.size + 1 + 1 + 1 < w7.heap.size := by omega); (have mm7 : BX < w7.heap.size := by omega)) | (go_at_call 19; refine (eqStudio_any _ _ _ _ _ _ _ _ _ _ _ _ _ _ S _ (hx6.out.below ?c2) hoQ.reads).mono ?_; (case c2 => exact bel_); rintro e w8 ⟨rfl, hb8⟩; (first | (with_reducible have hcf8 := bcell_drew hb8) | have hcf8 := bcell hb8); obtain ⟨hc8, hf8⟩ := hcf8; have hz8 := hb8.size; (try simp at hz8); (try have hp8_0 : w.heap.size < w8.heap.size := by omega); (try have hp8_1 : w.heap.size + 1 < w8.heap.size := by omega); (try have hp8_2 : w.heap.size + 1 + 1 < w8.heap.size := by omega); (try have hp8_3 : w.heap.size + 1 + 1 + 1 < w8.heap.size := by omega)))
    have hby : Below w6.heap.size w6 w8 := by exact bel_
    clear hoQ hb7 hb8 hc7 hf7 hc8 hf8
    have hz8' := hby.size
    have hV8 := hV6.below hby hV6.lt
    have hW8 := hW6.below hby hW6.lt
    have hX8 := hX6.below hby hX6.lt
    have hG8 := hG6.below hby hG6.lt
    have hoW8 := hoW6.kept hby
    have hoX8 := hoX6.kept hby
    have hoG8 := hoG6.kept hby
    have hbw8 := hbw6.trans (hby.mono hbw6.size)
    clear hV6 hW6 hX6 hG6 hoW6 hoX6 hoG6 hbw6 hby hd6 hx6 vb_0 vb_1 vb_2 vb_3 vb_4 vb_5 vb_6 vb_7 xb_0 xb_1 xb_2 xb_3 xb_4 xb_5 xb_6 xb_7 vlt xlt
    obtain ⟨xb_0, xb_1, xb_2, xb_3, xb_4, xb_5, xb_6, xb_7⟩ := hX8.c8
    have xlt := hX8.lt
    go_wp2_with fail
    refine (markStudio_any _ _ _ _ _ _ _ _ S xfs 1 _ hoX8 (by omega) (by omega)).mono ?_
    rintro e w9 ⟨rfl, _, ht9⟩
    have hV9 := hV8.turned ht9 (fun hk => by have := lX _ hk; omega)
    have hW9 := hW8.turned ht9 (fun hk => by have := lX _ hk; omega)
    have hX9 := hX8.turned ht9 (fun hk => by have := lX _ hk; omega)
    have hG9 := hG8.turned ht9 (fun hk => by have := lX _ hk; omega)
    have hoW9 := hoW8.turned ht9 (fun k hk hk' => by have := lW k hk; have := lX k hk'; omega)
    have hoG9 := hoG8.turned ht9 (fun k hk hk' => by have := lG k hk; have := lX k hk'; omega)
    have hbw9 := hbw8.trans (ht9.below (fun k hk => by have := lX k hk; omega) hbw8.size)
    clear hV8 hW8 hX8 hG8 hoW8 hoX8 hoG8 hbw8 ht9 xb_0 xb_1 xb_2 xb_3 xb_4 xb_5 xb_6 xb_7 xlt
    clear hX9
    obtain ⟨wb_0, wb_1, wb_2, wb_3, wb_4, wb_5, wb_6, wb_7⟩ := hW9.c8
    obtain ⟨gb_0, gb_1, gb_2, gb_3, gb_4, gb_5, gb_6, gb_7⟩ := hG9.c8
    have wlt := hW9.lt
    have glt := hG9.lt
    go_wp2_with fail
    refine (eqStudio_any _ _ _ _ _ _ _ _ _ _ _ _ _ _ E _ hoG9.reads hoW9.reads).mono ?_
    rintro e w10 ⟨rfl, hb10⟩
    have hz10 := hb10.size
    have hV10 := hV9.below hb10 hV9.lt
    have hW10 := hW9.below hb10 hW9.lt
    have hG10 := hG9.below hb10 hG9.lt
    have hoW10 := hoW9.kept hb10
    have hoG10 := hoG9.kept hb10
    have hbw10 := hbw9.trans (hb10.mono hbw9.size)
    clear hV9 hW9 hG9 hoW9 hoG9 hbw9 hb10 wb_0 wb_1 wb_2 wb_3 wb_4 wb_5 wb_6 wb_7 gb_0 gb_1 gb_2 gb_3 gb_4 gb_5 gb_6 gb_7 wlt glt
    obtain ⟨gb_0, gb_1, gb_2, gb_3, gb_4, gb_5, gb_6, gb_7⟩ := hG10.c8
    have glt := hG10.lt
    go_wp2_with fail
    refine (markStudio_any _ _ _ _ _ _ _ _ E gfs 1 _ hoG10 (by omega) (by omega)).mono ?_
    rintro e w11 ⟨rfl, hoM11, ht11⟩
    have hV11 := hV10.turned ht11 (fun hk => by have := lG _ hk; omega)
    have hW11 := hW10.turned ht11 (fun hk => by have := lG _ hk; omega)
    have hG11 := hG10.turned ht11 (fun hk => by have := lG _ hk; omega)
    have hoW11 := hoW10.turned ht11 (fun k hk hk' => by have := lW k hk; have := lG k hk'; omega)
    have hbw11 := hbw10.trans (ht11.below (fun k hk => by have := lG k hk; omega) hbw10.size)
    clear hV10 hW10 hG10 hoW10 hoG10 hbw10 ht11 gb_0 gb_1 gb_2 gb_3 gb_4 gb_5 gb_6 gb_7 glt
    obtain ⟨gb_0, gb_1, gb_2, gb_3, gb_4, gb_5, gb_6, gb_7⟩ := hG11.c8
    have glt := hG11.lt
    go_wp2_with fail
    refine (heldStudio_ok _ _ _ _ _ _ _ E 1 _ hoM11.reads (by omega) (by omega)).mono ?_
    rintro e w12 ⟨rfl, hb12⟩
    have hz12 := hb12.size
    have hV12 := hV11.below hb12 hV11.lt
    have hW12 := hW11.below hb12 hW11.lt
    have hG12 := hG11.below hb12 hG11.lt
    have hoW12 := hoW11.kept hb12
    have hoM12 := hoM11.kept hb12
    have hbw12 := hbw11.trans (hb12.mono hbw11.size)
    clear hV11 hW11 hG11 hoW11 hoM11 hbw11 hb12 gb_0 gb_1 gb_2 gb_3 gb_4 gb_5 gb_6 gb_7 glt
    obtain ⟨vb_0, vb_1, vb_2, vb_3, vb_4, vb_5, vb_6, vb_7⟩ := hV12.c8
    have vlt := hV12.lt
    go_wp2_with fail
    refine (toStudio_any _ _ _ _ _ _ _ S _ (h.below hbw12) HLE.out).mono ?_
    rintro e w13 ⟨T0, tc0, T1, tc1, T2, tc2, T3, tc3, T4, tc4, T5, tc5, T6, tc6, tfs, rfl, hoT, hb13⟩
    have hz13 := hb13.size
    have hV13 := hV12.below hb13 hV12.lt
    have hW13 := hW12.below hb13 hW12.lt
    have hG13 := hG12.below hb13 hG12.lt
    have hoW13 := hoW12.kept hb13
    have hoM13 := hoM12.kept hb13
    have hbw13 := hbw12.trans (hb13.mono hbw12.size)
    clear hV12 hW12 hG12 hoW12 hoM12 hbw12 hb13 vb_0 vb_1 vb_2 vb_3 vb_4 vb_5 vb_6 vb_7 vlt
    go_wp2_with fail
    refine (iFetchPane_at _ _ _ _ _ _ _ S pl _ hoT.reads HLE.out).mono ?_
    rw [HE.out, HB.out]
    rintro e w14 ⟨H0, hc0, H1, hc1, H2, hc2, H3, hc3, H4, hc4, H5, hc5, H6, hc6, hfs, rfl, hoH, hb14⟩
    have hz14 := hb14.size
    have hV14 := hV13.below hb14 hV13.lt
    have hW14 := hW13.below hb14 hW13.lt
    have hG14 := hG13.below hb14 hG13.lt
    have hoW14 := hoW13.kept hb14
    have hoM14 := hoM13.kept hb14
    have hbw14 := hbw13.trans (hb14.mono hbw13.size)
    clear hV13 hW13 hG13 hoW13 hoM13 hbw13 hb14 hoT
    obtain ⟨wb_0, wb_1, wb_2, wb_3, wb_4, wb_5, wb_6, wb_7⟩ := hW14.c8
    have wlt := hW14.lt
    go_wp2_with fail
    have hbx : Below w14.heap.size w14 (w14.alloc (.cells #[.slice H0 E.D.fn.length hc0, .slice H1 E.D.fl.length hc1, .slice H2 E.D.nn.length hc2, .slice H3 E.D.nl.length hc3, .slice H4 E.D.ss.length hc4, .slice H5 E.cs.length hc5, .slice H6 E.ds.length hc6, .int .i64 E.fund] 44)) := by exact bel_
    refine (eqStudio_any _ _ _ _ _ _ _ _ _ _ _ _ _ _ E _ (hoH.reads.below hbx) (hoW14.reads.below hbx)).mono ?_
    rintro e w15 ⟨rfl, hb15⟩
    have hby := hbx.trans (hb15.mono hbx.size)
    have hz15 := hby.size
    have hV15 := hV14.below hby hV14.lt
    have hW15 := hW14.below hby hW14.lt
    have hG15 := hG14.below hby hG14.lt
    have hoW15 := hoW14.kept hby
    have hoM15 := hoM14.kept hby
    have hbw15 := hbw14.trans (hby.mono hbw14.size)
    clear hV14 hW14 hG14 hoW14 hoM14 hbw14 hby wb_0 wb_1 wb_2 wb_3 wb_4 wb_5 wb_6 wb_7 wlt hb15 hbx hoH
    obtain ⟨gb_0, gb_1, gb_2, gb_3, gb_4, gb_5, gb_6, gb_7⟩ := hG15.c8
    have glt := hG15.lt
    go_wp2_with fail
    refine (heldStudio_ok _ _ _ _ _ _ _ E 1 _ hoM15.reads (by omega) (by omega)).mono ?_
    rintro e w16 ⟨rfl, hb16⟩
    have hbw16 := hbw15.trans (hb16.mono hbw15.size)
    clear hb16 hV15 hW15 hG15 hoW15 hoM15 hbw15 gb_0 gb_1 gb_2 gb_3 gb_4 gb_5 gb_6 gb_7 glt
    go_wp2
    go_ret
    exact ⟨rfl, hbw16⟩

end Go.Proofs.YtoknmjpnelbplaaGreat
