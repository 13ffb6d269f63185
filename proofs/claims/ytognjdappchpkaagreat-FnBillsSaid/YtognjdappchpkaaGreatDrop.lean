/-
  A lead dropped: both sides walked.
-/
import Derived.Test.YtognjdappchpkaaGreatAddS
import Derived.Deep.Upon
set_option linter.unusedSimpArgs false
set_option linter.unusedVariables false
namespace Go.Proofs.YtognjdappchpkaaGreat
open Go.RowKit

attribute [local go_sem ↓] run_eqNode run_neNode run_mn2 run_mx2

/-- k is a lead of a valid window. -/
noncomputable def hasL (ns ls : List Pr) (k : Int) : Bool := winB ns ls && inB k 0 ((ls.length : Int) - 1)
noncomputable def dropL (ns ls : List Pr) (k : Int) : List Pr := if hasL ns ls k then ls.take k.toNat ++ ls.drop (k.toNat + 1) else ls





theorem drop_flat (ls : List Pr) (k : Nat) : (ls.drop k).flatMap prc = (ls.flatMap prc).drop (k * 2) := by
  induction ls generalizing k with
  | nil => simp
  | cons p ls ih =>
    cases k with
    | zero => simp
    | succ k =>
      rw [List.drop_succ_cons, ih, List.flatMap_cons, show (k + 1) * 2 = k * 2 + 2 by omega]
      simp [prc]
theorem take_flat (ls : List Pr) (k : Nat) : (ls.take k).flatMap prc = (ls.flatMap prc).take (k * 2) := by
  induction ls generalizing k with
  | nil => simp
  | cons p ls ih =>
    cases k with
    | zero => simp
    | succ k =>
      rw [List.take_succ_cons, List.flatMap_cons, ih, List.flatMap_cons, show (k + 1) * 2 = k * 2 + 2 by omega]
      simp [prc]

/-- The cells of one block written one behind the other. -/
theorem setCells_row (g : Nat) (t : TypeId) : ∀ (vs : List Value) (o : Nat) (w : World) (cs : Array Value), w.heap[g]? = some (.cells cs t (0, 0)) → o + vs.length ≤ cs.size →
    (w.setCells g o vs).heap[g]? = some (.cells (cs.toList.take o ++ vs ++ cs.toList.drop (o + vs.length)).toArray t (0, 0)) := by
  intro vs
  induction vs with
  | nil =>
    intro o w cs h ho
    simp [World.setCells, h]
  | cons v vs ih =>
    intro o w cs h ho
    have h' : (w.setCell ⟨g, o, none⟩ v).heap[g]? = some (.cells (cs.setIfInBounds o v) t (0, 0)) := Blk.set_ (show Blk w g t cs from h) o v
    have := ih (o + 1) (w.setCell ⟨g, o, none⟩ v) (cs.setIfInBounds o v) h' (by simp at ho ⊢; omega)
    have ho' : o < cs.toList.length := by simp at ho ⊢; omega
    have e : (cs.setIfInBounds o v).toList = cs.toList.take o ++ v :: cs.toList.drop (o + 1) := by
      rw [Array.toList_setIfInBounds, List.set_eq_take_append_cons_drop, if_pos ho']
    have hl : (cs.toList.take o).length = o := by simp at ho' ⊢; omega
    show ((w.setCell ⟨g, o, none⟩ v).setCells g (o + 1) vs).heap[g]? = _
    rw [this, e]
    have e1 : List.take (o + 1) (cs.toList.take o ++ v :: cs.toList.drop (o + 1)) = cs.toList.take o ++ [v] := by
      rw [List.take_append, hl]
      have : o + 1 - o = 1 := by omega
      rw [this, List.take_of_length_le (by omega)]
      rfl
    have e2 : List.drop (o + 1 + vs.length) (cs.toList.take o ++ v :: cs.toList.drop (o + 1)) = cs.toList.drop (o + (v :: vs).length) := by
      rw [List.drop_append, hl]
      have h3 : o + 1 + vs.length - o = vs.length + 1 := by omega
      rw [h3, List.drop_succ_cons, List.drop_drop, List.drop_of_length_le (by omega)]
      simp
      congr 1
      omega
    rw [e1, e2]
    simp

/-- What is owned, a piece in its midst written over by what lies behind it. -/
theorem own_cut {t : TypeId} {base g cap : Nat} {w : World} {ls : List Pr} {k : Nat} (h : OwnP t base w (.slice (some ⟨g, 0, none⟩) ls.length cap) ls) (hk : k < ls.length) :
    OwnP t base (w.setCells g (k * 2) ((ls.drop (k + 1)).flatMap prc)) (.slice (some ⟨g, 0, none⟩) (ls.length - 1) cap) (ls.take k ++ ls.drop (k + 1)) := by
  have ho : w.ownsRow base t 2 (.slice (some ⟨g, 0, none⟩) ls.length cap) ls.length (ls.flatMap prc) := h
  have hlen : (ls.take k ++ ls.drop (k + 1)).length = ls.length - 1 := by simp; omega
  have hfl : (ls.flatMap prc).length = ls.length * 2 := flat_len prc 2 (fun _ => rfl) ls
  have hdl : ((ls.drop (k + 1)).flatMap prc).length = (ls.length - (k + 1)) * 2 := by rw [flat_len prc 2 (fun _ => rfl)]; simp
  refine ⟨flat_len prc 2 (fun _ => rfl) _, ?_⟩
  rcases ho.2 with ⟨e, _⟩ | ⟨g', cap', cur, e, hb, hh, hnc, hcm, hsz, hxs⟩
  · cases e
  · cases e
    have hcur : ls.length * 2 ≤ cur.size := by rw [hsz]; exact Nat.mul_le_mul_right 2 hnc
    have hrow := setCells_row g t ((ls.drop (k + 1)).flatMap prc) (k * 2) w cur hh (by rw [hdl]; omega)
    refine .inr ⟨g, cap, _, by rw [hlen], hb, hrow, by rw [hlen]; omega, hcm, ?_, ?_⟩
    · simp only [List.size_toArray, List.length_append, List.length_take, List.length_drop, hdl, Array.length_toList]
      omega
    · rw [hlen, List.flatMap_append, drop_flat, take_flat, ← hxs]
      have hc : cur.toList.length = cur.size := Array.length_toList
      have htl : (List.take (k * 2) cur.toList).length = k * 2 := by rw [List.length_take, hc]; omega
      have e3 : (List.drop ((k + 1) * 2) (List.take (ls.length * 2) cur.toList)).length = (ls.length - 1) * 2 - k * 2 := by rw [List.length_drop, List.length_take, hc]; omega
      show List.take ((ls.length - 1) * 2) (List.take (k * 2) cur.toList ++ _ ++ _) = _
      rw [List.append_assoc, List.take_append, htl, List.take_of_length_le (by rw [htl]; omega), List.take_left' e3, List.take_take, Nat.min_eq_left (by omega)]

theorem setCells_size (g : Nat) : ∀ (vs : List Value) (o : Nat) (w : World), (w.setCells g o vs).heap.size = w.heap.size
  | [], _, _ => rfl
  | v :: vs, o, w => by
    show ((w.setCell ⟨g, o, none⟩ v).setCells g (o + 1) vs).heap.size = _
    rw [setCells_size g vs]
    simp [World.setCell]
theorem setCells_tape (g : Nat) : ∀ (vs : List Value) (o : Nat) (w : World), (w.setCells g o vs).tape = w.tape
  | [], _, _ => rfl
  | v :: vs, o, w => setCells_tape g vs (o + 1) (w.setCell ⟨g, o, none⟩ v)

/-- append of a slice's own tail to its head: run. -/
theorem run_append_cut {P : Program} {w : World} {t ty e : TypeId} {i : TypeInfo} {base g cap c2 : Nat} {ls : List Pr} {k : Nat} (ht : P.underlying t = some (.slice e)) (hi : P.info? e = some i) (hsize : i.size = 2)
    (h : OwnP e base w (.slice (some ⟨g, 0, none⟩) ls.length cap) ls) (hk : k < ls.length) :
    (Builtin.append_ #[t, t] ty #[.slice (some ⟨g, 0, none⟩) k cap, .slice (if cap = k + 1 then some ⟨g, 0, none⟩ else some ⟨g, (k + 1) * 2, none⟩) (ls.length - (k + 1)) c2]).run P w =
      .ok (.slice (some ⟨g, 0, none⟩) (ls.length - 1) cap) (w.setCells g (k * 2) ((ls.drop (k + 1)).flatMap prc)) := by
  have hcap : ls.length ≤ cap := by
    obtain ⟨A', c', e1, e2, _⟩ := h.reads.form
    cases e1; exact e2
  have hdl : ((ls.drop (k + 1)).flatMap prc).length = (ls.length - (k + 1)) * 2 := by rw [flat_len prc 2 (fun _ => rfl), List.length_drop]
  have hfl : (ls.flatMap prc).length = ls.length * 2 := flat_len prc 2 (fun _ => rfl) ls
  have ho : w.ownsRow base e 2 (.slice (some ⟨g, 0, none⟩) ls.length cap) ls.length (ls.flatMap prc) := h
  have hcell : ∀ j, j < ls.length * 2 → w.cell? ⟨g, j, none⟩ = (ls.flatMap prc)[j]? := fun j hj => ho.cellAt j (by omega)
  have hsrc : Src P i.size t (.slice (if cap = k + 1 then some ⟨g, 0, none⟩ else some ⟨g, (k + 1) * 2, none⟩) (ls.length - (k + 1)) c2) (ls.length - (k + 1)) ((ls.drop (k + 1)).flatMap prc) w := by
    by_cases hck : cap = k + 1
    · rw [if_pos hck]
      have e0 : ls.length - (k + 1) = 0 := by omega
      refine Src.ofSlice w ht _ _ _ _ (by rw [hsize]; exact hdl) ?_ (flat_one _)
      intro j u hu
      have hj := (List.getElem?_eq_some_iff.1 hu).1
      rw [hdl] at hj
      omega
    · rw [if_neg hck]
      refine Src.ofSlice w ht _ _ _ _ (by rw [hsize]; exact hdl) ?_ (flat_one _)
      intro j u hu
      have hj := (List.getElem?_eq_some_iff.1 hu).1
      rw [hdl] at hj
      rw [addr_add, hcell _ (by omega), ← hu, drop_flat, List.getElem?_drop]
  have hr := run_append_room_src (P := P) w t t ty e i ht hi g 0 k cap _ (ls.length - (k + 1)) ((ls.drop (k + 1)).flatMap prc) hsrc (by omega)
    (fun j hj => by rw [hdl] at hj; rw [hsize, Nat.zero_add, hcell _ (by omega), List.getElem?_eq_getElem (by omega)]; rfl)
    (fun j hj => ho.frozenAt _)
  rw [hsize, Nat.zero_add, show k + (ls.length - (k + 1)) = ls.length - 1 by omega] at hr
  exact hr

theorem wpList_append_cut {P : Program} {w : World} {ops : Array Oper} {rest : List Oper} {o : Oper} {a : Act} {Q : Exit → Act → World → Prop} (hgd : o.guard = none) (s x : Operand) (t : TypeId)
    (ho : o.op = .call { callee := .builtin .append, args := #[s, x], argTypes := #[t, t] })
    (base : Nat) (e : TypeId) (i : TypeInfo) (ht : P.underlying t = some (.slice e)) (hi : P.info? e = some i) (hsize : i.size = 2) (g cap c2 : Nat) (ls : List Pr) (k : Nat)
    (hs : a.eval s = .slice (some ⟨g, 0, none⟩) k cap) (hx : a.eval x = .slice (if cap = k + 1 then some ⟨g, 0, none⟩ else some ⟨g, (k + 1) * 2, none⟩) (ls.length - (k + 1)) c2)
    (hown : OwnP e base w (.slice (some ⟨g, 0, none⟩) ls.length cap) ls) (hk : k < ls.length)
    (h : ∀ w', OwnP e base w' (.slice (some ⟨g, 0, none⟩) (ls.length - 1) cap) (ls.take k ++ ls.drop (k + 1)) → w.grownBy w' (some g) → wpList P ops Q rest (a.put o.dst (.slice (some ⟨g, 0, none⟩) (ls.length - 1) cap)) w') :
    wpList P ops Q (o :: rest) a w :=
  wpList_plain hgd fun K hK => by
    have hrun := run_append_cut (ty := o.type) (c2 := c2) ht hi hsize hown hk
    unfold Oper.wp execOp
    simp only [ho, resolve, invoke, builtin, Sem.run_bind, Sem.run_pure, Result.andThen_ok, List.map_toArray, List.map_cons, List.map_nil, hs, hx, hrun]
    exact hK _ _ (h _ (own_cut hown hk) ⟨World.os_setCells _ _ _ _, setCells_tape _ _ _ _, World.output_setCells _ _ _ _, by rw [setCells_size]; exact Nat.le_refl _, fun i hi hne => World.heap_setCells_other _ _ _ _ hi (fun e => hne (by rw [e]))⟩)



end Go.Proofs.YtognjdappchpkaaGreat
