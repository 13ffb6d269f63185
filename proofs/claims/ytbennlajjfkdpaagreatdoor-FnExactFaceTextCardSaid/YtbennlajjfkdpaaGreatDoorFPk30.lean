/- part 30 -/
import Derived.Test.YtbennlajjfkdpaaGreatDoorFPk29
set_option linter.unusedSimpArgs false
set_option linter.unusedVariables false
namespace Go.Proofs.YtbennlajjfkdpaaGreatDoor
open Go.RowKit
def OwnE {α : Type} (t : TypeId) (enc : α → Value) (base : Nat) (w : World) (v : Value) (l : List α) : Prop := w.ownsRow base t 1 v l.length (l.map enc)
section
variable {α : Type} {t : TypeId} {enc : α → Value} {base : Nat} {w w' : World} {v : Value} {l : List α} {g n cap : Nat}
theorem OwnE.kept (h : OwnE t enc base w v l) (hb : Below w.heap.size w w') : OwnE t enc base w' v l := own_kept h hb
theorem OwnE.alloc (h : OwnE t enc base w v l) (o : Obj) : OwnE t enc base (w.alloc o) v l := World.ownsRow.alloc h o
theorem OwnE.lt (h : OwnE t enc base w v l) : ∀ k, v.ownBlock = some k → base ≤ k ∧ k < w.heap.size := World.ownsRow.lt h
theorem OwnE.form (h : OwnE t enc base w v l) : ∃ A c, v = .slice A l.length c := by
  rcases h.2 with ⟨rfl, hn⟩ | ⟨g, cap, cur, rfl, _⟩
  · exact ⟨none, 0, by rw [hn]⟩
  · exact ⟨_, _, rfl⟩
theorem OwnE.len (h : OwnE t enc base w (.slice (some ⟨g, 0, none⟩) n cap) l) : n = l.length := by
  obtain ⟨A, c, e⟩ := h.form
  cases e; rfl
theorem OwnE.cell (h : OwnE t enc base w (.slice (some ⟨g, 0, none⟩) n cap) l) (d : α) {q : Nat} (hq : q < l.length) : w.cell? ⟨g, q, none⟩ = some (enc (l.getD q d)) := by
  have e := h.len
  subst e
  have ho : w.ownsRow base t 1 (.slice (some ⟨g, 0, none⟩) l.length cap) l.length (l.map enc) := h
  rw [ho.cellAt q (by omega), List.getElem?_map, List.getElem?_eq_getElem hq]
  simp [List.getD, List.getElem?_eq_getElem hq]
theorem OwnE.frz (h : OwnE t enc base w (.slice (some ⟨g, 0, none⟩) n cap) l) (q : Nat) : w.frozen? ⟨g, q, none⟩ = false := by
  have e := h.len
  subst e
  have ho : w.ownsRow base t 1 (.slice (some ⟨g, 0, none⟩) l.length cap) l.length (l.map enc) := h
  exact ho.frozenAt q
theorem OwnE.set_ (h : OwnE t enc base w (.slice (some ⟨g, 0, none⟩) n cap) l) (q : Nat) (x : α) : OwnE t enc base (w.setCell ⟨g, q, none⟩ (enc x)) (.slice (some ⟨g, 0, none⟩) n cap) (l.set q x) := by
  have e := h.len
  subst e
  have ho : w.ownsRow base t 1 (.slice (some ⟨g, 0, none⟩) l.length cap) l.length (l.map enc) := h
  have := (ho.stored q (enc x)).1
  unfold OwnE
  rw [List.length_set, List.map_set]
  exact this
theorem OwnE.other (h : OwnE t enc base w v l) {b2 s2 n2 : Nat} {t2 : TypeId} {u : Value} {xs : List Value} (h2 : w.ownsRow b2 t2 s2 u n2 xs) (hne : t ≠ t2) (hg : w.grownBy w' u.ownBlock) : OwnE t enc base w' v l := by
  refine World.ownsRow.kept h hg ?_
  rcases h.2 with ⟨rfl, hn⟩ | ⟨g, cap, cur, rfl, _, hh, _⟩
  · exact .inl rfl
  · right
    rcases h2.2 with ⟨rfl, _⟩ | ⟨g2, cap2, cur2, rfl, _, hh2, _⟩
    · exact fun e => by cases e
    · intro e
      have e' : g = g2 := by injection e
      subst e'
      rw [hh] at hh2
      injection hh2 with hh2
      injection hh2 with _ hh2 _
      exact hne hh2
end
def OwnF (base : Nat) (w : World) (v : Value) (F : List (List Nat)) : Prop := ∃ vs : List Value, vs.length = F.length ∧ w.ownsRow base 42 1 v F.length vs ∧ ∀ k, k < F.length → OwnI base w (vs.getD k undef) (natI (F.getD k []))
def RetF (F : List (List Nat)) (w : World) (e : Ending) (w' : World) : Prop := ∃ v, e = .returned v ∧ OwnF w.heap.size w' v F ∧ Below w.heap.size w w'
section
variable {base : Nat} {w w' : World} {v : Value} {F : List (List Nat)}
theorem OwnF.nil (base : Nat) (w : World) : OwnF base w (.slice none 0 0) [] := ⟨[], rfl, World.ownsRow_nil _ _ _ _, fun k hk => absurd hk (by simp)⟩
theorem OwnF.kept (h : OwnF base w v F) (hb : Below w.heap.size w w') : OwnF base w' v F := by
  obtain ⟨vs, h1, h2, h3⟩ := h
  exact ⟨vs, h1, own_kept h2 hb, fun k hk => (h3 k hk).kept hb⟩
theorem OwnF.alloc (h : OwnF base w v F) (o : Obj) : OwnF base (w.alloc o) v F := h.kept ((Below.refl _ _).alloc (Nat.le_refl _) _)
theorem OwnF.far {row : Option Nat} (h : OwnF base w v F) (hg : w.grownBy w' row) (hr : ∀ k, row = some k → k < base) : OwnF base w' v F := by
  obtain ⟨vs, h1, h2, h3⟩ := h
  refine ⟨vs, h1, ?_, fun k hk => (h3 k hk).far hg hr⟩
  refine World.ownsRow.kept h2 hg ?_
  cases hv : v.ownBlock with
  | none => exact .inl rfl
  | some k =>
    right
    rintro rfl
    have := hr k rfl
    have := (World.ownsRow.lt h2 k hv).1
    omega
theorem OwnF.mono {base' : Nat} (h : OwnF base w v F) (hb : base' ≤ base) : OwnF base' w v F := by
  obtain ⟨vs, h1, h2, h3⟩ := h
  refine ⟨vs, h1, ?_, fun k hk => (h3 k hk).mono hb⟩
  obtain ⟨h4, h5⟩ := h2
  refine ⟨h4, ?_⟩
  rcases h5 with h5 | ⟨g, cap, cur, e1, e2, e3⟩
  · exact .inl h5
  · exact .inr ⟨g, cap, cur, e1, Nat.le_trans hb e2, e3⟩
theorem OwnF.form (h : OwnF base w v F) : ∃ A c, v = .slice A F.length c := by
  obtain ⟨vs, h1, h2, h3⟩ := h
  rcases h2.2 with ⟨rfl, hn⟩ | ⟨g, cap, cur, rfl, _⟩
  · exact ⟨none, 0, by rw [hn]⟩
  · exact ⟨_, _, rfl⟩
theorem OwnF.lt (h : OwnF base w v F) : ∀ k, v.ownBlock = some k → base ≤ k ∧ k < w.heap.size := by
  obtain ⟨vs, h1, h2, h3⟩ := h
  exact World.ownsRow.lt h2
end
theorem ty_ne : 3 ≠ 42 := by decide
theorem OwnF.snoc {base n : Nat} {w w' : World} {v v' u : Value} {vs : List Value} {F : List (List Nat)} {f : List Nat} (hv : vs.length = F.length) (h2 : w.ownsRow base 42 1 v n vs) (h3 : ∀ k, k < F.length → OwnI base w (vs.getD k undef) (natI (F.getD k [])))
    (hu : OwnI base w u (natI f)) (hg : w.grownBy w' v.ownBlock) (hw : w'.ownsRow base 42 1 v' (n + 1) (vs ++ [u])) : OwnF base w' v' (F ++ [f]) := by
  have hn : n = F.length := by have := h2.1; omega
  subst hn
  have kp : ∀ x zs, OwnI base w x zs → OwnI base w' x zs := fun x zs hx => OwnE.other (t := 3) (enc := vI) hx h2 ty_ne hg
  refine ⟨vs ++ [u], by simp [hv], by simpa using hw, fun k hk => ?_⟩
  rw [List.length_append, List.length_singleton] at hk
  by_cases he : k = F.length
  · subst he
    rw [List.getD, List.getElem?_append_right (by omega), hv, Nat.sub_self, List.getD, List.getElem?_append_right (Nat.le_refl _), Nat.sub_self]
    exact kp _ _ hu
  · have hlt : k < F.length := by omega
    have e1 : (vs ++ [u]).getD k undef = vs.getD k undef := by rw [List.getD, List.getD, List.getElem?_append_left (by omega)]
    have e2 : (F ++ [f]).getD k [] = F.getD k [] := by rw [List.getD, List.getD, List.getElem?_append_left hlt]
    rw [e1, e2]
    exact kp _ _ (h3 k hlt)
theorem infoRow : (Tryz.prog.info? 42).map (fun i => (i.zero, i.size, i.bytes)) = some (some (.slice none 0 0), 1, 24) := by kernel_rfl
theorem wpList_append_row {w : World} {ops : Array Oper} {rest : List Oper} {o : Oper} {a : Act} {Q : Exit → Act → World → Prop} (hgd : o.guard = none) (s x : Operand)
    (ho : o.op = .call { callee := .builtin .append, args := #[s, x], argTypes := #[66, 66] })
    (base : Nat) (v u : Value) (F : List (List Nat)) (f : List Nat) (hs : a.eval s = v) (g : Nat) (hx : a.eval x = .slice (some ⟨g, 0, none⟩) 1 1) (hg : w.cell? ⟨g, 0, none⟩ = some u)
    (hown : OwnF base w v F) (hu : OwnI base w u (natI f)) (hlen : F.length ≤ 1048576) (hbase : base ≤ w.heap.size)
    (h : ∀ v' w', OwnF base w' v' (F ++ [f]) → w.grownBy w' v.ownBlock → wpList Tryz.prog ops Q rest (a.put o.dst v') w') : wpList Tryz.prog ops Q (o :: rest) a w := by
  obtain ⟨i, hi, hz, hsize, hby⟩ := info_parts infoRow
  obtain ⟨vs, h1, h2, h3⟩ := hown
  exact wpList_append_own w hgd s x 66 ho base 42 i (.slice none 0 0) 1 24 Tryz.underlying66 hi hz hsize hby rfl (by decide) v F.length _ hs h2 ⟨g, 0, none⟩ 1 1 [u] hx rfl
    (fun j y hj => by
      match j, hj with
      | 0, hj => cases hj; exact hg
      | j + 1, hj => simp at hj)
    (by
      intro y hy
      simp at hy
      subst hy
      obtain ⟨A, c, rfl⟩ := hu.form
      rfl) (by unfold maxLen; omega) (by omega) hbase fun v' w' e1 e2 _ => h v' w' (OwnF.snoc h1 h2 h3 hu e2 e1) e2
def mkS (n : Nat) (F : List (List Nat)) (f : List Nat) (j : Nat) : List Bool := (List.range n).map fun e => seenB F e || (f.take j).contains e
theorem mkS_len (n : Nat) (F : List (List Nat)) (f : List Nat) (j : Nat) : (mkS n F f j).length = n := by simp [mkS]
theorem mkS_zero (n : Nat) (F : List (List Nat)) (f : List Nat) : mkS n F f 0 = (List.range n).map (seenB F) := by simp [mkS]
theorem mkS_start (n : Nat) : (List.range n).map (seenB []) = List.replicate n false := by
  apply List.ext_getElem?
  intro j
  by_cases hj : j < n
  · simp [List.getElem?_map, hj, seenB, List.getElem?_replicate]
  · simp [hj, List.getElem?_replicate]
theorem mkS_all (n : Nat) (F : List (List Nat)) (f : List Nat) : mkS n F f f.length = (List.range n).map (seenB (F ++ [f])) := by
  unfold mkS seenB
  rw [List.take_length]
  simp
theorem mkS_succ (n : Nat) (F : List (List Nat)) (f : List Nat) (j : Nat) (hj : j < f.length) : mkS n F f (j + 1) = (mkS n F f j).set (f.getD j 0) true := by
  have e : f.getD j 0 = f[j] := by simp [List.getD, hj]
  rw [e]
  apply List.ext_getElem?
  intro i
  rw [List.getElem?_set, mkS_len]
  unfold mkS
  by_cases hi : i < n
  · rw [List.getElem?_map, List.getElem?_map, List.getElem?_range hi, Option.map_some, Option.map_some, List.take_succ_eq_append_getElem hj, List.contains_append]
    by_cases he : f[j] = i
    · rw [if_pos he, if_pos (by omega), he]; simp
    · rw [if_neg he]
      have : ([f[j]] : List Nat).contains i = false := by simp; omega
      rw [this, Bool.or_false]
  · have h1 : (List.range n)[i]? = none := by simp; omega
    rw [List.getElem?_map, List.getElem?_map, h1]
    by_cases he : f[j] = i
    · rw [if_pos he, if_neg (by omega)]; rfl
    · rw [if_neg he]; rfl
theorem mkS_get {n : Nat} {F : List (List Nat)} {d : Nat} (h : d < n) : ((List.range n).map (seenB F)).getD d false = seenB F d := by simp [List.getD, h]
theorem madeB (n : Nat) : (madeCells #[.bool false] n).toList = (List.replicate n false).map Value.bool := by
  apply List.ext_getElem?
  intro j
  by_cases hj : j < n
  · simp only [madeCells, Array.toList_map, List.getElem?_map, Array.toList_range, List.getElem?_range hj, List.getElem?_replicate, if_pos hj, Option.map_some]
    congr 1
    show #[Value.bool false][j % 1]! = _
    rw [Nat.mod_one]; rfl
  · simp [madeCells, hj]
theorem infoBool : (Tryz.prog.info? 4).map (fun i => (i.zero, i.size, i.bytes)) = some (some (.bool false), 1, 1) := by kernel_rfl
noncomputable def facesW (ns ls : List Pr) : List (List Nat) := if wholeB ns ls then facesD ns ls else []
end Go.Proofs.YtbennlajjfkdpaaGreatDoor
