/- part 4 -/
import Derived.Test.YtbennlajjfkdpaaGreatDoorFPk2
import Derived.Test.YtbennlajjfkdpaaGreatDoorFPk3
import Derived.BigRegion
import Derived.OwnWalk
set_option linter.unusedSimpArgs false
set_option linter.unusedVariables false
namespace Go.Proofs.YtbennlajjfkdpaaGreatDoor
open Go.RowKit
theorem flat_len {α : Type} (f : α → List Value) (n : Nat) (hf : ∀ x, (f x).length = n) : ∀ l : List α, (l.flatMap f).length = l.length * n
  | [] => by simp
  | x :: l => by rw [List.flatMap_cons, List.length_append, hf, flat_len f n hf l, List.length_cons, Nat.add_mul]; omega
theorem flat_get {α : Type} (f : α → List Value) (n : Nat) (hf : ∀ x, (f x).length = n) : ∀ (l : List α) (k j : Nat) (hk : k < l.length) (hj : j < n), (l.flatMap f)[k * n + j]? = (f l[k])[j]?
  | [], k, j, hk, hj => absurd hk (by simp)
  | x :: l, 0, j, hk, hj => by
    rw [List.flatMap_cons, List.getElem?_append_left (by rw [hf]; omega)]
    simp
  | x :: l, k + 1, j, hk, hj => by
    rw [List.flatMap_cons, List.getElem?_append_right (by rw [hf, Nat.add_mul]; omega), hf, show (k + 1) * n + j - n = k * n + j by rw [Nat.add_mul]; omega,
      flat_get f n hf l k j (by simpa using hk) hj]
    simp
def Blk (w : World) (g : Nat) (t : TypeId) (cs : Array Value) : Prop := w.heap[g]? = some (.cells cs t (0, 0))
section
variable {w w' : World} {g : Nat} {t : TypeId} {cs : Array Value}
theorem Blk.lt (h : Blk w g t cs) : g < w.heap.size := by
  rcases Nat.lt_or_ge g w.heap.size with hlt | hge
  · exact hlt
  · unfold Blk at h; rw [Array.getElem?_eq_none hge] at h; cases h
theorem Blk.cell (h : Blk w g t cs) (i : Nat) : w.cell? ⟨g, i, none⟩ = cs[i]? := cell_of_row w g i cs t (0, 0) h
theorem Blk.frozen (h : Blk w g t cs) (i : Nat) : w.frozen? ⟨g, i, none⟩ = false := by
  unfold Blk at h
  simp [World.frozen?, h]
theorem Blk.new (w : World) (t : TypeId) (cs : Array Value) : Blk (w.alloc (.cells cs t)) w.heap.size t cs := heap_alloc_new w _
theorem Blk.alloc (h : Blk w g t cs) (o : Obj) : Blk (w.alloc o) g t cs := (Below.heap_alloc w o g h.lt).trans h
theorem Blk.set_ (h : Blk w g t cs) (i : Nat) (u : Value) : Blk (w.setCell ⟨g, i, none⟩ u) g t (cs.setIfInBounds i u) := by
  unfold Blk at h ⊢
  simp [World.setCell, Array.getElem?_modify, h]
theorem Blk.far (h : Blk w g t cs) {p : Addr} (hp : g ≠ p.block) (u : Value) : Blk (w.setCell p u) g t cs := (Below.heap_setCell w p u g hp).trans h
theorem Blk.below {B : Nat} (h : Blk w g t cs) (hb : Below B w w') (hg : g < B) : Blk w' g t cs := (hb.block g hg).trans h
end
theorem Blk.c2 {w : World} {g : Nat} {t : TypeId} {v0 v1 : Value} (h : Blk w g t #[v0, v1]) : w.cell? ⟨g, 0, none⟩ = some v0 ∧ w.cell? ⟨g, 1, none⟩ = some v1 := ⟨h.cell 0, h.cell 1⟩
theorem Blk.b2 {w : World} {g : Nat} {t : TypeId} {v0 v1 : Value} (h : Blk w g t #[v0, v1]) : w.cell? ⟨g, 0, none⟩ = some v0 ∧ w.cell? ⟨g, 1, none⟩ = some v1 ∧ w.frozen? ⟨g, 0, none⟩ = false ∧ w.frozen? ⟨g, 1, none⟩ = false := ⟨h.cell 0, h.cell 1, h.frozen 0, h.frozen 1⟩
theorem Blk.newAt {w : World} {g : Nat} {t : TypeId} {cs : Array Value} (h : g = w.heap.size) : Blk (w.alloc (.cells cs t)) g t cs := by
  subst h; exact Blk.new w t cs
theorem own_reads {base : Nat} {w : World} {e : TypeId} {size : Nat} {v : Value} {n : Nat} {xs : List Value} (h : w.ownsRow base e size v n xs) : RS w size v n xs := by
  obtain ⟨h1, h2⟩ := h
  refine ⟨h1, ?_⟩
  rcases h2 with ⟨rfl, hn⟩ | ⟨g, cap, cur, rfl, _, hh, hnc, hcm, hsz, hxs⟩
  · exact ⟨none, 0, by rw [hn], by omega, by rw [hn]; simp [maxLen], fun hp => absurd hp (by omega)⟩
  · refine ⟨_, cap, rfl, hnc, by omega, fun hp => ⟨g, 0, rfl, ?_, fun j u hu => ?_⟩⟩
    · rcases Nat.lt_or_ge g w.heap.size with hlt | hge
      · exact hlt
      · rw [Array.getElem?_eq_none hge] at hh; cases hh
    · rw [Nat.zero_add, cell_of_row _ _ _ cur e (0, 0) hh]
      rw [← hxs] at hu
      rw [List.getElem?_take] at hu
      split at hu
      · simpa using hu
      · cases hu
theorem own_kept {base : Nat} {w w' : World} {e : TypeId} {size : Nat} {v : Value} {n : Nat} {xs : List Value} (h : w.ownsRow base e size v n xs) (hb : Below w.heap.size w w') : w'.ownsRow base e size v n xs := by
  refine World.ownsRow.kept (row := none) h ⟨hb.os, hb.tape, hb.output, hb.size, fun k hk _ => hb.block k hk⟩ ?_
  cases hv : v.ownBlock with
  | none => exact .inl rfl
  | some k => exact .inr (by simp)
theorem Blk.grown {w w' : World} {b g : Nat} {t : TypeId} {cs : Array Value} (h : Blk w b t cs) (hg : w.grownBy w' (some g)) (hne : b ≠ g) : Blk w' b t cs :=
  (hg.block b h.lt (fun e => hne (by cases e; rfl))).trans h
def szF (n : Int) (k : Nat) : Int := if n < k then -1 else n - k
theorem OwnI.cell {base : Nat} {w : World} {g cap n : Nat} {G : List Int} (h : OwnI base w (.slice (some ⟨g, 0, none⟩) n cap) G) {q : Nat} (hq : q < G.length) : w.cell? ⟨g, q, none⟩ = some (.int .i64 (G.getD q 0)) := by
  have hn := h.1
  have ho : w.ownsRow base 3 1 (.slice (some ⟨g, 0, none⟩) n cap) G.length (G.map vI) := h
  have e : n = G.length := by
    rcases ho.2 with ⟨e, _⟩ | ⟨g', cap', cur, e, _⟩
    · cases e
    · injection e
  subst e
  rw [ho.cellAt q (by omega), List.getElem?_map, List.getElem?_eq_getElem hq]
  simp [vI, List.getD, List.getElem?_eq_getElem hq]
theorem OwnI.frz {base : Nat} {w : World} {g cap n : Nat} {G : List Int} (h : OwnI base w (.slice (some ⟨g, 0, none⟩) n cap) G) (q : Nat) : w.frozen? ⟨g, q, none⟩ = false := by
  have ho : w.ownsRow base 3 1 (.slice (some ⟨g, 0, none⟩) n cap) G.length (G.map vI) := h
  have e : n = G.length := by
    rcases ho.2 with ⟨e, _⟩ | ⟨g', cap', cur, e, _⟩
    · cases e
    · injection e
  subst e
  exact ho.frozenAt q
theorem OwnI.set_ {base : Nat} {w : World} {g cap n : Nat} {G : List Int} (h : OwnI base w (.slice (some ⟨g, 0, none⟩) n cap) G) (q : Nat) (x : Int) :
    OwnI base (w.setCell ⟨g, q, none⟩ (.int .i64 x)) (.slice (some ⟨g, 0, none⟩) n cap) (G.set q x) := by
  have ho : w.ownsRow base 3 1 (.slice (some ⟨g, 0, none⟩) n cap) G.length (G.map vI) := h
  have e : n = G.length := by
    rcases ho.2 with ⟨e, _⟩ | ⟨g', cap', cur, e, _⟩
    · cases e
    · injection e
  subst e
  have := (ho.stored q (.int .i64 x)).1
  unfold OwnI
  rw [List.length_set, List.map_set]
  exact this
theorem OwnI.far {base : Nat} {w w' : World} {v : Value} {zs : List Int} {row : Option Nat} (h : OwnI base w v zs) (hg : w.grownBy w' row) (hr : ∀ k, row = some k → k < base) : OwnI base w' v zs := by
  refine World.ownsRow.kept h hg ?_
  cases hv : v.ownBlock with
  | none => exact .inl rfl
  | some k =>
    right
    rintro rfl
    have := hr k rfl
    have := (OwnI.lt h k hv).1
    omega
end Go.Proofs.YtbennlajjfkdpaaGreatDoor

namespace Go.Proofs.YtbennlajjfkdpaaGreatDoor
open Go.RowKit
def prc (p : Int × Int) : List Value := [.int .i64 p.1, .int .i64 p.2]
def RP (w : World) (v : Value) (l : List (Int × Int)) : Prop := RS w 2 v l.length (l.flatMap prc)
theorem RP.below {w w' : World} {v : Value} {l : List (Int × Int)} (h : RP w v l) (hb : Below w.heap.size w w') : RP w' v l := RS.below h hb
theorem RP.nil (w : World) : RP w (.slice none 0 0) [] := RS.nil w 2
theorem RP.form {w : World} {v : Value} {l : List (Int × Int)} (h : RP w v l) : ∃ A c, v = .slice A l.length c ∧ l.length ≤ c ∧ l.length ≤ maxLen ∧
    (0 < l.length → ∃ b off, A = some ⟨b, off, none⟩ ∧ b < w.heap.size ∧ ∀ k (hk : k < l.length), w.cell? ⟨b, off + k * 2, none⟩ = some (.int .i64 l[k].1) ∧ w.cell? ⟨b, off + k * 2 + 1, none⟩ = some (.int .i64 l[k].2)) := by
  obtain ⟨_, A, c, hv, h1, h2, h3⟩ := h
  refine ⟨A, c, hv, h1, h2, fun hn => ?_⟩
  obtain ⟨b, off, hA, hlt, hc⟩ := h3 hn
  refine ⟨b, off, hA, hlt, fun k hk => ?_⟩
  have g := fun j hj => flat_get prc 2 (fun _ => rfl) l k j hk hj
  refine ⟨?_, ?_⟩
  · exact hc (k * 2 + 0) _ (by rw [g 0 (by omega)]; rfl)
  · have := hc (k * 2 + 1) _ (by rw [g 1 (by omega)]; rfl); rwa [← Nat.add_assoc] at this
theorem RP_lit {w : World} {l : List (Int × Int)} {cs : Array Value} {t : TypeId} {g n c : Nat} (hg : g = w.heap.size) (hcs : cs.toList = l.flatMap prc) (hn : n = l.length) (hc : c = l.length) (hm : l.length ≤ maxLen) :
    RP (w.alloc (.cells cs t)) (.slice (some ⟨g, 0, none⟩) n c) l := by
  subst hg hn hc
  refine ⟨flat_len prc 2 (fun _ => rfl) l, _, _, rfl, by omega, hm, fun hn => ⟨w.heap.size, 0, rfl, by simp, fun j u hu => ?_⟩⟩
  rw [← hcs] at hu
  have hu' : cs[j]? = some u := by simpa using hu
  rw [Nat.zero_add, cell_of_row _ _ _ cs t (0, 0) (heap_alloc_new w _)]
  exact hu'
def OwnP (t : TypeId) (base : Nat) (w : World) (v : Value) (l : List (Int × Int)) : Prop := w.ownsRow base t 2 v l.length (l.flatMap prc)
def RetP (t : TypeId) (l : List (Int × Int)) (w : World) (e : Ending) (w' : World) : Prop := ∃ A c, e = .returned (.slice A l.length c) ∧ OwnP t w.heap.size w' (.slice A l.length c) l ∧ Below w.heap.size w w'
theorem OwnP.form {t : TypeId} {base : Nat} {w : World} {v : Value} {l : List (Int × Int)} (h : OwnP t base w v l) : ∃ A c, v = .slice A l.length c := by
  rcases h.2 with ⟨rfl, hn⟩ | ⟨g, cap, cur, rfl, _⟩
  · exact ⟨none, 0, by rw [hn]⟩
  · exact ⟨_, _, rfl⟩
theorem RetP.mk {t : TypeId} {l : List (Int × Int)} {w w' : World} {v : Value} (h : OwnP t w.heap.size w' v l) (hb : Below w.heap.size w w') : RetP t l w (.returned v) w' := by
  obtain ⟨A, c, rfl⟩ := h.form
  exact ⟨A, c, rfl, h, hb⟩
section
variable {t : TypeId} {base : Nat} {w w' : World} {v : Value} {l : List (Int × Int)}
theorem OwnP.reads (h : OwnP t base w v l) : RP w v l := own_reads h
theorem OwnP.kept (h : OwnP t base w v l) (hb : Below w.heap.size w w') : OwnP t base w' v l := own_kept h hb
theorem OwnP.lt (h : OwnP t base w v l) : ∀ k, v.ownBlock = some k → base ≤ k ∧ k < w.heap.size := World.ownsRow.lt h
theorem OwnP.mono {base' : Nat} (h : OwnP t base w v l) (hb : base' ≤ base) : OwnP t base' w v l := by
  obtain ⟨h1, h2⟩ := h
  refine ⟨h1, ?_⟩
  rcases h2 with h2 | ⟨g, cap, cur, e1, e2, e3⟩
  · exact .inl h2
  · exact .inr ⟨g, cap, cur, e1, Nat.le_trans hb e2, e3⟩
theorem OwnP.far {row : Option Nat} (h : OwnP t base w v l) (hg : w.grownBy w' row) (hr : ∀ k, row = some k → k < base) : OwnP t base w' v l := by
  refine World.ownsRow.kept h hg ?_
  cases hv : v.ownBlock with
  | none => exact .inl rfl
  | some k =>
    right
    rintro rfl
    have := hr k rfl
    have := (OwnP.lt h k hv).1
    omega
end
theorem set_grown (w : World) (p : Addr) (u : Value) : w.grownBy (w.setCell p u) (some p.block) :=
  ⟨rfl, rfl, rfl, by simp [World.setCell], fun i hi hne => Below.heap_setCell w p u i (fun e => hne (by rw [e]))⟩
theorem OwnP.setLow {t : TypeId} {base : Nat} {w : World} {v : Value} {l : List (Int × Int)} (h : OwnP t base w v l) {p : Addr} (hp : p.block < base) (u : Value) : OwnP t base (w.setCell p u) v l :=
  h.far (set_grown w p u) (fun k hk => by cases hk; exact hp)
theorem OwnP.len {t : TypeId} {base : Nat} {w : World} {g n cap : Nat} {G : List (Int × Int)} (h : OwnP t base w (.slice (some ⟨g, 0, none⟩) n cap) G) : n = G.length := by
  have ho : w.ownsRow base t 2 (.slice (some ⟨g, 0, none⟩) n cap) G.length (G.flatMap prc) := h
  rcases ho.2 with ⟨e, _⟩ | ⟨g', cap', cur, e, _⟩
  · cases e
  · injection e
theorem flat_set : ∀ (l : List (Int × Int)) (k : Nat) (x : Int × Int), k < l.length → (l.set k x).flatMap prc = ((l.flatMap prc).set (k * 2) (.int .i64 x.1)).set (k * 2 + 1) (.int .i64 x.2)
  | [], k, x, h => absurd h (by simp)
  | a :: l, 0, x, h => by simp [prc]
  | a :: l, k + 1, x, h => by
    have ih := flat_set l k x (by simpa using h)
    have e : (k + 1) * 2 = k * 2 + 1 + 1 := by omega
    rw [List.set_cons_succ, List.flatMap_cons, ih, List.flatMap_cons, e]
    simp [prc]
theorem OwnP.cell {t : TypeId} {base : Nat} {w : World} {g n cap : Nat} {G : List (Int × Int)} (h : OwnP t base w (.slice (some ⟨g, 0, none⟩) n cap) G) {q : Nat} (hq : q < G.length) :
    w.cell? ⟨g, q * 2, none⟩ = some (.int .i64 G[q].1) ∧ w.cell? ⟨g, q * 2 + 1, none⟩ = some (.int .i64 G[q].2) := by
  have e := h.len
  subst e
  have ho : w.ownsRow base t 2 (.slice (some ⟨g, 0, none⟩) G.length cap) G.length (G.flatMap prc) := h
  have g' := fun j hj => flat_get prc 2 (fun _ => rfl) G q j hq hj
  refine ⟨?_, ?_⟩
  · rw [ho.cellAt _ (by omega)]; have := g' 0 (by omega); rw [Nat.add_zero] at this; rw [this]; rfl
  · rw [ho.cellAt _ (by omega), g' 1 (by omega)]; rfl
theorem OwnP.frz {t : TypeId} {base : Nat} {w : World} {g n cap : Nat} {G : List (Int × Int)} (h : OwnP t base w (.slice (some ⟨g, 0, none⟩) n cap) G) (q : Nat) : w.frozen? ⟨g, q, none⟩ = false := by
  have e := h.len
  subst e
  have ho : w.ownsRow base t 2 (.slice (some ⟨g, 0, none⟩) G.length cap) G.length (G.flatMap prc) := h
  exact ho.frozenAt q
theorem OwnP.set_ {t : TypeId} {base : Nat} {w : World} {g n cap : Nat} {G : List (Int × Int)} (h : OwnP t base w (.slice (some ⟨g, 0, none⟩) n cap) G) {q : Nat} (hq : q < G.length) (x y : Int) :
    OwnP t base ((w.setCell ⟨g, q * 2, none⟩ (.int .i64 x)).setCell ⟨g, q * 2 + 1, none⟩ (.int .i64 y)) (.slice (some ⟨g, 0, none⟩) n cap) (G.set q (x, y)) := by
  have e := h.len
  subst e
  have ho : w.ownsRow base t 2 (.slice (some ⟨g, 0, none⟩) G.length cap) G.length (G.flatMap prc) := h
  have := ((ho.stored (q * 2) (.int .i64 x)).1.stored (q * 2 + 1) (.int .i64 y)).1
  unfold OwnP
  rw [List.length_set, flat_set G q (x, y) hq]
  exact this
def fillP (l : List (Int × Int)) (k : Nat) : List (Int × Int) := l.take k ++ List.replicate (l.length - k) (0, 0)
theorem fillP_length (l : List (Int × Int)) (k : Nat) (h : k ≤ l.length) : (fillP l k).length = l.length := by simp [fillP]; omega
theorem fillP_zero (l : List (Int × Int)) : fillP l 0 = List.replicate l.length (0, 0) := by simp [fillP]
theorem fillP_all (l : List (Int × Int)) : fillP l l.length = l := by simp [fillP]
theorem fillP_succ (l : List (Int × Int)) (k : Nat) (h : k < l.length) : fillP l (k + 1) = (fillP l k).set k l[k] := by
  unfold fillP
  have e : l.length - k = (l.length - (k + 1)) + 1 := by omega
  rw [List.take_succ_eq_append_getElem h, List.set_append, if_neg (by simp; omega), e, List.replicate_succ]
  have hl : (List.take k l).length = k := by simp; omega
  rw [hl, Nat.sub_self, List.set_cons_zero, List.append_assoc, List.cons_append, List.nil_append]
theorem made2 (n : Nat) : (madeCells #[.int .i64 0, .int .i64 0] (n * 2)).toList = (List.replicate n ((0 : Int), (0 : Int))).flatMap prc := by
  apply List.ext_getElem?
  intro j
  by_cases hj : j < n * 2
  · have h1 := flat_get prc 2 (fun _ => rfl) (List.replicate n ((0 : Int), (0 : Int))) (j / 2) (j % 2) (by simp; omega) (by omega)
    rw [show j / 2 * 2 + j % 2 = j by omega] at h1
    rw [h1]
    simp only [madeCells, Array.toList_map, List.getElem?_map, Array.toList_range, List.getElem?_range hj, Option.map_some]
    show some (#[Value.int .i64 0, .int .i64 0][j % 2]!) = _
    have : j % 2 = 0 ∨ j % 2 = 1 := by omega
    rcases this with h | h <;> rw [h] <;> simp [prc]
  · rw [List.getElem?_eq_none (by simp [madeCells]; omega), List.getElem?_eq_none (by rw [flat_len prc 2 (fun _ => rfl)]; simp; omega)]
end Go.Proofs.YtbennlajjfkdpaaGreatDoor
