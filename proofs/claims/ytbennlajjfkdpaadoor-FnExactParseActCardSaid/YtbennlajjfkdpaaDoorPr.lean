/-
  Lists of pairs of ints in memory (nodes, leads), read and owned: plain lemmas.
-/
import Derived.Test.YtbennlajjfkdpaaDoorBlk
set_option linter.unusedSimpArgs false
set_option linter.unusedVariables false
namespace Go.Proofs.YtbennlajjfkdpaaDoor
open Go.RowKit

/-- The cells of a pair. -/
def prc (p : Int × Int) : List Value := [.int .i64 p.1, .int .i64 p.2]

/-- v reads as the list of pairs. -/
def RP (w : World) (v : Value) (l : List (Int × Int)) : Prop := RS w 2 v l.length (l.flatMap prc)

theorem RP.below {w w' : World} {v : Value} {l : List (Int × Int)} (h : RP w v l) (hb : Below w.heap.size w w') : RP w' v l := RS.below h hb

theorem RP.nil (w : World) : RP w (.slice none 0 0) [] := RS.nil w 2

theorem RP.form {w : World} {v : Value} {l : List (Int × Int)} (h : RP w v l) : ∃ A c, v = .slice A l.length c ∧ l.length ≤ c ∧ l.length ≤ maxLen ∧
    (0 < l.length → ∃ b off, A = some ⟨b, off, none⟩ ∧ b < w.heap.size ∧ ∀ k (hk : k < l.length), w.cell? ⟨b, off + k * 2, none⟩ = some (.int .i64 l[k].1) ∧ w.cell? ⟨b, off + k * 2 + 1, none⟩ = some (.int .i64 l[k].2)) := by
  obtain ⟨_, A, c, hv, h1, h2, h3⟩ := h
  refine ⟨A, c, hv, h1, h2, fun hn => ?_⟩
  obtain ⟨b, off, hA, hlt, hc⟩ := h3 hn
  refine ⟨b, off, hA, hlt, fun k hk => ?_⟩
  have g := fun j hj => flat_get prc 2 (fun _ => rfl) l k j hk hj
  refine ⟨?_, ?_⟩
  · exact hc (k * 2 + 0) _ (by rw [g 0 (by omega)]; rfl)
  · have := hc (k * 2 + 1) _ (by rw [g 1 (by omega)]; rfl); rwa [← Nat.add_assoc] at this

/-- A list of pairs just laid. -/
theorem RP_lit {w : World} {l : List (Int × Int)} {cs : Array Value} {t : TypeId} {g n c : Nat} (hg : g = w.heap.size) (hcs : cs.toList = l.flatMap prc) (hn : n = l.length) (hc : c = l.length) (hm : l.length ≤ maxLen) :
    RP (w.alloc (.cells cs t)) (.slice (some ⟨g, 0, none⟩) n c) l := by
  subst hg hn hc
  refine ⟨flat_len prc 2 (fun _ => rfl) l, _, _, rfl, by omega, hm, fun hn => ⟨w.heap.size, 0, rfl, by simp, fun j u hu => ?_⟩⟩
  rw [← hcs] at hu
  have hu' : cs[j]? = some u := by simpa using hu
  rw [Nat.zero_add, cell_of_row _ _ _ cs t (0, 0) (heap_alloc_new w _)]
  exact hu'

/-- v is a list of pairs that lies in a block of its own, not below base. -/
def OwnP (t : TypeId) (base : Nat) (w : World) (v : Value) (l : List (Int × Int)) : Prop := w.ownsRow base t 2 v l.length (l.flatMap prc)

/-- A call returns a list of pairs in new memory and leaves what was there alone. -/
def RetP (t : TypeId) (l : List (Int × Int)) (w : World) (e : Ending) (w' : World) : Prop := ∃ A c, e = .returned (.slice A l.length c) ∧ OwnP t w.heap.size w' (.slice A l.length c) l ∧ Below w.heap.size w w'

theorem OwnP.form {t : TypeId} {base : Nat} {w : World} {v : Value} {l : List (Int × Int)} (h : OwnP t base w v l) : ∃ A c, v = .slice A l.length c := by
  rcases h.2 with ⟨rfl, hn⟩ | ⟨g, cap, cur, rfl, _⟩
  · exact ⟨none, 0, by rw [hn]⟩
  · exact ⟨_, _, rfl⟩

theorem RetP.mk {t : TypeId} {l : List (Int × Int)} {w w' : World} {v : Value} (h : OwnP t w.heap.size w' v l) (hb : Below w.heap.size w w') : RetP t l w (.returned v) w' := by
  obtain ⟨A, c, rfl⟩ := h.form
  exact ⟨A, c, rfl, h, hb⟩

section
variable {t : TypeId} {base : Nat} {w w' : World} {v : Value} {l : List (Int × Int)}
theorem OwnP.nil (t : TypeId) (base : Nat) (w : World) : OwnP t base w (.slice none 0 0) [] := World.ownsRow_nil _ _ _ _
theorem OwnP.reads (h : OwnP t base w v l) : RP w v l := own_reads h
theorem OwnP.kept (h : OwnP t base w v l) (hb : Below w.heap.size w w') : OwnP t base w' v l := own_kept h hb
theorem OwnP.alloc (h : OwnP t base w v l) (o : Obj) : OwnP t base (w.alloc o) v l := World.ownsRow.alloc h o
theorem OwnP.drewN (h : OwnP t base w v l) (n : Nat) : OwnP t base (w.drewN n) v l := h
theorem OwnP.drew (h : OwnP t base w v l) : OwnP t base w.drew v l := h
theorem OwnP.lt (h : OwnP t base w v l) : ∀ k, v.ownBlock = some k → base ≤ k ∧ k < w.heap.size := World.ownsRow.lt h
theorem OwnP.mono {base' : Nat} (h : OwnP t base w v l) (hb : base' ≤ base) : OwnP t base' w v l := by
  obtain ⟨h1, h2⟩ := h
  refine ⟨h1, ?_⟩
  rcases h2 with h2 | ⟨g, cap, cur, e1, e2, e3⟩
  · exact .inl h2
  · exact .inr ⟨g, cap, cur, e1, Nat.le_trans hb e2, e3⟩
theorem OwnP.far {row : Option Nat} (h : OwnP t base w v l) (hg : w.grownBy w' row) (hr : ∀ k, row = some k → k < base) : OwnP t base w' v l := by
  refine World.ownsRow.kept h hg ?_
  cases hv : v.ownBlock with
  | none => exact .inl rfl
  | some k =>
    right
    rintro rfl
    have := hr k rfl
    have := (OwnP.lt h k hv).1
    omega
end

/-- A block of its own that lies elsewhere is as it was. -/
theorem OwnP.apart {t : TypeId} {base : Nat} {w w' : World} {v : Value} {l : List (Int × Int)} {row : Option Nat} (h : OwnP t base w v l) (hg : w.grownBy w' row) (hr : ∀ k, v.ownBlock = some k → row = some k → False) : OwnP t base w' v l := by
  refine World.ownsRow.kept h hg ?_
  cases hv : v.ownBlock with
  | none => exact .inl rfl
  | some k => exact .inr (fun e => hr k hv e.symm)

theorem set_grown (w : World) (p : Addr) (u : Value) : w.grownBy (w.setCell p u) (some p.block) :=
  ⟨rfl, rfl, rfl, by simp [World.setCell], fun i hi hne => Below.heap_setCell w p u i (fun e => hne (by rw [e]))⟩

theorem OwnP.setLow {t : TypeId} {base : Nat} {w : World} {v : Value} {l : List (Int × Int)} (h : OwnP t base w v l) {p : Addr} (hp : p.block < base) (u : Value) : OwnP t base (w.setCell p u) v l :=
  h.far (set_grown w p u) (fun k hk => by cases hk; exact hp)

theorem OwnP.len {t : TypeId} {base : Nat} {w : World} {g n cap : Nat} {G : List (Int × Int)} (h : OwnP t base w (.slice (some ⟨g, 0, none⟩) n cap) G) : n = G.length := by
  have ho : w.ownsRow base t 2 (.slice (some ⟨g, 0, none⟩) n cap) G.length (G.flatMap prc) := h
  rcases ho.2 with ⟨e, _⟩ | ⟨g', cap', cur, e, _⟩
  · cases e
  · injection e

theorem flat_set : ∀ (l : List (Int × Int)) (k : Nat) (x : Int × Int), k < l.length → (l.set k x).flatMap prc = ((l.flatMap prc).set (k * 2) (.int .i64 x.1)).set (k * 2 + 1) (.int .i64 x.2)
  | [], k, x, h => absurd h (by simp)
  | a :: l, 0, x, h => by simp [prc]
  | a :: l, k + 1, x, h => by
    have ih := flat_set l k x (by simpa using h)
    have e : (k + 1) * 2 = k * 2 + 1 + 1 := by omega
    rw [List.set_cons_succ, List.flatMap_cons, ih, List.flatMap_cons, e]
    simp [prc]

theorem OwnP.cell {t : TypeId} {base : Nat} {w : World} {g n cap : Nat} {G : List (Int × Int)} (h : OwnP t base w (.slice (some ⟨g, 0, none⟩) n cap) G) {q : Nat} (hq : q < G.length) :
    w.cell? ⟨g, q * 2, none⟩ = some (.int .i64 G[q].1) ∧ w.cell? ⟨g, q * 2 + 1, none⟩ = some (.int .i64 G[q].2) := by
  have e := h.len
  subst e
  have ho : w.ownsRow base t 2 (.slice (some ⟨g, 0, none⟩) G.length cap) G.length (G.flatMap prc) := h
  have g' := fun j hj => flat_get prc 2 (fun _ => rfl) G q j hq hj
  refine ⟨?_, ?_⟩
  · rw [ho.cellAt _ (by omega)]; have := g' 0 (by omega); rw [Nat.add_zero] at this; rw [this]; rfl
  · rw [ho.cellAt _ (by omega), g' 1 (by omega)]; rfl
theorem OwnP.frz {t : TypeId} {base : Nat} {w : World} {g n cap : Nat} {G : List (Int × Int)} (h : OwnP t base w (.slice (some ⟨g, 0, none⟩) n cap) G) (q : Nat) : w.frozen? ⟨g, q, none⟩ = false := by
  have e := h.len
  subst e
  have ho : w.ownsRow base t 2 (.slice (some ⟨g, 0, none⟩) G.length cap) G.length (G.flatMap prc) := h
  exact ho.frozenAt q
theorem OwnP.set_ {t : TypeId} {base : Nat} {w : World} {g n cap : Nat} {G : List (Int × Int)} (h : OwnP t base w (.slice (some ⟨g, 0, none⟩) n cap) G) {q : Nat} (hq : q < G.length) (x y : Int) :
    OwnP t base ((w.setCell ⟨g, q * 2, none⟩ (.int .i64 x)).setCell ⟨g, q * 2 + 1, none⟩ (.int .i64 y)) (.slice (some ⟨g, 0, none⟩) n cap) (G.set q (x, y)) := by
  have e := h.len
  subst e
  have ho : w.ownsRow base t 2 (.slice (some ⟨g, 0, none⟩) G.length cap) G.length (G.flatMap prc) := h
  have := ((ho.stored (q * 2) (.int .i64 x)).1.stored (q * 2 + 1) (.int .i64 y)).1
  unfold OwnP
  rw [List.length_set, flat_set G q (x, y) hq]
  exact this

theorem OwnP.snoc {t : TypeId} {base : Nat} {w : World} {v : Value} {l : List (Int × Int)} {x y : Int} (h : w.ownsRow base t 2 v (l.length + 1) (l.flatMap prc ++ [.int .i64 x, .int .i64 y])) : OwnP t base w v (l ++ [(x, y)]) := by
  unfold OwnP
  rw [List.length_append, List.flatMap_append]
  exact h

/-- The first k pairs are there, the rest is zero. -/
def fillP (l : List (Int × Int)) (k : Nat) : List (Int × Int) := l.take k ++ List.replicate (l.length - k) (0, 0)
theorem fillP_length (l : List (Int × Int)) (k : Nat) (h : k ≤ l.length) : (fillP l k).length = l.length := by simp [fillP]; omega
theorem fillP_zero (l : List (Int × Int)) : fillP l 0 = List.replicate l.length (0, 0) := by simp [fillP]
theorem fillP_all (l : List (Int × Int)) : fillP l l.length = l := by simp [fillP]
theorem fillP_succ (l : List (Int × Int)) (k : Nat) (h : k < l.length) : fillP l (k + 1) = (fillP l k).set k l[k] := by
  unfold fillP
  have e : l.length - k = (l.length - (k + 1)) + 1 := by omega
  rw [List.take_succ_eq_append_getElem h, List.set_append, if_neg (by simp; omega), e, List.replicate_succ]
  have hl : (List.take k l).length = k := by simp; omega
  rw [hl, Nat.sub_self, List.set_cons_zero, List.append_assoc, List.cons_append, List.nil_append]

theorem made2 (n : Nat) : (madeCells #[.int .i64 0, .int .i64 0] (n * 2)).toList = (List.replicate n ((0 : Int), (0 : Int))).flatMap prc := by
  apply List.ext_getElem?
  intro j
  by_cases hj : j < n * 2
  · have h1 := flat_get prc 2 (fun _ => rfl) (List.replicate n ((0 : Int), (0 : Int))) (j / 2) (j % 2) (by simp; omega) (by omega)
    rw [show j / 2 * 2 + j % 2 = j by omega] at h1
    rw [h1]
    simp only [madeCells, Array.toList_map, List.getElem?_map, Array.toList_range, List.getElem?_range hj, Option.map_some]
    show some (#[Value.int .i64 0, .int .i64 0][j % 2]!) = _
    have : j % 2 = 0 ∨ j % 2 = 1 := by omega
    rcases this with h | h <;> rw [h] <;> simp [prc]
  · rw [List.getElem?_eq_none (by simp [madeCells]; omega), List.getElem?_eq_none (by rw [flat_len prc 2 (fun _ => rfl)]; simp; omega)]

end Go.Proofs.YtbennlajjfkdpaaDoor
