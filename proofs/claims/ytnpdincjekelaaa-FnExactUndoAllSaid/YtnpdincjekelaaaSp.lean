/-
  Steps and drafts: read in memory, opened, measured.
-/
import Derived.Test.YtnpdincjekelaaaWin
import Derived.Test.YtnpdincjekelaaaOpenW
set_option linter.unusedSimpArgs false
set_option linter.unusedVariables false
namespace Go.Proofs.Ytnpdincjekelaaa
open Go.ChangeShapes Go.WideShapes Go.Deep Go.RowKit Go.Joins

/-- A step: its kind, two numbers, the window before. -/
structure Sp where
  k : Int
  a : Int
  b : Int
  ns : List (Int × Int)
  ls : List (Int × Int)

/-- At p lies a step. -/
def StepAt (w : World) (b o : Nat) (s : Sp) : Prop :=
  w.cell? ⟨b, o, none⟩ = some (.int .i64 s.k) ∧ w.cell? ⟨b, o + 1, none⟩ = some (.int .i64 s.a) ∧ w.cell? ⟨b, o + 2, none⟩ = some (.int .i64 s.b) ∧
    ∃ vn vl, w.cell? ⟨b, o + 3, none⟩ = some vn ∧ w.cell? ⟨b, o + 4, none⟩ = some vl ∧ RP w vn s.ns ∧ RP w vl s.ls

/-- v reads as the list of steps. -/
def RT (w : World) (v : Value) (l : List Sp) : Prop := ∃ A c, v = .slice A l.length c ∧ l.length ≤ c ∧ l.length ≤ maxLen ∧
  (0 < l.length → ∃ b off, A = some ⟨b, off, none⟩ ∧ b < w.heap.size ∧ ∀ k (hk : k < l.length), StepAt w b (off + k * 5) l[k])

theorem StepAt.below {w w' : World} {b o : Nat} {s : Sp} (h : StepAt w b o s) (hb : Below w.heap.size w w') (hl : b < w.heap.size) : StepAt w' b o s := by
  obtain ⟨h0, h1, h2, vn, vl, h3, h4, hn, hl'⟩ := h
  exact ⟨(hb.cell (p := ⟨b, o, none⟩) hl).trans h0, (hb.cell (p := ⟨b, o + 1, none⟩) hl).trans h1, (hb.cell (p := ⟨b, o + 2, none⟩) hl).trans h2, vn, vl,
    (hb.cell (p := ⟨b, o + 3, none⟩) hl).trans h3, (hb.cell (p := ⟨b, o + 4, none⟩) hl).trans h4, hn.below hb, hl'.below hb⟩

theorem RT.below {w w' : World} {v : Value} {l : List Sp} (h : RT w v l) (hb : Below w.heap.size w w') : RT w' v l := by
  obtain ⟨A, c, h1, h2, h3, h4⟩ := h
  refine ⟨A, c, h1, h2, h3, fun hp => ?_⟩
  obtain ⟨b, off, g1, g2, g3⟩ := h4 hp
  have := hb.size
  exact ⟨b, off, g1, by omega, fun k hk => (g3 k hk).below hb g2⟩

theorem RT.nil (w : World) : RT w (.slice none 0 0) [] := ⟨none, 0, rfl, Nat.le_refl _, Nat.zero_le _, fun h => absurd h (by simp)⟩

/-- A draft: two windows and the steps. -/
structure Dr where
  fn : List (Int × Int)
  fl : List (Int × Int)
  nn : List (Int × Int)
  nl : List (Int × Int)
  ss : List Sp

/-- Five values read as a draft. -/
structure RD (w : World) (a b c d e : Value) (D : Dr) : Prop where
  fn : RP w a D.fn
  fl : RP w b D.fl
  nn : RP w c D.nn
  nl : RP w d D.nl
  ss : RT w e D.ss

theorem RD.below {w w' : World} {a b c d e : Value} {D : Dr} (h : RD w a b c d e D) (hb : Below w.heap.size w w') : RD w' a b c d e D :=
  ⟨h.fn.below hb, h.fl.below hb, h.nn.below hb, h.nl.below hb, h.ss.below hb⟩

section
variable {H : Type} {enc : TypeId × Value → H} {w : World} {base : Nat} {spare : Nat → Bool} {held : Bool}
set_option maxRecDepth 100000 in
theorem trod_window {n : Nat} {v0 v1 : Value} {x : DataW H × List MemPlace} (h : DataW.trod enc Try.prog w base spare held n 45 [v0, v1] = some x) :
    ∃ ns ls, RP w v0 ns ∧ RP w v1 ls := by
  obtain ⟨ys, m, _, _, _, hyl, hf⟩ := DataW.trod_struct Try.underlying45 h
  have hyl' : ys.length = 2 := hyl
  have h0 : DataW.trod enc Try.prog w base spare held m 42 (List.take (Try.prog.cellsOf 42) (List.drop 0 [v0, v1])) = ys[0]? := hf 0 _ rfl
  have h1 : DataW.trod enc Try.prog w base spare held m 43 (List.take (Try.prog.cellsOf 43) (List.drop 1 [v0, v1])) = ys[1]? := hf 1 _ rfl
  rw [List.getElem?_eq_getElem (show 0 < ys.length by omega)] at h0
  rw [List.getElem?_eq_getElem (show 1 < ys.length by omega)] at h1
  have c0 : Try.prog.cellsOf 42 = 1 := by kernel_rfl
  have c1 : Try.prog.cellsOf 43 = 1 := by kernel_rfl
  simp only [c0, c1, List.drop_zero, List.drop_succ_cons, List.take_succ_cons, List.take_zero] at h0 h1
  obtain ⟨ns, hns⟩ := open_pairs Try.underlying42 Try.underlying112 (by kernel_rfl) (by kernel_rfl) Try.underlying3 Try.underlying3 h0
  obtain ⟨ls, hls⟩ := open_pairs Try.underlying43 Try.underlying114 (by kernel_rfl) (by kernel_rfl) Try.underlying3 Try.underlying3 h1
  exact ⟨ns, ls, hns, hls⟩

theorem list5 {α : Type} {l : List α} (h : l.length = 5) : ∃ a b c d e, l = [a, b, c, d, e] := by
  match l, h with
  | [a, b, c, d, e], _ => exact ⟨a, b, c, d, e, rfl⟩

set_option maxRecDepth 100000 in
theorem trod_step {n : Nat} {cs : List Value} {x : DataW H × List MemPlace} (h : DataW.trod enc Try.prog w base spare held n 121 cs = some x) :
    ∃ (k a b : Int) (vn vl : Value) (ns ls : List (Int × Int)), cs = [.int .i64 k, .int .i64 a, .int .i64 b, vn, vl] ∧ RP w vn ns ∧ RP w vl ls := by
  obtain ⟨ys, m, _, _, hcl, hyl, hf⟩ := DataW.trod_struct Try.underlying121 h
  have hC : Try.prog.cellsOf 121 = 5 := by kernel_rfl
  rw [hC] at hcl
  obtain ⟨u0, u1, u2, u3, u4, rfl⟩ := list5 hcl
  have hyl' : ys.length = 4 := hyl
  have h0 : DataW.trod enc Try.prog w base spare held m 3 (List.take (Try.prog.cellsOf 3) (List.drop 0 [u0, u1, u2, u3, u4])) = ys[0]? := hf 0 _ rfl
  have h1 : DataW.trod enc Try.prog w base spare held m 3 (List.take (Try.prog.cellsOf 3) (List.drop 1 [u0, u1, u2, u3, u4])) = ys[1]? := hf 1 _ rfl
  have h2 : DataW.trod enc Try.prog w base spare held m 3 (List.take (Try.prog.cellsOf 3) (List.drop 2 [u0, u1, u2, u3, u4])) = ys[2]? := hf 2 _ rfl
  have h3 : DataW.trod enc Try.prog w base spare held m 45 (List.take (Try.prog.cellsOf 45) (List.drop 3 [u0, u1, u2, u3, u4])) = ys[3]? := hf 3 _ rfl
  rw [List.getElem?_eq_getElem (show 0 < ys.length by omega)] at h0
  rw [List.getElem?_eq_getElem (show 1 < ys.length by omega)] at h1
  rw [List.getElem?_eq_getElem (show 2 < ys.length by omega)] at h2
  rw [List.getElem?_eq_getElem (show 3 < ys.length by omega)] at h3
  have c0 : Try.prog.cellsOf 3 = 1 := by kernel_rfl
  have c1 : Try.prog.cellsOf 45 = 2 := by kernel_rfl
  simp only [c0, c1, List.drop_zero, List.drop_succ_cons, List.take_succ_cons, List.take_zero] at h0 h1 h2 h3
  obtain ⟨k, e0, _, _⟩ := DataW.trod_int Try.underlying3 h0
  obtain ⟨a, e1, _, _⟩ := DataW.trod_int Try.underlying3 h1
  obtain ⟨b, e2, _, _⟩ := DataW.trod_int Try.underlying3 h2
  obtain ⟨ns, ls, hn, hl⟩ := trod_window h3
  simp at e0 e1 e2
  subst e0 e1 e2
  exact ⟨k, a, b, u3, u4, ns, ls, rfl, hn, hl⟩

theorem pick_list {α : Type} {Q : Nat → α → Prop} : ∀ (n : Nat), (∀ i, i < n → ∃ x, Q i x) → ∃ l : List α, l.length = n ∧ ∀ i (hi : i < l.length), Q i l[i]
  | 0, _ => ⟨[], rfl, fun i hi => absurd hi (by simp)⟩
  | n + 1, h => by
    obtain ⟨l, hl, hq⟩ := pick_list n (fun i hi => h i (by omega))
    obtain ⟨x, hx⟩ := h n (by omega)
    refine ⟨l ++ [x], by simp [hl], fun i hi => ?_⟩
    by_cases hin : i < l.length
    · rw [List.getElem_append_left hin]; exact hq i hin
    · have : i = l.length := by simp at hi; omega
      subst this
      simp only [List.getElem_append_right (Nat.le_refl _), Nat.sub_self, List.getElem_cons_zero]
      rw [hl]
      exact hx

set_option maxRecDepth 100000 in
theorem trod_steps {n : Nat} {v : Value} {x : DataW H × List MemPlace} (h : DataW.trod enc Try.prog w base spare held n 52 [v] = some x) : ∃ l : List Sp, RT w v l := by
  rcases open_slice Try.underlying52 h with ⟨hcs, _⟩ | ⟨a, len, cap, m, n', D, Pl, hcs, hb, hl, hm, hmm, hx, hi⟩
  · simp only [List.cons.injEq, and_true] at hcs
    subst hcs
    exact ⟨[], RT.nil w⟩
  · simp only [List.cons.injEq, and_true] at hcs
    subst hcs
    have hlm : len ≤ m := by rw [hmm]; split <;> omega
    have hC : Try.prog.cellsOf 121 = 5 := by kernel_rfl
    obtain ⟨b, off, sp⟩ := a
    have hsp : 0 < len → sp = none := by
      intro hpos
      obtain ⟨cs', hc, ht'⟩ := hi 0 (by omega)
      rw [hC] at hc
      obtain ⟨k, a', b', vn, vl, ns, ls, rfl, hn, hl'⟩ := trod_step ht'
      obtain ⟨_, hcl, hat⟩ := World.cells?_some hc
      have g0 := hat 0 (by omega)
      have e0 : ((⟨b, off, sp⟩ : Addr).add (0 * 5)).add 0 = ⟨b, off, sp⟩ := by simp [Addr.add]
      rw [e0] at g0
      cases hs : sp with
      | none => rfl
      | some s =>
        rw [hs] at g0
        unfold World.cell? at g0
        split at g0
        · simp at g0
        · simp at g0
    have key : ∀ i, i < len → ∃ s : Sp, sp = none ∧ b < w.heap.size ∧ StepAt w b (off + i * 5) s := by
      intro i hil
      obtain ⟨cs', hc, ht'⟩ := hi i (by omega)
      rw [hC] at hc
      obtain ⟨k, a', b', vn, vl, ns, ls, rfl, hn, hl'⟩ := trod_step ht'
      obtain ⟨_, hcl, hat⟩ := World.cells?_some hc
      have g0 := hat 0 (by omega)
      have hsp' := hsp (by omega)
      subst hsp'
      have hadd : ∀ (o k : Nat), (⟨b, o, none⟩ : Addr).add k = ⟨b, o + k, none⟩ := by
        intro o k
        unfold Addr.add
        split <;> simp_all
      have g1 := hat 1 (by omega)
      have g2 := hat 2 (by omega)
      have g3 := hat 3 (by omega)
      have g4 := hat 4 (by omega)
      simp only [hadd, Nat.add_zero, List.getElem?_cons_zero, List.getElem?_cons_succ] at g0 g1 g2 g3 g4
      exact ⟨⟨k, a', b', ns, ls⟩, rfl, World.block_lt_of_cell? w _ g0, g0, g1, g2, vn, vl, g3, g4, hn, hl'⟩
    obtain ⟨l, hll, hq⟩ := pick_list len key
    refine ⟨l, some ⟨b, off, sp⟩, cap, by rw [hll], by omega, by omega, fun hpos => ?_⟩
    obtain ⟨rfl, hbl, _⟩ := hq 0 hpos
    exact ⟨b, off, rfl, hbl, fun k hk => (hq k hk).2.2⟩

set_option maxRecDepth 100000 in
/-- A draft that came in. -/
theorem open_draft {v : Value} {d : DataW H} {p : List MemPlace} (hval : Value.okWide Try.prog w .any base 54 v) (h : DataW.Trod enc Try.prog w 0 spare held 54 v d p) :
    ∃ v0 v1 v2 v3 v4 D, v = .agg #[v0, v1, v2, v3, v4] ∧ RD w v0 v1 v2 v3 v4 D := by
  obtain ⟨cs, rfl, hsz⟩ := okWide_struct Try.underlying54 hval
  have hC : Try.prog.cellsOf 54 = 5 := by kernel_rfl
  rw [hC] at hsz
  obtain ⟨fuel, hf⟩ := h
  obtain ⟨ys, m, _, _, hcl, hyl, hf⟩ := DataW.trod_struct Try.underlying54 hf
  obtain ⟨cs⟩ := cs
  obtain ⟨u0, u1, u2, u3, u4, rfl⟩ := list5 (show cs.length = 5 from hsz)
  have hyl' : ys.length = 3 := hyl
  have h0 : DataW.trod enc Try.prog w 0 spare held m 45 (List.take (Try.prog.cellsOf 45) (List.drop 0 [u0, u1, u2, u3, u4])) = ys[0]? := hf 0 _ rfl
  have h1 : DataW.trod enc Try.prog w 0 spare held m 45 (List.take (Try.prog.cellsOf 45) (List.drop 2 [u0, u1, u2, u3, u4])) = ys[1]? := hf 1 _ rfl
  have h2 : DataW.trod enc Try.prog w 0 spare held m 52 (List.take (Try.prog.cellsOf 52) (List.drop 4 [u0, u1, u2, u3, u4])) = ys[2]? := hf 2 _ rfl
  rw [List.getElem?_eq_getElem (show 0 < ys.length by omega)] at h0
  rw [List.getElem?_eq_getElem (show 1 < ys.length by omega)] at h1
  rw [List.getElem?_eq_getElem (show 2 < ys.length by omega)] at h2
  have c0 : Try.prog.cellsOf 52 = 1 := by kernel_rfl
  have c1 : Try.prog.cellsOf 45 = 2 := by kernel_rfl
  simp only [c0, c1, Value.cells, List.drop_zero, List.drop_succ_cons, List.take_succ_cons, List.take_zero] at h0 h1 h2
  obtain ⟨fn, fl, hfn, hfl⟩ := trod_window h0
  obtain ⟨nn, nl, hnn, hnl⟩ := trod_window h1
  obtain ⟨ss, hss⟩ := trod_steps h2
  exact ⟨u0, u1, u2, u3, u4, ⟨fn, fl, nn, nl, ss⟩, rfl, hfn, hfl, hnn, hnl, hss⟩
end

end Go.Proofs.Ytnpdincjekelaaa
