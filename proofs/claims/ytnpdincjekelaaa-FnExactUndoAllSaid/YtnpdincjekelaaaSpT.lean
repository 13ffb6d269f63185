/-
  Steps that a call owns; measured, converted, compared.
-/
import Derived.Test.YtnpdincjekelaaaSp
import Derived.Test.YtnpdincjekelaaaMarkW
import Derived.Test.YtnpdincjekelaaaWinP
import Derived.Test.YtnpdincjekelaaaSame
import Derived.OwnWalk
import Derived.StillTailTactics
set_option linter.unusedSimpArgs false
set_option linter.unusedVariables false
namespace Go.Proofs.Ytnpdincjekelaaa
open Go.RowKit

/-- A step with the values of its window. -/
abbrev SF := Sp × Value × Value

def sfc (f : SF) : List Value := [.int .i64 f.1.k, .int .i64 f.1.a, .int .i64 f.1.b, f.2.1, f.2.2]

/-- The steps lie in a block of their own, their windows too, all apart. -/
structure OwnT (base : Nat) (w : World) (v : Value) (fs : List SF) : Prop where
  row : w.ownsRow base 94 5 v fs.length (fs.flatMap sfc)
  win : ∀ k (hk : k < fs.length), OwnW base w fs[k].2.1 fs[k].2.2 fs[k].1.ns fs[k].1.ls
  rw_ : ∀ k (hk : k < fs.length) b, v.ownBlock = some b → ¬ blksW fs[k].2.1 fs[k].2.2 b
  ww : ∀ i j (hi : i < fs.length) (hj : j < fs.length), i ≠ j → ∀ b, blksW fs[i].2.1 fs[i].2.2 b → ¬ blksW fs[j].2.1 fs[j].2.2 b

/-- The blocks of a list of steps. -/
def blksT (v : Value) (fs : List SF) (b : Nat) : Prop := v.ownBlock = some b ∨ ∃ k, ∃ hk : k < fs.length, blksW fs[k].2.1 fs[k].2.2 b

section
variable {base : Nat} {w w' : World} {v : Value} {fs : List SF}
theorem OwnT.form (h : OwnT base w v fs) : ∃ A c, v = .slice A fs.length c := by
  rcases h.row.2 with ⟨rfl, hn⟩ | ⟨g, cap, cur, rfl, _⟩
  · exact ⟨none, 0, by rw [hn]⟩
  · exact ⟨_, _, rfl⟩

theorem OwnT.lt (h : OwnT base w v fs) (b : Nat) (hb : blksT v fs b) : base ≤ b ∧ b < w.heap.size := by
  rcases hb with hb | ⟨k, hk, hb⟩
  · exact World.ownsRow.lt h.row b hb
  · exact (h.win k hk).lt b hb

theorem OwnT.turned {S : Nat → Prop} (h : OwnT base w v fs) (hb : Turns S w w') (hs : ∀ b, blksT v fs b → ¬ S b) : OwnT base w' v fs :=
  ⟨own_turned h.row hb (fun b hb => hs b (.inl hb)), fun k hk => (h.win k hk).turned hb (fun b hb => hs b (.inr ⟨k, hk, hb⟩)), h.rw_, h.ww⟩

theorem OwnT.kept (h : OwnT base w v fs) (hb : Below w.heap.size w w') : OwnT base w' v fs :=
  h.turned (S := fun _ => False) (Turns.ofBelow hb) (fun _ _ h => h)

theorem OwnT.alloc (h : OwnT base w v fs) (o : Obj) : OwnT base (w.alloc o) v fs := h.kept ((Below.refl _ _).alloc (Nat.le_refl _) o)

theorem OwnT.mono {base' : Nat} (h : OwnT base w v fs) (hb : base' ≤ base) : OwnT base' w v fs := by
  refine ⟨?_, fun k hk => (h.win k hk).mono hb, h.rw_, h.ww⟩
  obtain ⟨h1, h2⟩ := h.row
  refine ⟨h1, ?_⟩
  rcases h2 with h2 | ⟨g, cap, cur, e1, e2, e3⟩
  · exact .inl h2
  · exact .inr ⟨g, cap, cur, e1, Nat.le_trans hb e2, e3⟩

theorem OwnT.nil (base : Nat) (w : World) : OwnT base w (.slice none 0 0) [] :=
  ⟨World.ownsRow_nil _ _ _ _, fun k hk => absurd hk (by simp), fun k hk => absurd hk (by simp), fun i j hi => absurd hi (by simp)⟩

theorem OwnT.setLow (h : OwnT base w v fs) {p : Addr} (hp : p.block < base) (u : Value) : OwnT base (w.setCell p u) v fs :=
  h.turned (S := fun b => b = p.block) (Turns.ofGrown (set_grown w p u) (fun k hk => by cases hk; rfl)) (fun b hb e => by have := (h.lt b hb).1; omega)

theorem OwnW.alloc' {vn vl : Value} {ns ls : List Pr} (h : OwnW base w vn vl ns ls) (o : Obj) : OwnW base (w.alloc o) vn vl ns ls := h.kept ((Below.refl _ _).alloc (Nat.le_refl _) o)

theorem OwnT.reads (h : OwnT base w v fs) : RT w v (fs.map Prod.fst) := by
  obtain ⟨h0, A, c, rfl, h1, h2, h3⟩ := own_reads h.row
  refine ⟨A, c, by simp, by simpa using h1, by simpa using h2, fun hp => ?_⟩
  obtain ⟨b, off, e1, e2, e3⟩ := h3 (by simpa using hp)
  refine ⟨b, off, e1, e2, fun k hk => ?_⟩
  have hk' : k < fs.length := by simpa using hk
  have g := fun j hj => flat_get sfc 5 (fun _ => rfl) fs k j hk' hj
  have c0 := e3 (k * 5 + 0) _ (by rw [g 0 (by omega)]; rfl)
  have c1 := e3 (k * 5 + 1) _ (by rw [g 1 (by omega)]; rfl)
  have c2 := e3 (k * 5 + 2) _ (by rw [g 2 (by omega)]; rfl)
  have c3 := e3 (k * 5 + 3) _ (by rw [g 3 (by omega)]; rfl)
  have c4 := e3 (k * 5 + 4) _ (by rw [g 4 (by omega)]; rfl)
  simp only [← Nat.add_assoc, Nat.add_zero] at c0 c1 c2 c3 c4
  have hw := h.win k hk'
  simp only [List.getElem_map]
  exact ⟨c0, c1, c2, _, _, c3, c4, hw.1.reads, hw.2.1.reads⟩
end

theorem flat_setT : ∀ (l : List SF) (k j : Nat) (u : Value) (f : SF) (hk : k < l.length), j < 5 → (sfc l[k]).set j u = sfc f → (l.flatMap sfc).set (k * 5 + j) u = (l.set k f).flatMap sfc
  | [], k, _, _, _, h, _, _ => absurd h (by simp)
  | a :: l, 0, j, u, f, h, hj, he => by
    rw [List.set_cons_zero, List.flatMap_cons, List.flatMap_cons, ← he, List.set_append, if_pos (by simp [sfc]; omega)]
    simp
  | a :: l, k + 1, j, u, f, h, hj, he => by
    have ih := flat_setT l k j u f (by simpa using h) hj he
    rw [List.set_cons_succ, List.flatMap_cons, List.flatMap_cons, ← ih, List.set_append, if_neg (by simp [sfc]; omega)]
    have e : (k + 1) * 5 + j - (sfc a).length = k * 5 + j := by simp [sfc]; omega
    rw [e]

/-- One step of the row is another now. -/
theorem OwnT.put {base : Nat} {w w' : World} {g c n m : Nat} {fs : List SF} (h : OwnT base w (.slice (some ⟨g, 0, none⟩) n c) fs) {q : Nat} {f : SF} (hq : q < fs.length) (hm : m = fs.length)
    (hrow : w'.ownsRow base 94 5 (.slice (some ⟨g, 0, none⟩) n c) m ((fs.set q f).flatMap sfc)) (ht : Turns (fun b => b = g) w w') (hf : OwnW base w f.2.1 f.2.2 f.1.ns f.1.ls)
    (hg : ¬ blksW f.2.1 f.2.2 g) (ha : ∀ j (hj : j < fs.length), j ≠ q → ∀ b, blksW f.2.1 f.2.2 b → ¬ blksW fs[j].2.1 fs[j].2.2 b) :
    OwnT base w' (.slice (some ⟨g, 0, none⟩) n c) (fs.set q f) := by
  subst hm
  refine ⟨by rw [List.length_set]; exact hrow, ?_, ?_, ?_⟩
  · intro k hk
    rw [List.length_set] at hk
    rw [List.getElem_set]
    split
    · exact hf.turned ht (fun b hb e => by subst e; exact hg hb)
    · exact (h.win k hk).turned ht (fun b hb e => by subst e; exact h.rw_ k hk b rfl hb)
  · intro k hk b hb
    rw [List.length_set] at hk
    rw [List.getElem_set]
    split
    · have : g = b := by simpa [Value.ownBlock] using hb
      subst this
      exact hg
    · exact h.rw_ k hk b hb
  · intro i j hi hj hne b
    rw [List.length_set] at hi hj
    rw [List.getElem_set, List.getElem_set]
    split
    · rename_i e1
      rw [if_neg (by omega)]
      exact ha j hj (by omega) b
    · rename_i e1
      split
      · intro hb hb'
        exact ha i hi (by omega) b hb' hb
      · exact h.ww i j hi hj hne b

/-- What is left of a bound behind a list of steps. -/
def szTf (n : Int) : List Sp → Int
  | [] => n
  | s :: r => if szW n s.ns.length s.ls.length < 0 then -1 else szTf (szW n s.ns.length s.ls.length) r
def szT (n : Int) (l : List Sp) : Int := if n - l.length < 0 then -1 else szTf (n - l.length) l

theorem szTf_neg : ∀ (l : List Sp) (n : Int), 0 ≤ n → szTf n l < 0 → szTf n l = -1
  | [], n, h0, h => by unfold szTf at h; omega
  | s :: r, n, h0, h => by
    unfold szTf at h ⊢
    split
    · rfl
    · rename_i hc
      rw [if_neg hc] at h
      exact szTf_neg r _ (by omega) h

theorem szT_neg (l : List Sp) (n : Int) (h : szT n l < 0) : szT n l = -1 := by
  unfold szT at h ⊢
  split
  · rfl
  · rename_i hc
    rw [if_neg hc] at h
    exact szTf_neg l _ (by omega) h

theorem szW_val {n : Int} {a b : Nat} (h : ¬ szW n a b < 0) : szW n a b = n - a - b ∧ (a : Int) + b ≤ n := by
  unfold szW at h ⊢
  split
  · rename_i h1; rw [if_pos h1] at h; omega
  · rename_i h1
    rw [if_neg h1] at h
    split
    · rename_i h2; rw [if_pos h2] at h; omega
    · omega

/-- The numbers of a list of steps. -/
def sumT : List Sp → Nat
  | [] => 0
  | s :: r => s.ns.length + s.ls.length + sumT r

theorem szTf_val : ∀ (l : List Sp) (n : Int), ¬ szTf n l < 0 → szTf n l = n - sumT l
  | [], n, h => by simp [szTf, sumT]
  | s :: r, n, h => by
    unfold szTf at h ⊢
    split
    · rename_i hc; rw [if_pos hc] at h; omega
    · rename_i hc
      rw [if_neg hc] at h
      rw [szTf_val r _ h, (szW_val hc).1]
      simp only [sumT]
      omega

theorem szT_val {l : List Sp} {n : Int} (h : ¬ szT n l < 0) : szT n l = n - l.length - sumT l := by
  unfold szT at h ⊢
  split
  · rename_i hc; rw [if_pos hc] at h; omega
  · rename_i hc
    rw [if_neg hc] at h
    exact szTf_val l _ h

theorem sumT_ge : ∀ (l : List Sp) (k : Nat) (hk : k < l.length), l[k].ns.length + l[k].ls.length ≤ sumT l
  | [], k, hk => absurd hk (by simp)
  | s :: r, 0, hk => by simp [sumT]
  | s :: r, k + 1, hk => by
    have := sumT_ge r k (by simpa using hk)
    simp only [List.getElem_cons_succ, sumT]
    omega

set_option maxHeartbeats 2000000 in
set_option maxRecDepth 100000 in
theorem szStep_at (k a b : Int) (vn vl : Value) (ns ls : List Pr) (n x : Int) (w : World) (hn : RP w vn ns) (hl : RP w vl ls) (h0 : 0 ≤ n) (h1 : n ≤ 1000000000) (hx : Hid (szW n ns.length ls.length = x)) :
    Calls Try.prog 108 #[.agg #[.int .i64 k, .int .i64 a, .int .i64 b, vn, vl], .int .i64 n] w fun e w' => e = .returned (.int .i64 x) ∧ Below w.heap.size w w' := by
  by_cases hx0 : x < 0
  · have hx1 : x = -1 := by
      have := hx.out
      unfold szW at this
      split at this
      · omega
      · split at this <;> omega
    subst hx1
    go_enter Try.func108, Try.ntmps108
    go_wp2_with fail
    refine (szWindow_at _ _ ns ls n (-1) _ (hn.below (by (repeat' (first | (with_reducible exact Below.refl _ _) | (with_reducible assumption) | (with_reducible refine Below.drew ?_) | (with_reducible refine below_drewN ?_ _) | (with_reducible refine Below.alloc ?_ ?_ _) | (with_reducible refine Below.setCell ?_ ?_ _) | (with_reducible refine Below.step (by assumption) ?_ ?_))); all_goals (first | omega | (simp; done) | (simp; omega)))) (hl.below (by (repeat' (first | (with_reducible exact Below.refl _ _) | (with_reducible assumption) | (with_reducible refine Below.drew ?_) | (with_reducible refine below_drewN ?_ _) | (with_reducible refine Below.alloc ?_ ?_ _) | (with_reducible refine Below.setCell ?_ ?_ _) | (with_reducible refine Below.step (by assumption) ?_ ?_))); all_goals (first | omega | (simp; done) | (simp; omega)))) h0 h1 hx).mono ?_
    rintro e w1 ⟨rfl, hb1⟩; (first | (with_reducible have hcf1 := bcell_drew hb1) | have hcf1 := bcell hb1); obtain ⟨hc1, hf1⟩ := hcf1; have hz1 := hb1.size; (try simp at hz1); (try have hp1_0 : w.heap.size < w1.heap.size := by omega); (try have hp1_1 : w.heap.size + 1 < w1.heap.size := by omega); (try have hp1_2 : w.heap.size + 1 + 1 < w1.heap.size := by omega); (try have hp1_3 : w.heap.size + 1 + 1 + 1 < w1.heap.size := by omega)
    go_wp2
    go_ret
    exact ⟨rfl, by (repeat' (first | (with_reducible exact Below.refl _ _) | (with_reducible assumption) | (with_reducible refine Below.drew ?_) | (with_reducible refine below_drewN ?_ _) | (with_reducible refine Below.alloc ?_ ?_ _) | (with_reducible refine Below.setCell ?_ ?_ _) | (with_reducible refine Below.step (by assumption) ?_ ?_))); all_goals (first | omega | (simp; done) | (simp; omega))⟩
  · go_enter Try.func108, Try.ntmps108
    go_wp2_with fail
    refine (szWindow_at _ _ ns ls n x _ (hn.below (by (repeat' (first | (with_reducible exact Below.refl _ _) | (with_reducible assumption) | (with_reducible refine Below.drew ?_) | (with_reducible refine below_drewN ?_ _) | (with_reducible refine Below.alloc ?_ ?_ _) | (with_reducible refine Below.setCell ?_ ?_ _) | (with_reducible refine Below.step (by assumption) ?_ ?_))); all_goals (first | omega | (simp; done) | (simp; omega)))) (hl.below (by (repeat' (first | (with_reducible exact Below.refl _ _) | (with_reducible assumption) | (with_reducible refine Below.drew ?_) | (with_reducible refine below_drewN ?_ _) | (with_reducible refine Below.alloc ?_ ?_ _) | (with_reducible refine Below.setCell ?_ ?_ _) | (with_reducible refine Below.step (by assumption) ?_ ?_))); all_goals (first | omega | (simp; done) | (simp; omega)))) h0 h1 hx).mono ?_
    rintro e w1 ⟨rfl, hb1⟩; (first | (with_reducible have hcf1 := bcell_drew hb1) | have hcf1 := bcell hb1); obtain ⟨hc1, hf1⟩ := hcf1; have hz1 := hb1.size; (try simp at hz1); (try have hp1_0 : w.heap.size < w1.heap.size := by omega); (try have hp1_1 : w.heap.size + 1 < w1.heap.size := by omega); (try have hp1_2 : w.heap.size + 1 + 1 < w1.heap.size := by omega); (try have hp1_3 : w.heap.size + 1 + 1 + 1 < w1.heap.size := by omega)
    go_wp2
    go_ret
    exact ⟨rfl, by (repeat' (first | (with_reducible exact Below.refl _ _) | (with_reducible assumption) | (with_reducible refine Below.drew ?_) | (with_reducible refine below_drewN ?_ _) | (with_reducible refine Below.alloc ?_ ?_ _) | (with_reducible refine Below.setCell ?_ ?_ _) | (with_reducible refine Below.step (by assumption) ?_ ?_))); all_goals (first | omega | (simp; done) | (simp; omega))⟩

set_option maxHeartbeats 4000000 in
set_option maxRecDepth 100000 in
theorem szStepS_at (v : Value) (l : List Sp) (n x : Int) (w : World) (h : RT w v l) (h0 : 0 ≤ n) (h1 : n ≤ 1000000000) (hx : Hid (szT n l = x)) :
    Calls Try.prog 74 #[v, .int .i64 n] w fun e w' => e = .returned (.int .i64 x) ∧ Below w.heap.size w w' := by
  obtain ⟨A, c, rfl, hc, hm, hcell⟩ := h
  unfold maxLen at hm
  by_cases hneg : n - (l.length : Int) < 0
  · have e : x = -1 := by rw [← hx.out]; unfold szT; rw [if_pos hneg]
    subst e
    clear hx hcell
    go_enter Try.func74, Try.ntmps74
    go_wp2
    go_ret
    exact ⟨rfl, Below.refl _ _⟩
  · have hx' : szTf (n - l.length) l = x := by rw [← hx.out]; unfold szT; rw [if_neg hneg]
    have HX := Lib.hid hx'
    clear hx hx'
    go_enter Try.func74, Try.ntmps74
    go_wp2
    go_loopw [1, 5] (fun y i wr => ∃ (k : Nat) (m : Int), k ≤ l.length ∧ i = .int .i64 k ∧ y = .int .i64 m ∧ 0 ≤ m ∧ m ≤ 1000000000 ∧ Hid (szTf m (l.drop k) = x) ∧ Below w.heap.size w wr) (fun _ i _ => l.length - (intOf i).toNat)
    case atStart => exact ⟨0, _, Nat.zero_le _, rfl, rfl, by omega, by omega, Lib.hid (by simpa using HX.out), Below.refl _ _⟩
    case round =>
      obtain ⟨k, m, hk, rfl, rfl, hm0, hm1, HT, hbl⟩ := hrel
      have hsz := hbl.size
      by_cases hlt : k < l.length
      · obtain ⟨b, off, rfl, hb, hcl⟩ := hcell (by omega)
        obtain ⟨k0, k1, k2, vn, vl, k3, k4, hn, hl⟩ := hcl k hlt
        have q0 := (hbl.cell (p := ⟨b, off + k * 5, none⟩) hb).trans k0
        have q1 := (hbl.cell (p := ⟨b, off + k * 5 + 1, none⟩) hb).trans k1
        have q2 := (hbl.cell (p := ⟨b, off + k * 5 + 2, none⟩) hb).trans k2
        have q3 := (hbl.cell (p := ⟨b, off + k * 5 + 3, none⟩) hb).trans k3
        have q4 := (hbl.cell (p := ⟨b, off + k * 5 + 4, none⟩) hb).trans k4
        have hn' := hn.below hbl
        have hl' := hl.below hbl
        have HT' := HT.out
        rw [List.drop_eq_getElem_cons hlt] at HT'
        unfold szTf at HT'
        obtain ⟨y, hy⟩ : ∃ y, szW m l[k].ns.length l[k].ls.length = y := ⟨_, rfl⟩
        have HY := Lib.hid hy
        rw [hy] at HT'
        clear k0 k1 k2 k3 k4 hcl hcell hn hl HT
        by_cases hy0 : y < 0
        · rw [if_pos hy0] at HT'
          subst HT'
          clear hy
          go_wp2_with fail
          refine (szStep_at _ _ _ _ _ _ _ m y _ hn' hl' hm0 hm1 HY).mono ?_
          rintro e w2 ⟨rfl, hb2⟩
          have hbl2 : Below w.heap.size w w2 := hbl.trans (hb2.mono hsz)
          clear hb2
          go_wp2
          go_ret
          exact ⟨rfl, hbl2⟩
        · rw [if_neg hy0] at HT'
          have HT2 := Lib.hid HT'
          have hyv := (szW_val (by rw [hy]; exact hy0)).1
          rw [hy] at hyv
          clear hy HT'
          go_wp2_with fail
          refine (szStep_at _ _ _ _ _ _ _ m y _ hn' hl' hm0 hm1 HY).mono ?_
          rintro e w2 ⟨rfl, hb2⟩
          have hbl2 : Below w.heap.size w w2 := hbl.trans (hb2.mono hsz)
          clear hb2
          have hy1 : y ≤ 1000000000 := by omega
          have hy2 : 0 ≤ y := by omega
          clear hyv
          go_wp2
          go_roundw
          case rel => exact ⟨k + 1, y, by omega, by go_num, rfl, hy2, hy1, HT2, hbl2⟩
          case measure => simp [intOf]; omega
      · have hkk : k = l.length := by omega
        subst hkk
        have e := HT.out
        rw [List.drop_length] at e
        unfold szTf at e
        subst e
        clear hcell HT HX
        go_wp2
        go_ret
        exact ⟨rfl, hbl⟩

/-- A call returns a step in new memory. -/
def RetSt (k a b : Int) (ns ls : List Pr) (w : World) (e : Ending) (w' : World) : Prop := ∃ An cn Al cl, e = .returned (.agg #[.int .i64 k, .int .i64 a, .int .i64 b, .slice An ns.length cn, .slice Al ls.length cl]) ∧ OwnW w.heap.size w' (.slice An ns.length cn) (.slice Al ls.length cl) ns ls ∧ Below w.heap.size w w'

set_option maxHeartbeats 4000000 in
set_option maxRecDepth 100000 in
theorem toStep_any (k a b : Int) (vn vl : Value) (ns ls : List Pr) (w : World) (hn : RP w vn ns) (hl : RP w vl ls) (h1 : ns.length ≤ 1048576) (h2 : ls.length ≤ 1048576) :
    Calls Try.prog 109 #[.agg #[.int .i64 k, .int .i64 a, .int .i64 b, vn, vl]] w (RetSt k a b ns ls w) := by
  go_enter Try.func109, Try.ntmps109
  go_wp2_with fail
  refine (toWindow_any _ _ ns ls _ (hn.below (by (repeat' (first | (with_reducible exact Below.refl _ _) | (with_reducible assumption) | (with_reducible refine Below.drew ?_) | (with_reducible refine below_drewN ?_ _) | (with_reducible refine Below.alloc ?_ ?_ _) | (with_reducible refine Below.setCell ?_ ?_ _) | (with_reducible refine Below.step (by assumption) ?_ ?_))); all_goals (first | omega | (simp; done) | (simp; omega)))) (hl.below (by (repeat' (first | (with_reducible exact Below.refl _ _) | (with_reducible assumption) | (with_reducible refine Below.drew ?_) | (with_reducible refine below_drewN ?_ _) | (with_reducible refine Below.alloc ?_ ?_ _) | (with_reducible refine Below.setCell ?_ ?_ _) | (with_reducible refine Below.step (by assumption) ?_ ?_))); all_goals (first | omega | (simp; done) | (simp; omega)))) h1 h2).mono ?_
  rintro e w1 ⟨An, cn, Al, cl, rfl, ho1, hb1⟩
  have hz1 := hb1.size
  simp at hz1
  have hR1 : Blk w1 (w.heap.size + 1) 94 #[.int .i64 0, .int .i64 0, .int .i64 0, .slice none 0 0, .slice none 0 0] := Blk.below ((Blk.newAt (by simp)).alloc _) hb1 (by first | omega | (simp; done) | (simp; omega))
  have hS1 : Blk w1 (w.heap.size + 1 + 1) 94 #[.int .i64 k, .int .i64 a, .int .i64 b, .slice none 0 0, .slice none 0 0] := Blk.below (Blk.newAt (by simp)) hb1 (by first | omega | (simp; done) | (simp; omega))
  have ho1' : OwnW (w.heap.size + 1 + 1 + 1) w1 (.slice An ns.length cn) (.slice Al ls.length cl) ns ls := by simpa using ho1
  have hbw1 : Below w.heap.size w w1 := by (repeat' (first | (with_reducible exact Below.refl _ _) | (with_reducible assumption) | (with_reducible refine Below.drew ?_) | (with_reducible refine below_drewN ?_ _) | (with_reducible refine Below.alloc ?_ ?_ _) | (with_reducible refine Below.setCell ?_ ?_ _) | (with_reducible refine Below.step (by assumption) ?_ ?_))); all_goals (first | omega | (simp; done) | (simp; omega))
  have n1 : w.heap.size + 1 < w1.heap.size := by omega
  have n2 : w.heap.size + 1 + 1 < w1.heap.size := by omega
  clear hb1 ho1
  have hlow := fun (p : Addr) (u : Value) (h : p.block < w.heap.size + 1 + 1 + 1) => h
  have HO : Hid (∀ u3 u4 v0 v1 v2 v3 v4, OwnW w.heap.size (((((((w1.setCell ⟨w.heap.size + 1 + 1, 3, none⟩ u3).setCell ⟨w.heap.size + 1 + 1, 4, none⟩ u4).setCell ⟨w.heap.size + 1, 0, none⟩ v0).setCell ⟨w.heap.size + 1, 1, none⟩ v1).setCell ⟨w.heap.size + 1, 2, none⟩ v2).setCell ⟨w.heap.size + 1, 3, none⟩ v3).setCell ⟨w.heap.size + 1, 4, none⟩ v4) (.slice An ns.length cn) (.slice Al ls.length cl) ns ls) := Lib.hid (fun u3 u4 v0 v1 v2 v3 v4 =>
    (((((((ho1'.setLow (by first | omega | (simp; done) | (simp; omega)) u3).setLow (by first | omega | (simp; done) | (simp; omega)) u4).setLow (by first | omega | (simp; done) | (simp; omega)) v0).setLow (by first | omega | (simp; done) | (simp; omega)) v1).setLow (by first | omega | (simp; done) | (simp; omega)) v2).setLow (by first | omega | (simp; done) | (simp; omega)) v3).setLow (by first | omega | (simp; done) | (simp; omega)) v4).mono (by omega))
  have HB : Hid (∀ u3 u4 v0 v1 v2 v3 v4, Below w.heap.size w (((((((w1.setCell ⟨w.heap.size + 1 + 1, 3, none⟩ u3).setCell ⟨w.heap.size + 1 + 1, 4, none⟩ u4).setCell ⟨w.heap.size + 1, 0, none⟩ v0).setCell ⟨w.heap.size + 1, 1, none⟩ v1).setCell ⟨w.heap.size + 1, 2, none⟩ v2).setCell ⟨w.heap.size + 1, 3, none⟩ v3).setCell ⟨w.heap.size + 1, 4, none⟩ v4)) := Lib.hid (fun u3 u4 v0 v1 v2 v3 v4 =>
    ((((((hbw1.setCell (by first | omega | (simp; done) | (simp; omega)) u3).setCell (by first | omega | (simp; done) | (simp; omega)) u4).setCell (by first | omega | (simp; done) | (simp; omega)) v0).setCell (by first | omega | (simp; done) | (simp; omega)) v1).setCell (by first | omega | (simp; done) | (simp; omega)) v2).setCell (by first | omega | (simp; done) | (simp; omega)) v3).setCell (by first | omega | (simp; done) | (simp; omega)) v4)
  clear ho1' hbw1 hlow
  (have r_0 := hR1.cell 0); (have r_1 := hR1.cell 1); (have r_2 := hR1.cell 2); (have r_3 := hR1.cell 3); (have r_4 := hR1.cell 4); simp only [List.getElem?_toArray, List.getElem?_cons_succ, List.getElem?_cons_zero] at r_0 r_1 r_2 r_3 r_4; (have r_f0 := hR1.frozen 0); (have r_f1 := hR1.frozen 1); (have r_f2 := hR1.frozen 2); (have r_f3 := hR1.frozen 3); (have r_f4 := hR1.frozen 4)
  (have s_0 := hS1.cell 0); (have s_1 := hS1.cell 1); (have s_2 := hS1.cell 2); (have s_3 := hS1.cell 3); (have s_4 := hS1.cell 4); simp only [List.getElem?_toArray, List.getElem?_cons_succ, List.getElem?_cons_zero] at s_0 s_1 s_2 s_3 s_4; (have s_f0 := hS1.frozen 0); (have s_f1 := hS1.frozen 1); (have s_f2 := hS1.frozen 2); (have s_f3 := hS1.frozen 3); (have s_f4 := hS1.frozen 4)
  go_wp2
  exact bodyPost_ret (v := .agg #[.int .i64 k, .int .i64 a, .int .i64 b, .slice An ns.length cn, .slice Al ls.length cl]) (by simp [results, Try.results109, go_sem, r_0, r_1, r_2, r_3, r_4, s_0, s_1, s_2, s_3, s_4, n1, n2]) rfl ⟨_, _, _, _, rfl, HO.out _ _ _ _ _ _ _, HB.out _ _ _ _ _ _ _⟩

end Go.Proofs.Ytnpdincjekelaaa
