/- part 39 -/
import Derived.Test.YtnjcpljhmhdhkaaGreatSPk35
set_option linter.unusedSimpArgs false
set_option linter.unusedVariables false
namespace Go.Proofs.YtnjcpljhmhdhkaaGreat
open Go.RowKit
theorem run_append_rs {P : Program} {w : World} {t ty e : TypeId} {i : TypeInfo} {base : Nat} {z : Value} {sz by_ : Nat} (ht : P.underlying t = some (.slice e)) (hi : P.info? e = some i) (hz : i.zero = some z) (hsize : i.size = sz) (hby : i.bytes = by_) (hzs : z.cells.size = sz) (hsz : 0 < sz)
    {v u : Value} {n m : Nat} {xs l : List Value} (hown : w.ownsRow base e sz v n xs) (hr : RS w sz u m l) (hone : ∀ x ∈ l, x.oneCell' = true) (hlen : n + m ≤ 1048576 + 1048576) (hbb : by_ ≤ 100) (hbase : base ≤ w.heap.size) :
    ∃ A c w', (Builtin.append_ #[t, t] ty #[v, u]).run P w = .ok (.slice A (n + m) c) w' ∧ w'.ownsRow base e sz (.slice A (n + m) c) (n + m) (xs ++ l) ∧ w.grownBy w' v.ownBlock ∧
      ((Value.slice A (n + m) c).ownBlock = v.ownBlock ∨ (Value.slice A (n + m) c).ownBlock = some w.heap.size) := by
  have hform : ∀ {w0 : World} {v0 : Value} {n0 : Nat} {xs0 : List Value}, w0.ownsRow base e sz v0 n0 xs0 → ∃ A c, v0 = .slice A n0 c ∧ n0 ≤ c := by
    intro w0 v0 n0 xs0 h
    rcases h.2 with ⟨rfl, hn⟩ | ⟨g, cap, cur, rfl, _, _, hnc, _⟩
    · exact ⟨none, 0, by rw [hn], by omega⟩
    · exact ⟨_, cap, rfl, hnc⟩
  obtain ⟨hll, A, c, rfl, hc, hm, hcell⟩ := hr
  cases A with
  | none =>
    have hm0 : m = 0 := by
      rcases Nat.eq_zero_or_pos m with h | h
      · exact h
      · obtain ⟨b, off, h1, _⟩ := hcell h
        cases h1
    subst hm0
    have hl : l = [] := List.eq_nil_of_length_eq_zero (by omega)
    subst hl
    obtain ⟨A, cp, rfl, hcp⟩ := hform hown
    refine ⟨A, cp, w, ?_, by rw [List.append_nil]; exact hown, World.grownBy.refl _ _, .inl rfl⟩
    exact run_append_none ht hi A _ cp c hcp
  | some a =>
    have hn : ∀ (j : Nat) (x : Value), l[j]? = some x → w.cell? (a.add j) = some x := by
      intro j x hx
      have hj := (List.getElem?_eq_some_iff.1 hx).1
      have hm1 : 0 < m := by
        rcases Nat.eq_zero_or_pos m with h | h
        · subst h; omega
        · exact h
      obtain ⟨b, off, e5, _, e6⟩ := hcell hm1
      cases e5
      rw [addr_add]
      exact e6 j x hx
    have hbm : (n + m) * by_ ≤ (1048576 + 1048576) * 100 := Nat.mul_le_mul hlen hbb
    obtain ⟨v', w', h1, h2, h3, _, h5⟩ := run_append_own_at (P := P) w base t ty e i z sz by_ ht hi hz hsize hby hzs hsz v n xs hown a m c l hll hn hone (by unfold maxLen; omega) (by omega) hbase
    obtain ⟨A', c', rfl, _⟩ := hform h2
    exact ⟨A', c', w', h1, h2, h3, h5⟩
theorem wpList_append_rs {P : Program} {w : World} {ops : Array Oper} {rest : List Oper} {o : Oper} {a : Act} {Q : Exit → Act → World → Prop} (hgd : o.guard = none) (s x : Operand) (t : TypeId)
    (ho : o.op = .call { callee := .builtin .append, args := #[s, x], argTypes := #[t, t] })
    (base : Nat) (e : TypeId) (i : TypeInfo) (z : Value) (sz by_ : Nat) (ht : P.underlying t = some (.slice e)) (hi : P.info? e = some i) (hz : i.zero = some z) (hsize : i.size = sz) (hby : i.bytes = by_) (hzs : z.cells.size = sz) (hsz : 0 < sz)
    (v u : Value) (n m : Nat) (xs l : List Value) (hs : a.eval s = v) (hx : a.eval x = u) (hown : w.ownsRow base e sz v n xs) (hr : RS w sz u m l) (hone : ∀ x ∈ l, x.oneCell' = true) (hlen : n + m ≤ 1048576 + 1048576) (hbb : by_ ≤ 100) (hbase : base ≤ w.heap.size)
    (h : ∀ A c w', w'.ownsRow base e sz (.slice A (n + m) c) (n + m) (xs ++ l) → w.grownBy w' v.ownBlock → ((Value.slice A (n + m) c).ownBlock = v.ownBlock ∨ (Value.slice A (n + m) c).ownBlock = some w.heap.size) → wpList P ops Q rest (a.put o.dst (.slice A (n + m) c)) w') :
    wpList P ops Q (o :: rest) a w :=
  wpList_plain hgd fun K hK => by
    obtain ⟨A, c, w', hrun, h2, h3, h4⟩ := run_append_rs (ty := o.type) ht hi hz hsize hby hzs hsz hown hr hone hlen hbb hbase
    unfold Oper.wp execOp
    simp only [ho, resolve, invoke, builtin, Sem.run_bind, Sem.run_pure, Result.andThen_ok, List.map_toArray, List.map_cons, List.map_nil, hs, hx, hrun]
    exact hK _ _ (h A c w' h2 h3 h4)
theorem one_ints (zs : List Int) : ∀ x ∈ zs.map vI, x.oneCell' = true := by
  intro x hx
  rw [List.mem_map] at hx
  obtain ⟨z, _, rfl⟩ := hx
  rfl
theorem one_deps (l : List Dp) : ∀ x ∈ l.flatMap Dp.cs, x.oneCell' = true := by
  intro x hx
  rw [List.mem_flatMap] at hx
  obtain ⟨d, _, hd⟩ := hx
  simp only [Dp.cs, List.mem_cons, List.mem_nil_iff, or_false] at hd
  rcases hd with rfl | rfl | rfl <;> rfl
set_option maxHeartbeats 2000000 in
set_option maxRecDepth 100000 in
theorem iCopyInts_any (v : Value) (zs : List Int) (w : World) (h : RI w v zs) (hle : zs.length ≤ 1048576) :
    Calls Tryz.prog 133 #[v] w (RetI zs w) := by
  obtain ⟨i0, hi, iz0, iz1, iz2⟩ := info_parts infoInt
  have HR := Lib.hid h
  clear h
  go_enter Tryz.func133, Tryz.ntmps133
  go_wp2_with (at_builtin; refine wpList_append_rs rfl _ _ _ rfl w.heap.size 3 i0 (.int .i64 0) 1 8 Tryz.underlying31 hi iz0 iz1 iz2 rfl (by decide) (.slice none 0 0) v 0 zs.length [] (zs.map vI) rfl rfl (World.ownsRow_nil _ _ _ _) HR.out (one_ints zs) (by omega) (by decide) (Nat.le_refl _) ?_)
  intro A c w1 ho hg ha
  have hb := below_nil hg
  have HO : Hid (OwnI w.heap.size w1 (.slice A zs.length c) zs) := Lib.hid ho
  clear ho hg ha
  go_wp2
  go_ret
  exact ⟨_, rfl, HO.out, hb⟩
theorem infoDep2 : (Tryz.prog.info? 48).map (fun i => (i.zero, i.size, i.bytes)) = some (some (.agg #[.int .i64 0, .int .i64 0, .int .i64 0]), 3, 24) := infoDep
set_option maxHeartbeats 2000000 in
set_option maxRecDepth 100000 in
theorem iCopyDeps_any (v : Value) (l : List Dp) (w : World) (h : RDp w v l) (hle : l.length ≤ 1048576) :
    Calls Tryz.prog 134 #[v] w (RetDp l w) := by
  obtain ⟨i0, hi, iz0, iz1, iz2⟩ := info_parts infoDep
  have HR := Lib.hid h
  clear h
  go_enter Tryz.func134, Tryz.ntmps134
  go_wp2_with (at_builtin; refine wpList_append_rs rfl _ _ _ rfl w.heap.size 48 i0 (.agg #[.int .i64 0, .int .i64 0, .int .i64 0]) 3 24 Tryz.underlying32 hi iz0 iz1 iz2 rfl (by decide) (.slice none 0 0) v 0 l.length [] (l.flatMap Dp.cs) rfl rfl (World.ownsRow_nil _ _ _ _) HR.out (one_deps l) (by omega) (by decide) (Nat.le_refl _) ?_)
  intro A c w1 ho hg ha
  have hb := below_nil hg
  have HO : Hid (OwnDp w.heap.size w1 (.slice A l.length c) l) := Lib.hid ho
  clear ho hg ha
  go_wp2
  go_ret
  exact ⟨_, rfl, HO.out, hb⟩
end Go.Proofs.YtnjcpljhmhdhkaaGreat

namespace Go.Proofs.YtnjcpljhmhdhkaaGreat
open Go.RowKit
theorem run_append_rs0 {P : Program} {w : World} {t ty e : TypeId} {i : TypeInfo} {base g : Nat} {z : Value} {sz by_ : Nat} (ht : P.underlying t = some (.slice e)) (hi : P.info? e = some i) (hz : i.zero = some z) (hsize : i.size = sz) (hby : i.bytes = by_) (hzs : z.cells.size = sz) (hsz : 0 < sz)
    {u : Value} {m : Nat} {l : List Value} (hown : w.ownsRow base e sz (.slice (some ⟨g, 0, none⟩) 0 0) 0 []) (hr : RS w sz u m l) (hone : ∀ x ∈ l, x.oneCell' = true) (hlen : m ≤ 1048576) (hbb : by_ ≤ 100) (hbase : base ≤ w.heap.size) :
    ∃ A c w', (Builtin.append_ #[t, t] ty #[.slice (some ⟨g, 0, none⟩) 0 0, u]).run P w = .ok (.slice A m c) w' ∧ w'.ownsRow base e sz (.slice A m c) m l ∧ Below w.heap.size w w' ∧
      (∀ k, (Value.slice A m c).ownBlock = some k → k = g ∨ k = w.heap.size) := by
  obtain ⟨A, c, w', hrun, ho, hg, ha⟩ := run_append_rs (ty := ty) ht hi hz hsize hby hzs hsz hown hr hone (by omega) hbb hbase
  simp only [Nat.zero_add, List.nil_append] at hrun ho ha
  refine ⟨A, c, w', hrun, ho, ?_, ?_⟩
  · have key : w'.heap[g]? = w.heap[g]? := by
      rcases hown.2 with ⟨h, _⟩ | ⟨g', cap, cur, h, _, hgg, _, _, hcs, _⟩
      · cases h
      · cases h
        subst hsize
        have hcur : cur = #[] := Array.eq_empty_of_size_eq_zero (by simpa using hcs)
        subst hcur
        obtain ⟨hll, A0, c0, rfl, hc, hm, hcell⟩ := hr
        cases A0 with
        | none =>
          have hr2 := run_append_none (P := P) (w := w) (ty := ty) ht hi (some ⟨g, 0, none⟩) 0 0 c0 (Nat.le_refl _)
          have hm0 : m = 0 := by
            rcases Nat.eq_zero_or_pos m with h | h
            · exact h
            · obtain ⟨b, off, h1, _⟩ := hcell h
              cases h1
          subst hm0
          have := hrun.symm.trans hr2
          cases this
          rfl
        | some a =>
          have hn : ∀ (j : Nat) (x : Value), l[j]? = some x → w.cell? (a.add j) = some x := by
            intro j x hx
            have hj := (List.getElem?_eq_some_iff.1 hx).1
            have hm1 : 0 < m := by
              rcases Nat.eq_zero_or_pos m with h | h
              · subst h; omega
              · exact h
            obtain ⟨b, off, e5, _, e6⟩ := hcell hm1
            cases e5
            rw [addr_add]
            exact e6 j x hx
          by_cases hm0 : m = 0
          · subst hm0
            have hl0 : l = [] := List.eq_nil_of_length_eq_zero (by simpa using hll)
            subst hl0
            have hr2 := run_append_room (P := P) w t ty e i ht hi g 0 0 #[] hgg a 0 c0 [] (by simp) (by simp) (by simp) (by omega) (by simp)
            have := hrun.symm.trans hr2
            cases this
            rw [setRow_heap w g #[] _ e _ hgg, hgg]
            simp
          · have hbm : m * i.bytes ≤ 1048576 * 100 := Nat.mul_le_mul hlen (by omega)
            have hr2 := run_append_grow (P := P) w t ty e i z ht hi hz ⟨g, 0, none⟩ 0 0 [] (by simp) (by simp) a m c0 l hll hn (by omega) (by omega) (growslice_fits (by omega) (by simp only [Nat.zero_add]; omega))
            simp only [Nat.zero_add] at hr2
            have := hrun.symm.trans hr2
            cases this
            exact heap_alloc_old w.drew _ (Array.getElem?_eq_some_iff.1 hgg).1
    have hg' : w.grownBy w' (Value.slice none 0 0).ownBlock := ⟨hg.os, hg.tape, hg.output, hg.size, fun k hk _ => by
      by_cases hkg : k = g
      · subst hkg; exact key
      · exact hg.block k hk (by simpa [Value.ownBlock] using hkg)⟩
    exact below_nil hg'
  · intro k hk
    rcases ha with h | h
    · rw [h] at hk
      simp [Value.ownBlock] at hk
      exact .inl hk.symm
    · rw [h] at hk
      cases hk
      exact .inr rfl
theorem step_append_rs0 {P : Program} {w : World} {ops : Array Oper} {o : Oper} {a : Act} {K : Act → World → Prop} {Q : Exit → Act → World → Prop} {E : Prop} (hgd : o.guard = none) (s x : Operand) (t : TypeId)
    (ho : o.op = .call { callee := .builtin .append, args := #[s, x], argTypes := #[t, t] })
    (base g : Nat) (e : TypeId) (i : TypeInfo) (z : Value) (sz by_ : Nat) (ht : P.underlying t = some (.slice e)) (hi : P.info? e = some i) (hz : i.zero = some z) (hsize : i.size = sz) (hby : i.bytes = by_) (hzs : z.cells.size = sz) (hsz : 0 < sz)
    (u : Value) (m : Nat) (l : List Value) (hs : a.eval s = .slice (some ⟨g, 0, none⟩) 0 0) (hx : a.eval x = u) (hown : w.ownsRow base e sz (.slice (some ⟨g, 0, none⟩) 0 0) 0 []) (hr : RS w sz u m l) (hone : ∀ x ∈ l, x.oneCell' = true) (hlen : m ≤ 1048576) (hbb : by_ ≤ 100) (hbase : base ≤ w.heap.size)
    (h : ∀ A c w', w'.ownsRow base e sz (.slice A m c) m l → Below w.heap.size w w' → (∀ k, (Value.slice A m c).ownBlock = some k → k = g ∨ k = w.heap.size) → K (a.put o.dst (.slice A m c)) w') :
    if Region.wanted o (yielded ops a.tmps) = true then Oper.wp P o a w K Q else E := by
  have hw : Region.wanted o (yielded ops a.tmps) = true := by simp [Region.wanted, hgd]
  rw [if_pos hw]
  obtain ⟨A, c, w', hrun, h2, h3, h4⟩ := run_append_rs0 (ty := o.type) ht hi hz hsize hby hzs hsz hown hr hone hlen hbb hbase
  unfold Oper.wp execOp
  simp only [ho, resolve, invoke, builtin, Sem.run_bind, Sem.run_pure, Result.andThen_ok, List.map_toArray, List.map_cons, List.map_nil, hs, hx, hrun]
  exact h A c w' h2 h3 h4
theorem owns_drew {w : World} {base : Nat} {e : TypeId} {sz n : Nat} {v : Value} {xs : List Value} (h : w.ownsRow base e sz v n xs) : w.drew.ownsRow base e sz v n xs := h
theorem owns_made0 {w : World} {base g : Nat} {e : TypeId} {sz : Nat} (hb : base ≤ w.heap.size) (hg : w.heap.size = g) : (w.alloc (.cells #[] e)).ownsRow base e sz (.slice (some ⟨g, 0, none⟩) 0 0) 0 [] := by
  subst hg
  exact World.ownsRow_made w #[] 0 hb (by decide) (by simp)
end Go.Proofs.YtnjcpljhmhdhkaaGreat

namespace Go.Proofs.YtnjcpljhmhdhkaaGreat
def ClosedC (adj : Nat → Nat → Bool) (ok : Nat → Bool) (F : Nat) (C : Nat → Prop) : Prop := ∀ g i, g < F → i < F → C g → adj g i = true → ok i = true → C i
def reachC (adj : Nat → Nat → Bool) (ok : Nat → Bool) (F f i : Nat) : Prop := ∀ C : Nat → Prop, C f → ClosedC adj ok F C → C i
noncomputable def chainL (adj : Nat → Nat → Bool) (ok : Nat → Bool) (F f : Nat) : List Nat := (List.range F).filter (fun i => @decide (reachC adj ok F f i) (Classical.propDecidable _))
theorem reach_self (adj : Nat → Nat → Bool) (ok : Nat → Bool) (F f : Nat) : reachC adj ok F f f := fun C h _ => h
theorem reach_closed (adj : Nat → Nat → Bool) (ok : Nat → Bool) (F f : Nat) : ClosedC adj ok F (reachC adj ok F f) := fun g i hg hi hr ha ho C h0 hC => hC g i hg hi (hr C h0 hC) ha ho
theorem mem_chainL {adj : Nat → Nat → Bool} {ok : Nat → Bool} {F f i : Nat} : i ∈ chainL adj ok F f ↔ i < F ∧ reachC adj ok F f i := by
  unfold chainL
  rw [List.mem_filter, List.mem_range]
  simp
def stpC (near : Nat → Nat) (ok : Nat → Bool) (s g : Nat) : Nat := if ok g && (near g &&& s != 0) then s ||| 2 ^ g else s
def rndC (near : Nat → Nat) (ok : Nat → Bool) (s : Nat) : Nat → Nat
  | 0 => s
  | k + 1 => stpC near ok (rndC near ok s k) k
def rndsC (near : Nat → Nat) (ok : Nat → Bool) (F s : Nat) : Nat → Nat
  | 0 => s
  | k + 1 => rndC near ok (rndsC near ok F s k) F
theorem stpC_sub {near : Nat → Nat} {ok : Nat → Bool} {s g i : Nat} (h : s.testBit i = true) : (stpC near ok s g).testBit i = true := by
  unfold stpC
  split
  · rw [Nat.testBit_or, h]; rfl
  · exact h
theorem rndC_sub {near : Nat → Nat} {ok : Nat → Bool} {s i : Nat} (h : s.testBit i = true) : ∀ k, (rndC near ok s k).testBit i = true
  | 0 => h
  | k + 1 => stpC_sub (rndC_sub h k)
theorem rndC_mono {near : Nat → Nat} {ok : Nat → Bool} {s i k : Nat} : ∀ j, (rndC near ok s k).testBit i = true → (rndC near ok s (k + j)).testBit i = true
  | 0, h => h
  | j + 1, h => stpC_sub (rndC_mono j h)
theorem stpC_lt {near : Nat → Nat} {ok : Nat → Bool} {s g m : Nat} (hs : s < 2 ^ m) (hg : g < m) : stpC near ok s g < 2 ^ m := by
  unfold stpC
  split
  · exact Nat.or_lt_two_pow hs (Nat.pow_lt_pow_right (by omega) hg)
  · exact hs
theorem rndC_lt {near : Nat → Nat} {ok : Nat → Bool} {s m : Nat} (hs : s < 2 ^ m) : ∀ k, k ≤ m → rndC near ok s k < 2 ^ m
  | 0, _ => hs
  | k + 1, h => stpC_lt (rndC_lt hs k (by omega)) (by omega)
theorem rndsC_lt {near : Nat → Nat} {ok : Nat → Bool} {F s : Nat} (hs : s < 2 ^ F) : ∀ k, rndsC near ok F s k < 2 ^ F
  | 0 => hs
  | k + 1 => rndC_lt (rndsC_lt hs k) F (Nat.le_refl _)
theorem and_ne_zero {a b : Nat} : (a &&& b != 0) = true ↔ ∃ i, a.testBit i = true ∧ b.testBit i = true := by
  rw [bne_iff_ne]
  constructor
  · intro h
    apply Classical.byContradiction
    intro hc
    apply h
    apply Nat.eq_of_testBit_eq
    intro i
    rw [Nat.testBit_and, Nat.zero_testBit]
    cases h1 : a.testBit i
    · rfl
    · cases h2 : b.testBit i
      · rfl
      · exact absurd ⟨i, h1, h2⟩ hc
  · rintro ⟨i, h1, h2⟩ h
    have : (a &&& b).testBit i = true := by rw [Nat.testBit_and, h1, h2]; rfl
    rw [h, Nat.zero_testBit] at this
    cases this
theorem rndsC_fix {near : Nat → Nat} {ok : Nat → Bool} {s m : Nat} (hs : s < 2 ^ m) (h0 : 0 < (memS s m).length) : rndC near ok (rndsC near ok m s m) m = rndsC near ok m s m := by
  apply Classical.byContradiction
  intro hc
  have stay : ∀ k j, rndC near ok (rndsC near ok m s k) m = rndsC near ok m s k → rndsC near ok m s (k + j) = rndsC near ok m s k := by
    intro k j hk
    induction j with
    | zero => rfl
    | succ j ih => show rndC near ok (rndsC near ok m s (k + j)) m = _; rw [ih, hk]
  have hne : ∀ k, k ≤ m → rndC near ok (rndsC near ok m s k) m ≠ rndsC near ok m s k := by
    intro k hk he
    have := stay k (m - k) he
    rw [show k + (m - k) = m by omega] at this
    rw [this] at hc
    exact hc he
  have grow : ∀ k, k ≤ m → k < (memS (rndsC near ok m s k) m).length := by
    intro k
    induction k with
    | zero => intro _; exact h0
    | succ k ih =>
      intro hk
      have h1 := ih (by omega)
      have h2 := memS_strict (s := rndsC near ok m s k) (t := rndC near ok (rndsC near ok m s k) m) (m := m) (fun i hi => rndC_sub hi m) (rndsC_lt hs k) (rndC_lt (rndsC_lt hs k) m (Nat.le_refl _)) (fun e => hne k (by omega) e.symm)
      show k + 1 < (memS (rndC near ok (rndsC near ok m s k) m) m).length
      omega
  have h1 := grow m (Nat.le_refl _)
  have h2 := memS_le (rndsC near ok m s m) m
  omega
theorem rounds_chain {near : Nat → Nat} {adj : Nat → Nat → Bool} {ok : Nat → Bool} {F f : Nat} (hn : ∀ g i, g < F → i < F → (near g).testBit i = adj g i) (hnl : ∀ g, g < F → near g < 2 ^ F) (hsym : ∀ g i, adj g i = adj i g) (hf : f < F) :
    memS (rndsC near ok F (2 ^ f) F) F = chainL adj ok F f := by
  have hs : 2 ^ f < 2 ^ F := Nat.pow_lt_pow_right (by omega) hf
  have hm0 : 0 < (memS (2 ^ f) F).length := List.length_pos_of_mem (a := f) (by simp [memS, hf, Nat.testBit_two_pow_self])
  have hfix := rndsC_fix (near := near) (ok := ok) hs hm0
  have sub : ∀ k i, (rndsC near ok F (2 ^ f) k).testBit i = true → reachC adj ok F f i := by
    intro k
    induction k with
    | zero =>
      intro i hi
      have hi' : (2 ^ f).testBit i = true := hi
      rw [Nat.testBit_two_pow] at hi'
      have : f = i := by simpa using hi'
      subst this
      exact reach_self adj ok F f
    | succ k ih =>
      have inner : ∀ j, j ≤ F → ∀ i, (rndC near ok (rndsC near ok F (2 ^ f) k) j).testBit i = true → reachC adj ok F f i := by
        intro j
        induction j with
        | zero => intro _ i hi; exact ih i hi
        | succ j ihj =>
          intro hj i hi
          have ihj' := ihj (by omega)
          have hi' : (stpC near ok (rndC near ok (rndsC near ok F (2 ^ f) k) j) j).testBit i = true := hi
          unfold stpC at hi'
          split at hi'
          · rename_i hc
            rw [Bool.and_eq_true, and_ne_zero] at hc
            obtain ⟨ho, x, hx1, hx2⟩ := hc
            rw [Nat.testBit_or, Bool.or_eq_true] at hi'
            rcases hi' with h | h
            · exact ihj' i h
            · rw [Nat.testBit_two_pow] at h
              have : j = i := by simpa using h
              subst this
              have hxF : x < F := by
                apply Classical.byContradiction
                intro hxF
                rw [Nat.testBit_lt_two_pow (Nat.lt_of_lt_of_le (hnl j (by omega)) (Nat.pow_le_pow_right (by omega) (by omega)))] at hx1
                cases hx1
              have ha : adj x j = true := by rw [hsym, ← hn j x (by omega) hxF]; exact hx1
              exact reach_closed adj ok F f x j hxF (by omega) (ihj' x hx2) ha ho
          · exact ihj' i hi'
      exact inner F (Nat.le_refl _)
  have keep : ∀ k, (rndsC near ok F (2 ^ f) k).testBit f = true := by
    intro k
    induction k with
    | zero => exact Nat.testBit_two_pow_self
    | succ k ih => exact rndC_sub ih F
  have closed : ClosedC adj ok F (fun i => (rndsC near ok F (2 ^ f) F).testBit i = true) := by
    intro g i hg hi hgm ha ho
    have e : (rndC near ok (rndsC near ok F (2 ^ f) F) (i + 1)).testBit i = true := by
      show (stpC near ok (rndC near ok (rndsC near ok F (2 ^ f) F) i) i).testBit i = true
      unfold stpC
      have hc : (ok i && (near i &&& rndC near ok (rndsC near ok F (2 ^ f) F) i != 0)) = true := by
        rw [Bool.and_eq_true, and_ne_zero]
        exact ⟨ho, g, by rw [hn i g hi hg, hsym]; exact ha, rndC_sub hgm i⟩
      rw [if_pos hc, Nat.testBit_or, Nat.testBit_two_pow_self, Bool.or_true]
    have := rndC_mono (F - (i + 1)) e
    rw [show i + 1 + (F - (i + 1)) = F by omega, hfix] at this
    exact this
  unfold memS chainL
  apply List.filter_congr
  intro i hi
  rw [Bool.eq_iff_iff]
  constructor
  · intro h; simpa using sub F i h
  · intro h
    have h' : reachC adj ok F f i := by simpa using h
    exact h' _ (keep F) closed
structure Grow (adj : Nat → Nat → Bool) (ok : Nat → Bool) (F f : Nat) (todo : List Nat) (k j : Nat) : Prop where
  nd : todo.Nodup
  lt : ∀ x ∈ todo, x < F
  f_ : f ∈ todo
  re : ∀ x ∈ todo, reachC adj ok F f x
  done : ∀ x ∈ todo.take k, ∀ i, i < F → adj x i = true → ok i = true → i ∈ todo
  part : ∀ x, todo[k]? = some x → ∀ i, i < j → i < F → adj x i = true → ok i = true → i ∈ todo
theorem Grow.start {adj : Nat → Nat → Bool} {ok : Nat → Bool} {F f : Nat} (hf : f < F) : Grow adj ok F f [f] 0 0 :=
  ⟨by simp, fun x hx => by simp at hx; omega, by simp, fun x hx => by simp at hx; subst hx; exact reach_self adj ok F x, fun x hx => by simp at hx, fun x _ i hi => by omega⟩
theorem Grow.skip {adj : Nat → Nat → Bool} {ok : Nat → Bool} {F f k j : Nat} {todo : List Nat} (h : Grow adj ok F f todo k j) (hn : ∀ x, todo[k]? = some x → adj x j = true → ok j = true → j ∈ todo) : Grow adj ok F f todo k (j + 1) :=
  ⟨h.nd, h.lt, h.f_, h.re, h.done, fun x hx i hi hF ha ho => by
    by_cases he : i = j
    · subst he; exact hn x hx ha ho
    · exact h.part x hx i (by omega) hF ha ho⟩
theorem Grow.push {adj : Nat → Nat → Bool} {ok : Nat → Bool} {F f k j : Nat} {todo : List Nat} (h : Grow adj ok F f todo k j) (hk : k < todo.length) (hj : j < F) (ha : adj todo[k] j = true) (ho : ok j = true) (hn : j ∉ todo) : Grow adj ok F f (todo ++ [j]) k (j + 1) :=
  ⟨by rw [List.nodup_append]; exact ⟨h.nd, by simp, fun a ha' b hb => by simp at hb; subst hb; exact fun hc => hn (hc ▸ ha')⟩,
    fun x hx => by
      rcases List.mem_append.1 hx with h1 | h1
      · exact h.lt x h1
      · simp at h1; omega,
    List.mem_append_left _ h.f_,
    fun x hx => by
      rcases List.mem_append.1 hx with h1 | h1
      · exact h.re x h1
      · simp at h1
        subst h1
        exact reach_closed adj ok F f _ _ (h.lt _ (List.getElem_mem hk)) hj (h.re _ (List.getElem_mem hk)) ha ho,
    fun x hx i hi ha' ho' => by
      rw [List.take_append_of_le_length (by omega)] at hx
      exact List.mem_append_left _ (h.done x hx i hi ha' ho'),
    fun x hx i hi hF ha' ho' => by
      rw [List.getElem?_append_left hk] at hx
      by_cases he : i = j
      · subst he; simp
      · exact List.mem_append_left _ (h.part x hx i (by omega) hF ha' ho')⟩
theorem Grow.next {adj : Nat → Nat → Bool} {ok : Nat → Bool} {F f k : Nat} {todo : List Nat} (h : Grow adj ok F f todo k F) (hk : k < todo.length) : Grow adj ok F f todo (k + 1) 0 :=
  ⟨h.nd, h.lt, h.f_, h.re, fun x hx i hi ha ho => by
    rw [List.take_succ_eq_append_getElem hk, List.mem_append] at hx
    rcases hx with h1 | h1
    · exact h.done x h1 i hi ha ho
    · simp at h1
      subst h1
      exact h.part _ (List.getElem?_eq_getElem hk) i hi hi ha ho,
    fun x _ i hi => by omega⟩
theorem Grow.len {adj : Nat → Nat → Bool} {ok : Nat → Bool} {F f k j : Nat} {todo : List Nat} (h : Grow adj ok F f todo k j) : todo.length ≤ F := by
  have := h.nd.length_le_of_subset (l₂ := List.range F) (fun x hx => List.mem_range.2 (h.lt x hx))
  rw [List.length_range] at this
  exact this
theorem Grow.end_ {adj : Nat → Nat → Bool} {ok : Nat → Bool} {F f k j : Nat} {todo : List Nat} (h : Grow adj ok F f todo k j) (hk : todo.length ≤ k) : (List.range F).filter (fun i => decide (i ∈ todo)) = chainL adj ok F f := by
  unfold chainL
  apply List.filter_congr
  intro i hi
  rw [Bool.eq_iff_iff, decide_eq_true_eq]
  constructor
  · intro hm; simpa using h.re i hm
  · intro hr
    have hr' : reachC adj ok F f i := by simpa using hr
    refine hr' (fun x => x ∈ todo) h.f_ (fun g x hg hx hgm ha ho => h.done g ?_ x hx ha ho)
    rw [List.take_of_length_le hk]; exact hgm
end Go.Proofs.YtnjcpljhmhdhkaaGreat

namespace Go.Proofs.YtnjcpljhmhdhkaaGreat
theorem clashF_none {ns ls : List Pr} {cs : List Int} : ∀ m k, clashF ns ls cs m k < 0 → ∀ j, k ≤ j → j < k + m → clashP ns ls cs j = false
  | 0, k, _, j, h1, h2 => absurd h2 (by omega)
  | m + 1, k, h, j, h1, h2 => by
    unfold clashF at h
    split at h
    · omega
    · rename_i hc
      by_cases e : j = k
      · subst e; simpa using hc
      · exact clashF_none m (k + 1) h j (by omega) (by omega)
theorem clashF_all {ns ls : List Pr} {cs : List Int} : ∀ m k, (∀ j, k ≤ j → j < k + m → clashP ns ls cs j = false) → clashF ns ls cs m k = -1
  | 0, k, _ => rfl
  | m + 1, k, h => by
    unfold clashF
    rw [if_neg (by rw [h k (Nat.le_refl _) (by omega)]; simp)]
    exact clashF_all m (k + 1) (fun j h1 h2 => h j (by omega) (by omega))
theorem proper_iff {ns ls : List Pr} {L : List Int} : properB ns ls L = true ↔ wholeB ns ls = true ∧ L.length = (facesD ns ls).length ∧ inAll L 0 5 = true ∧ ∀ f g, adjF ns ls f g → L.getD f 0 ≠ L.getD g 0 := by
  unfold properB
  rw [Bool.and_eq_true, decide_eq_true_eq]
  have hcl : ∀ k, wholeB ns ls = true → k < ls.length → (clashP ns ls L k = true ↔ fcD ns ls (2 * k) ≠ fcD ns ls (2 * k + 1) ∧ L.getD (fcD ns ls (2 * k)) 0 = L.getD (fcD ns ls (2 * k + 1)) 0) := by
    intro k hw hk
    unfold clashP
    rw [Bool.and_eq_true, decide_eq_true_eq, decide_eq_true_eq, sides_fc hw (by omega), sides_fc hw (by omega), Int.toNat_natCast, Int.toNat_natCast]
    constructor
    · rintro ⟨a, b⟩; exact ⟨fun e => a (by rw [e]), b⟩
    · rintro ⟨a, b⟩; exact ⟨fun e => a (by omega), b⟩
  constructor
  · rintro ⟨h1, h2⟩
    unfold clashI at h2
    rw [if_pos h1] at h2
    unfold colorsB at h1
    rw [Bool.and_eq_true, Bool.and_eq_true, decide_eq_true_eq] at h1
    obtain ⟨hw, h3, h4⟩ := h1
    refine ⟨hw, by rw [h3, facesW_whole hw], h4, ?_⟩
    rintro f g ⟨d, hd, e1, e2, hne⟩ he
    have hn := clashF_none _ _ h2 (d / 2) (by omega) (by omega)
    have hc := hcl (d / 2) hw (by omega)
    rw [hn] at hc
    have hno : ¬ (fcD ns ls (2 * (d / 2)) ≠ fcD ns ls (2 * (d / 2) + 1) ∧ L.getD (fcD ns ls (2 * (d / 2))) 0 = L.getD (fcD ns ls (2 * (d / 2) + 1)) 0) := fun hh => by have := hc.2 hh; cases this
    apply hno
    rcases two_darts d with ⟨z1, z2⟩ | ⟨z1, z2⟩
    · have w1 : fcD ns ls (2 * (d / 2)) = f := (congrArg (fcD ns ls) z1).symm.trans e1
      have w2 : fcD ns ls (2 * (d / 2) + 1) = g := (congrArg (fcD ns ls) z2).symm.trans e2
      rw [w1, w2]; exact ⟨hne, he⟩
    · have w1 : fcD ns ls (2 * (d / 2) + 1) = f := (congrArg (fcD ns ls) z1).symm.trans e1
      have w2 : fcD ns ls (2 * (d / 2)) = g := (congrArg (fcD ns ls) z2).symm.trans e2
      rw [w1, w2]; exact ⟨fun e => hne e.symm, he.symm⟩
  · rintro ⟨hw, h3, h4, h5⟩
    have hcb : colorsB ns ls L = true := by
      unfold colorsB
      rw [hw, facesW_whole hw, h3, h4]; simp
    refine ⟨hcb, ?_⟩
    unfold clashI
    rw [if_pos hcb, clashF_all _ _ (fun j h1 h2 => ?_)]
    · omega
    · cases hq : clashP ns ls L j
      · rfl
      · obtain ⟨a, b⟩ := (hcl j hw (by omega)).1 hq
        have t0 : twin (2 * j) = 2 * j + 1 := by unfold twin; rw [if_pos (by omega)]
        exact absurd b (h5 _ _ ⟨2 * j, by omega, rfl, by rw [t0], a⟩)
def swK (cs : List Int) (C : List Nat) (y x : Int) : Nat → List Int
  | 0 => cs
  | k + 1 => (swK cs C y x k).set (C.getD k 0) (if cs.getD (C.getD k 0) 0 = x then y else x)
theorem swK_len (cs : List Int) (C : List Nat) (y x : Int) : ∀ k, (swK cs C y x k).length = cs.length
  | 0 => rfl
  | k + 1 => by simp [swK, swK_len cs C y x k]
def okX (cs : List Int) (f : Nat) (x : Int) (i : Nat) : Bool := decide (cs.getD i 0 = cs.getD f 0) || decide (cs.getD i 0 = x)
noncomputable def chainW (ns ls : List Pr) (cs : List Int) (f : Nat) (x : Int) : List Nat := chainL (adB ns ls) (okX cs f x) cs.length f
noncomputable def chainB (ns ls : List Pr) (cs : List Int) (f x : Int) : Bool := properB ns ls cs && (inB f 0 ((cs.length : Int) - 1) && inB x 0 5)
noncomputable def chainI (ns ls : List Pr) (cs : List Int) (f x : Int) : List Nat := if chainB ns ls cs f x then chainW ns ls cs f.toNat x else []
noncomputable def swapB (ns ls : List Pr) (cs : List Int) (f x : Int) : Bool := chainB ns ls cs f x && !decide (cs.getD f.toNat 0 = x)
noncomputable def swapL (ns ls : List Pr) (cs : List Int) (f x : Int) : List Int := if swapB ns ls cs f x then swK cs (chainW ns ls cs f.toNat x) (cs.getD f.toNat 0) x (chainW ns ls cs f.toNat x).length else cs
theorem chainW_mem {ns ls : List Pr} {cs : List Int} {f : Nat} {x : Int} {i : Nat} : i ∈ chainW ns ls cs f x ↔ i < cs.length ∧ reachC (adB ns ls) (okX cs f x) cs.length f i := mem_chainL
theorem chainW_lt {ns ls : List Pr} {cs : List Int} {f : Nat} {x : Int} {i : Nat} (h : i ∈ chainW ns ls cs f x) : i < cs.length := (chainW_mem.1 h).1
theorem chainW_self {ns ls : List Pr} {cs : List Int} {f : Nat} {x : Int} (h : f < cs.length) : f ∈ chainW ns ls cs f x := chainW_mem.2 ⟨h, reach_self _ _ _ _⟩
theorem chainW_len (ns ls : List Pr) (cs : List Int) (f : Nat) (x : Int) : (chainW ns ls cs f x).length ≤ cs.length := by
  unfold chainW chainL
  have := List.length_filter_le (fun i => @decide (reachC (adB ns ls) (okX cs f x) cs.length f i) (Classical.propDecidable _)) (List.range cs.length)
  simpa using this
theorem swapL_len (ns ls : List Pr) (cs : List Int) (f x : Int) : (swapL ns ls cs f x).length = cs.length := by
  unfold swapL; split
  · exact swK_len _ _ _ _ _
  · rfl
end Go.Proofs.YtnjcpljhmhdhkaaGreat
