/-
  Copies of lists of pairs by append: the step's law; the copy of a window, both sides walked.
-/
import Derived.Test.YtoknmjpnelbplaaGreatWin
import Derived.Deep.AppendSrc
import Derived.Deep.AppendLies
import Derived.Deep.RegionHeld3
set_option linter.unusedSimpArgs false
set_option linter.unusedVariables false
namespace Go.Proofs.YtoknmjpnelbplaaGreat
open Go.RowKit


theorem flat_one (l : List (Int × Int)) : ∀ u ∈ l.flatMap prc, u.oneCell' = true := by
  intro u hu
  rw [List.mem_flatMap] at hu
  obtain ⟨p, _, hp⟩ := hu
  simp only [prc, List.mem_cons, List.mem_nil_iff, or_false] at hp
  rcases hp with rfl | rfl <;> rfl

theorem run_append_none {P : Program} {w : World} {t ty e : TypeId} {i : TypeInfo} (ht : P.underlying t = some (.slice e)) (hi : P.info? e = some i) (A : Option Addr) (n cp c : Nat) (h : n ≤ cp) :
    (Builtin.append_ #[t, t] ty #[.slice A n cp, .slice none 0 c]).run P w = .ok (.slice A n cp) w := by
  simp [Builtin.append_, run_underlying ht, sizeOf, typeInfo, hi, Builtin.lenOf, h, Builtin.firstCells]
  cases A
  · simp
  · simp [storeCells]

theorem addr_add (b off j : Nat) : (⟨b, off, none⟩ : Addr).add j = ⟨b, off + j, none⟩ := by
  unfold Addr.add
  split <;> simp_all

/-- append of pairs to what the call owns, run. -/
theorem run_append_pairs {P : Program} {w : World} {t ty e : TypeId} {i : TypeInfo} {base : Nat} (ht : P.underlying t = some (.slice e)) (hi : P.info? e = some i) (hz : i.zero = some (.agg #[.int .i64 0, .int .i64 0])) (hsize : i.size = 2) (hby : i.bytes = 16)
    {v u : Value} {xs l : List (Int × Int)} (hown : OwnP e base w v xs) (hr : RP w u l) (hlen : xs.length + l.length ≤ 1048576 + 1048576) (hbase : base ≤ w.heap.size) :
    ∃ A c w', (Builtin.append_ #[t, t] ty #[v, u]).run P w = .ok (.slice A (xs ++ l).length c) w' ∧ OwnP e base w' (.slice A (xs ++ l).length c) (xs ++ l) ∧ w.grownBy w' v.ownBlock ∧
      ((Value.slice A (xs ++ l).length c).ownBlock = v.ownBlock ∨ (Value.slice A (xs ++ l).length c).ownBlock = some w.heap.size) := by
  obtain ⟨A, c, rfl, hc, hm, hcell⟩ := hr.form
  cases A with
  | none =>
    have hl : l = [] := by
      rcases Nat.eq_zero_or_pos l.length with h | h
      · exact List.eq_nil_of_length_eq_zero h
      · obtain ⟨b, off, h1, _⟩ := hcell h
        cases h1
    subst hl
    obtain ⟨A, cp, rfl⟩ := hown.form
    have hcp : xs.length ≤ cp := by
      obtain ⟨A', c', e1, e2, _⟩ := hown.reads.form
      cases e1; exact e2
    refine ⟨A, cp, w, ?_, by rw [List.append_nil]; exact hown, World.grownBy.refl _ _, by rw [List.append_nil]; exact .inl rfl⟩
    rw [List.append_nil]
    exact run_append_none ht hi A _ cp c hcp
  | some a =>
    have hn : ∀ (j : Nat) (x : Value), (l.flatMap prc)[j]? = some x → w.cell? (a.add j) = some x := by
      intro j x hx
      have hj := (List.getElem?_eq_some_iff.1 hx).1
      rw [flat_len prc 2 (fun _ => rfl)] at hj
      obtain ⟨_, A', c', e1, _, _, e4⟩ := hr
      cases e1
      obtain ⟨b, off, e5, _, e6⟩ := e4 (by omega)
      cases e5
      rw [addr_add]
      exact e6 j x hx
    have ho : w.ownsRow base e 2 v xs.length (xs.flatMap prc) := hown
    obtain ⟨v', w', h1, h2, h3, _, h5⟩ := run_append_own_at (P := P) w base t ty e i _ 2 16 ht hi hz hsize hby rfl (by decide) v xs.length (xs.flatMap prc) ho a l.length c (l.flatMap prc) (flat_len prc 2 (fun _ => rfl) l) hn (flat_one l) (by unfold maxLen; omega) (by omega) hbase
    have h2' : OwnP e base w' v' (xs ++ l) := by
      unfold OwnP
      rw [List.length_append, List.flatMap_append]
      exact h2
    obtain ⟨A', c', rfl⟩ := h2'.form
    exact ⟨A', c', w', h1, h2', h3, h5⟩

/-- At a step of a region that draws its order. -/
theorem step_append_pairs {P : Program} {w : World} {ops : Array Oper} {o : Oper} {a : Act} {K : Act → World → Prop} {Q : Exit → Act → World → Prop} {E : Prop} (hgd : o.guard = none) (s x : Operand) (t : TypeId)
    (ho : o.op = .call { callee := .builtin .append, args := #[s, x], argTypes := #[t, t] })
    (base : Nat) (e : TypeId) (i : TypeInfo) (ht : P.underlying t = some (.slice e)) (hi : P.info? e = some i) (hz : i.zero = some (.agg #[.int .i64 0, .int .i64 0])) (hsize : i.size = 2) (hby : i.bytes = 16)
    (v u : Value) (xs l : List (Int × Int)) (hs : a.eval s = v) (hx : a.eval x = u) (hown : OwnP e base w v xs) (hr : RP w u l) (hlen : xs.length + l.length ≤ 1048576 + 1048576) (hbase : base ≤ w.heap.size)
    (h : ∀ A c w', OwnP e base w' (.slice A (xs ++ l).length c) (xs ++ l) → w.grownBy w' v.ownBlock → ((Value.slice A (xs ++ l).length c).ownBlock = v.ownBlock ∨ (Value.slice A (xs ++ l).length c).ownBlock = some w.heap.size) → K (a.put o.dst (.slice A (xs ++ l).length c)) w') :
    if Region.wanted o (yielded ops a.tmps) = true then Oper.wp P o a w K Q else E := by
  have hw : Region.wanted o (yielded ops a.tmps) = true := by simp [Region.wanted, hgd]
  rw [if_pos hw]
  obtain ⟨A, c, w', hrun, h2, h3, h4⟩ := run_append_pairs (ty := o.type) ht hi hz hsize hby hown hr hlen hbase
  unfold Oper.wp execOp
  simp only [ho, resolve, invoke, builtin, Sem.run_bind, Sem.run_pure, Result.andThen_ok, List.map_toArray, List.map_cons, List.map_nil, hs, hx, hrun]
  exact h A c w' h2 h3 h4

/-- At the list of a plain region's operations. -/
theorem wpList_append_pairs {P : Program} {w : World} {ops : Array Oper} {rest : List Oper} {o : Oper} {a : Act} {Q : Exit → Act → World → Prop} (hgd : o.guard = none) (s x : Operand) (t : TypeId)
    (ho : o.op = .call { callee := .builtin .append, args := #[s, x], argTypes := #[t, t] })
    (base : Nat) (e : TypeId) (i : TypeInfo) (ht : P.underlying t = some (.slice e)) (hi : P.info? e = some i) (hz : i.zero = some (.agg #[.int .i64 0, .int .i64 0])) (hsize : i.size = 2) (hby : i.bytes = 16)
    (v u : Value) (xs l : List (Int × Int)) (hs : a.eval s = v) (hx : a.eval x = u) (hown : OwnP e base w v xs) (hr : RP w u l) (hlen : xs.length + l.length ≤ 1048576 + 1048576) (hbase : base ≤ w.heap.size)
    (h : ∀ A c w', OwnP e base w' (.slice A (xs ++ l).length c) (xs ++ l) → w.grownBy w' v.ownBlock → ((Value.slice A (xs ++ l).length c).ownBlock = v.ownBlock ∨ (Value.slice A (xs ++ l).length c).ownBlock = some w.heap.size) → wpList P ops Q rest (a.put o.dst (.slice A (xs ++ l).length c)) w') :
    wpList P ops Q (o :: rest) a w :=
  wpList_plain hgd fun K hK => by
    obtain ⟨A, c, w', hrun, h2, h3, h4⟩ := run_append_pairs (ty := o.type) ht hi hz hsize hby hown hr hlen hbase
    unfold Oper.wp execOp
    simp only [ho, resolve, invoke, builtin, Sem.run_bind, Sem.run_pure, Result.andThen_ok, List.map_toArray, List.map_cons, List.map_nil, hs, hx, hrun]
    exact hK _ _ (h A c w' h2 h3 h4)

theorem OwnP.made {t : TypeId} {base : Nat} {w : World} {g : Nat} (hg : g = w.heap.size) (hb : base ≤ w.heap.size) : OwnP t base (w.alloc (.cells #[] t)) (.slice (some ⟨g, 0, none⟩) 0 0) [] := by
  subst hg
  exact World.ownsRow_made _ _ _ hb (by simp) (by simp [maxLen])

theorem below_nil {w w' : World} (h : w.grownBy w' (Value.slice none 0 0).ownBlock) : Below w.heap.size w w' := (Below.refl _ _).grown h (Nat.le_refl _) (by intro k hk; cases hk)

set_option maxHeartbeats 4000000 in
set_option maxRecDepth 100000 in
theorem iCopy_any (vn vl : Value) (ns ls : List (Int × Int)) (w : World) (hn : RP w vn ns) (hl : RP w vl ls) (h1 : ns.length ≤ 1048576) (h2 : ls.length ≤ 1048576) :
    Calls Tryz.prog 87 #[.agg #[vn, vl]] w (RetW ns ls w) := by
  obtain ⟨i0, hi, iz0, iz1, iz2⟩ := info_parts infoNode
  obtain ⟨j0, hj, jz0, jz1, jz2⟩ := info_parts infoLead
  have hlt2 : w.heap.size < w.heap.size + 1 + 1 := by omega
  go_enter Tryz.func87, Tryz.ntmps87
  go_wp2_with fail
  go_region_held3 (fun w' => w'.cell? ⟨w.heap.size, 0, none⟩ = some vn ∧ w'.cell? ⟨w.heap.size, 1, none⟩ = some vl)
    (go_keep)
    (first | (refine step_append_pairs rfl _ _ _ rfl (w.heap.size + 1 + 1) 141 i0 Tryz.underlying35 hi iz0 iz1 iz2 (.slice none 0 0) vn [] ns rfl rfl (OwnP.nil _ _ _) (RP.below hn (by (repeat' (first | (with_reducible exact Below.refl _ _) | (with_reducible assumption) | (with_reducible refine Below.drew ?_) | (with_reducible refine below_drewN ?_ _) | (with_reducible refine Below.alloc ?_ ?_ _) | (with_reducible refine Below.setCell ?_ ?_ _) | (with_reducible refine Below.step (by assumption) ?_ ?_))); all_goals (first | omega | (simp; done) | (simp; omega)))) (by simp; omega) (by first | omega | (simp; done) | (simp; omega)) ?_; intro A1 c1 w1 ho1 hg1 ha1; (have hb1 := below_nil hg1); (have HA1 := Lib.hid ha1); (have HO1 := Lib.hid ho1); clear hg1 ha1 ho1; (first | (with_reducible have hcf1 := bcell_drew hb1) | have hcf1 := bcell hb1); obtain ⟨hc1, hf1⟩ := hcf1; have hz1 := hb1.size; (try simp at hz1); (try have hp1_0 : w.heap.size < w1.heap.size := by omega); (try have hp1_1 : w.heap.size + 1 < w1.heap.size := by omega); (try have hp1_2 : w.heap.size + 1 + 1 < w1.heap.size := by omega); (try have hp1_3 : w.heap.size + 1 + 1 + 1 < w1.heap.size := by omega)) | (refine step_append_pairs rfl _ _ _ rfl (w.heap.size + 1 + 1) 143 j0 Tryz.underlying36 hj jz0 jz1 jz2 (.slice none 0 0) vl [] ls rfl rfl (OwnP.nil _ _ _) (RP.below hl (by (repeat' (first | (with_reducible exact Below.refl _ _) | (with_reducible assumption) | (with_reducible refine Below.drew ?_) | (with_reducible refine below_drewN ?_ _) | (with_reducible refine Below.alloc ?_ ?_ _) | (with_reducible refine Below.setCell ?_ ?_ _) | (with_reducible refine Below.step (by assumption) ?_ ?_))); all_goals (first | omega | (simp; done) | (simp; omega)))) (by simp; omega) (by first | omega | (simp; done) | (simp; omega)) ?_; intro A2 c2 w2 ho2 hg2 ha2; (have hb2 := below_nil hg2); (have HA2 := Lib.hid ha2); (have HO2 := Lib.hid ho2); clear hg2 ha2 ho2; (first | (with_reducible have hcf2 := bcell_drew hb2) | have hcf2 := bcell hb2); obtain ⟨hc2, hf2⟩ := hcf2; have hz2 := hb2.size; (try simp at hz2); (try have hp2_0 : w.heap.size < w2.heap.size := by omega); (try have hp2_1 : w.heap.size + 1 < w2.heap.size := by omega); (try have hp2_2 : w.heap.size + 1 + 1 < w2.heap.size := by omega); (try have hp2_3 : w.heap.size + 1 + 1 + 1 < w2.heap.size := by omega)))
  have ho1 : OwnP 141 (w.heap.size + 1 + 1) w1 (.slice A1 ns.length c1) ns := HO1.out
  have ho2 : OwnP 143 (w.heap.size + 1 + 1) w2 (.slice A2 ls.length c2) ls := HO2.out
  have hap : Hid (∀ k, (Value.slice A1 ns.length c1).ownBlock = some k → (Value.slice A2 ls.length c2).ownBlock = some k → False) := Lib.hid (fun k h1 h2 => by
    have h3 := (ho1.lt k h1).2
    rcases HA2.out with h | h
    · have h' : (Value.slice A2 ls.length c2).ownBlock = none := h
      rw [h'] at h2; cases h2
    · have h' : (Value.slice A2 ls.length c2).ownBlock = some w1.heap.size := h
      rw [h'] at h2; cases h2; omega)
  have ho1' := ho1.kept hb2
  have o1 := Lib.hid (((ho1'.setLow (p := ⟨w.heap.size + 1, 0, none⟩) (by first | omega | (simp; done) | (simp; omega)) (.slice A1 ns.length c1)).setLow (p := ⟨w.heap.size + 1, 1, none⟩) (by first | omega | (simp; done) | (simp; omega)) (.slice A2 ls.length c2)).mono (show w.heap.size ≤ _ by omega))
  have o2 := Lib.hid (((ho2.setLow (p := ⟨w.heap.size + 1, 0, none⟩) (by first | omega | (simp; done) | (simp; omega)) (.slice A1 ns.length c1)).setLow (p := ⟨w.heap.size + 1, 1, none⟩) (by first | omega | (simp; done) | (simp; omega)) (.slice A2 ls.length c2)).mono (show w.heap.size ≤ _ by omega))
  clear ho1 ho2 ho1' HO1 HO2 HA1 HA2
  go_wp2
  exact bodyPost_ret (v := .agg #[.slice A1 ns.length c1, .slice A2 ls.length c2]) (by simp [results, Tryz.results87, go_sem, hp1_0, hp1_1, hp2_0, hp2_1, hc2, hc1]) rfl ⟨_, _, _, _, rfl, ⟨o1.out, o2.out, hap.out⟩, by (repeat' (first | (with_reducible exact Below.refl _ _) | (with_reducible assumption) | (with_reducible refine Below.drew ?_) | (with_reducible refine below_drewN ?_ _) | (with_reducible refine Below.alloc ?_ ?_ _) | (with_reducible refine Below.setCell ?_ ?_ _) | (with_reducible refine Below.step (by assumption) ?_ ?_))); all_goals (first | omega | (simp; done) | (simp; omega))⟩

theorem own_alloc_self {t : TypeId} {base : Nat} {w : World} {v : Value} {l : List (Int × Int)} (h : OwnP t base w v l) (o : Obj) : OwnP t base (w.alloc o) v l := h.alloc o

theorem below_own0 {w w' : World} {g B : Nat} (h : w.grownBy w' (some g)) (hB : B ≤ w.heap.size) (hg : B ≤ g) : Below B w w' := (Below.refl _ _).grown h hB (fun k hk => by cases hk; exact hg)

set_option maxHeartbeats 4000000 in
set_option maxRecDepth 100000 in
theorem sCopy_any (vn vl : Value) (ns ls : List (Int × Int)) (w : World) (hn : RP w vn ns) (hl : RP w vl ls) (h1 : ns.length ≤ 1048576) (h2 : ls.length ≤ 1048576) :
    Calls Tryz.prog 84 #[.agg #[vn, vl]] w (RetW ns ls w) := by
  obtain ⟨i0, hi, iz0, iz1, iz2⟩ := info_parts infoNode
  obtain ⟨j0, hj, jz0, jz1, jz2⟩ := info_parts infoLead
  have hlt2 : w.heap.size < w.heap.size + 1 + 1 := by omega
  have hlt3 : w.heap.size < w.heap.size + 1 + 1 + 1 := by omega
  go_enter Tryz.func84, Tryz.ntmps84
  go_wp2_with fail
  go_region_held3 (fun w' => w'.cell? ⟨w.heap.size, 0, none⟩ = some vn ∧ w'.cell? ⟨w.heap.size, 1, none⟩ = some vl)
    (go_keep)
    (first | (refine step_append_pairs rfl _ _ _ rfl (w.heap.size + 1 + 1) 141 i0 Tryz.underlying35 hi iz0 iz1 iz2 (.slice (some ⟨w.heap.size + 1 + 1, 0, none⟩) 0 0) vn [] ns rfl rfl (OwnP.drew (OwnP.made (by simp) (by first | omega | (simp; done) | (simp; omega)))) (RP.below hn (by (repeat' (first | (with_reducible exact Below.refl _ _) | (with_reducible assumption) | (with_reducible refine Below.drew ?_) | (with_reducible refine below_drewN ?_ _) | (with_reducible refine Below.alloc ?_ ?_ _) | (with_reducible refine Below.setCell ?_ ?_ _) | (with_reducible refine Below.step (by assumption) ?_ ?_))); all_goals (first | omega | (simp; done) | (simp; omega)))) (by simp; omega) (by first | omega | (simp; done) | (simp; omega)) ?_; intro A1 c1 w1 ho1 hg1 ha1; (have hb1 := below_own0 (B := w.heap.size + 1 + 1) hg1 (by first | omega | (simp; done) | (simp; omega)) (by first | omega | (simp; done) | (simp; omega))); (have hc1 := fun (b o : Nat) (h : b < w.heap.size + 1 + 1) => hb1.cell (p := ⟨b, o, none⟩) h); (have hf1 := fun (b o : Nat) (h : b < w.heap.size + 1 + 1) => hb1.frozen (p := ⟨b, o, none⟩) h); (have hz1 := hg1.size); (try simp at hz1); (have hp1_0 : w.heap.size < w1.heap.size := by omega); (have hp1_1 : w.heap.size + 1 < w1.heap.size := by omega); (have hbw1 : Below w.heap.size w w1 := by refine Below.trans ?_ (hb1.mono ?_) <;> first | ((repeat' (first | (with_reducible exact Below.refl _ _) | (with_reducible assumption) | (with_reducible refine Below.drew ?_) | (with_reducible refine below_drewN ?_ _) | (with_reducible refine Below.alloc ?_ ?_ _) | (with_reducible refine Below.setCell ?_ ?_ _) | (with_reducible refine Below.step (by assumption) ?_ ?_))); all_goals (first | omega | (simp; done) | (simp; omega))) | omega); (have HA1 := Lib.hid ha1); (have HO1 := Lib.hid ho1); (have HG1 := Lib.hid hg1); clear hg1 ha1 ho1) | ((refine step_append_pairs rfl _ _ _ rfl (w.heap.size + 1 + 1) 141 i0 Tryz.underlying35 hi iz0 iz1 iz2 (.slice (some ⟨w.heap.size + 1 + 1, 0, none⟩) 0 0) vn [] ns rfl rfl (OwnP.drew (OwnP.alloc (OwnP.made (by simp) (by first | omega | (simp; done) | (simp; omega))) _)) (RP.below hn (by (repeat' (first | (with_reducible exact Below.refl _ _) | (with_reducible assumption) | (with_reducible refine Below.drew ?_) | (with_reducible refine below_drewN ?_ _) | (with_reducible refine Below.alloc ?_ ?_ _) | (with_reducible refine Below.setCell ?_ ?_ _) | (with_reducible refine Below.step (by assumption) ?_ ?_))); all_goals (first | omega | (simp; done) | (simp; omega)))) (by simp; omega) (by first | omega | (simp; done) | (simp; omega)) ?_); intro A1 c1 w1 ho1 hg1 ha1; (have hb1 := below_own0 (B := w.heap.size + 1 + 1) hg1 (by first | omega | (simp; done) | (simp; omega)) (by first | omega | (simp; done) | (simp; omega))); (have hc1 := fun (b o : Nat) (h : b < w.heap.size + 1 + 1) => hb1.cell (p := ⟨b, o, none⟩) h); (have hf1 := fun (b o : Nat) (h : b < w.heap.size + 1 + 1) => hb1.frozen (p := ⟨b, o, none⟩) h); (have hz1 := hg1.size); (try simp at hz1); (have hp1_0 : w.heap.size < w1.heap.size := by omega); (have hp1_1 : w.heap.size + 1 < w1.heap.size := by omega); (have hbw1 : Below w.heap.size w w1 := by refine Below.trans ?_ (hb1.mono ?_) <;> first | ((repeat' (first | (with_reducible exact Below.refl _ _) | (with_reducible assumption) | (with_reducible refine Below.drew ?_) | (with_reducible refine below_drewN ?_ _) | (with_reducible refine Below.alloc ?_ ?_ _) | (with_reducible refine Below.setCell ?_ ?_ _) | (with_reducible refine Below.step (by assumption) ?_ ?_))); all_goals (first | omega | (simp; done) | (simp; omega))) | omega); (have HA1 := Lib.hid ha1); (have HO1 := Lib.hid ho1); (have HL1 := Lib.hid ((OwnP.drew (OwnP.made (t := 143) (base := w.heap.size + 1 + 1) (g := w.heap.size + 1 + 1 + 1) (by simp) (by first | omega | (simp; done) | (simp; omega)))).apart hg1 (by intro k h h'; simp [Value.ownBlock] at h h'; omega))); clear hg1 ha1 ho1) | ((refine step_append_pairs rfl _ _ _ rfl (w.heap.size + 1 + 1) 141 i0 Tryz.underlying35 hi iz0 iz1 iz2 (.slice (some ⟨w.heap.size + 1 + 1 + 1, 0, none⟩) 0 0) vn [] ns rfl rfl (OwnP.drew (OwnP.made (by simp) (by first | omega | (simp; done) | (simp; omega)))) (RP.below hn (by (repeat' (first | (with_reducible exact Below.refl _ _) | (with_reducible assumption) | (with_reducible refine Below.drew ?_) | (with_reducible refine below_drewN ?_ _) | (with_reducible refine Below.alloc ?_ ?_ _) | (with_reducible refine Below.setCell ?_ ?_ _) | (with_reducible refine Below.step (by assumption) ?_ ?_))); all_goals (first | omega | (simp; done) | (simp; omega)))) (by simp; omega) (by first | omega | (simp; done) | (simp; omega)) ?_); intro A1 c1 w1 ho1 hg1 ha1; (have hb1 := below_own0 (B := w.heap.size + 1 + 1) hg1 (by first | omega | (simp; done) | (simp; omega)) (by first | omega | (simp; done) | (simp; omega))); (have hc1 := fun (b o : Nat) (h : b < w.heap.size + 1 + 1) => hb1.cell (p := ⟨b, o, none⟩) h); (have hf1 := fun (b o : Nat) (h : b < w.heap.size + 1 + 1) => hb1.frozen (p := ⟨b, o, none⟩) h); (have hz1 := hg1.size); (try simp at hz1); (have hp1_0 : w.heap.size < w1.heap.size := by omega); (have hp1_1 : w.heap.size + 1 < w1.heap.size := by omega); (have hbw1 : Below w.heap.size w w1 := by refine Below.trans ?_ (hb1.mono ?_) <;> first | ((repeat' (first | (with_reducible exact Below.refl _ _) | (with_reducible assumption) | (with_reducible refine Below.drew ?_) | (with_reducible refine below_drewN ?_ _) | (with_reducible refine Below.alloc ?_ ?_ _) | (with_reducible refine Below.setCell ?_ ?_ _) | (with_reducible refine Below.step (by assumption) ?_ ?_))); all_goals (first | omega | (simp; done) | (simp; omega))) | omega); (have HA1 := Lib.hid ha1); (have HO1 := Lib.hid ho1); (have HL1 := Lib.hid ((OwnP.drew (OwnP.alloc (OwnP.made (t := 143) (base := w.heap.size + 1 + 1) (g := w.heap.size + 1 + 1) (by simp) (by first | omega | (simp; done) | (simp; omega))) _)).apart hg1 (by intro k h h'; simp [Value.ownBlock] at h h'; omega))); clear hg1 ha1 ho1) | (refine step_append_pairs rfl _ _ _ rfl (w.heap.size + 1 + 1) 143 j0 Tryz.underlying36 hj jz0 jz1 jz2 (.slice (some ⟨w.heap.size + 1 + 1 + 1, 0, none⟩) 0 0) vl [] ls rfl rfl HL1.out (RP.below hl (by (repeat' (first | (with_reducible exact Below.refl _ _) | (with_reducible assumption) | (with_reducible refine Below.drew ?_) | (with_reducible refine below_drewN ?_ _) | (with_reducible refine Below.alloc ?_ ?_ _) | (with_reducible refine Below.setCell ?_ ?_ _) | (with_reducible refine Below.step (by assumption) ?_ ?_))); all_goals (first | omega | (simp; done) | (simp; omega)))) (by simp; omega) (by first | omega | (simp; done) | (simp; omega)) ?_; intro A2 c2 w2 ho2 hg2 ha2; (have hb2 := below_own0 (B := w.heap.size + 1 + 1) hg2 (by first | omega | (simp; done) | (simp; omega)) (by first | omega | (simp; done) | (simp; omega))); (have hc2 := fun (b o : Nat) (h : b < w.heap.size + 1 + 1) => hb2.cell (p := ⟨b, o, none⟩) h); (have hf2 := fun (b o : Nat) (h : b < w.heap.size + 1 + 1) => hb2.frozen (p := ⟨b, o, none⟩) h); (have hz2 := hg2.size); (try simp at hz2); (have hp2_0 : w.heap.size < w2.heap.size := by omega); (have hp2_1 : w.heap.size + 1 < w2.heap.size := by omega); (have hbw2 : Below w.heap.size w w2 := by refine Below.trans ?_ (hb2.mono ?_) <;> first | ((repeat' (first | (with_reducible exact Below.refl _ _) | (with_reducible assumption) | (with_reducible refine Below.drew ?_) | (with_reducible refine below_drewN ?_ _) | (with_reducible refine Below.alloc ?_ ?_ _) | (with_reducible refine Below.setCell ?_ ?_ _) | (with_reducible refine Below.step (by assumption) ?_ ?_))); all_goals (first | omega | (simp; done) | (simp; omega))) | omega); (have HA2 := Lib.hid ha2); (have HO2 := Lib.hid ho2); (have HG2 := Lib.hid hg2); clear hg2 ha2 ho2) | (refine step_append_pairs rfl _ _ _ rfl (w.heap.size + 1 + 1) 143 j0 Tryz.underlying36 hj jz0 jz1 jz2 (.slice (some ⟨w.heap.size + 1 + 1, 0, none⟩) 0 0) vl [] ls rfl rfl HL1.out (RP.below hl (by (repeat' (first | (with_reducible exact Below.refl _ _) | (with_reducible assumption) | (with_reducible refine Below.drew ?_) | (with_reducible refine below_drewN ?_ _) | (with_reducible refine Below.alloc ?_ ?_ _) | (with_reducible refine Below.setCell ?_ ?_ _) | (with_reducible refine Below.step (by assumption) ?_ ?_))); all_goals (first | omega | (simp; done) | (simp; omega)))) (by simp; omega) (by first | omega | (simp; done) | (simp; omega)) ?_; intro A2 c2 w2 ho2 hg2 ha2; (have hb2 := below_own0 (B := w.heap.size + 1 + 1) hg2 (by first | omega | (simp; done) | (simp; omega)) (by first | omega | (simp; done) | (simp; omega))); (have hc2 := fun (b o : Nat) (h : b < w.heap.size + 1 + 1) => hb2.cell (p := ⟨b, o, none⟩) h); (have hf2 := fun (b o : Nat) (h : b < w.heap.size + 1 + 1) => hb2.frozen (p := ⟨b, o, none⟩) h); (have hz2 := hg2.size); (try simp at hz2); (have hp2_0 : w.heap.size < w2.heap.size := by omega); (have hp2_1 : w.heap.size + 1 < w2.heap.size := by omega); (have hbw2 : Below w.heap.size w w2 := by refine Below.trans ?_ (hb2.mono ?_) <;> first | ((repeat' (first | (with_reducible exact Below.refl _ _) | (with_reducible assumption) | (with_reducible refine Below.drew ?_) | (with_reducible refine below_drewN ?_ _) | (with_reducible refine Below.alloc ?_ ?_ _) | (with_reducible refine Below.setCell ?_ ?_ _) | (with_reducible refine Below.step (by assumption) ?_ ?_))); all_goals (first | omega | (simp; done) | (simp; omega))) | omega); (have HA2 := Lib.hid ha2); (have HO2 := Lib.hid ho2); (have HG2 := Lib.hid hg2); clear hg2 ha2 ho2) | (refine step_append_pairs rfl _ _ _ rfl (w.heap.size + 1 + 1) 143 j0 Tryz.underlying36 hj jz0 jz1 jz2 (.slice (some ⟨w1.heap.size, 0, none⟩) 0 0) vl [] ls rfl rfl (OwnP.made rfl (by first | omega | (simp; done) | (simp; omega))) (RP.below hl (by (repeat' (first | (with_reducible exact Below.refl _ _) | (with_reducible assumption) | (with_reducible refine Below.drew ?_) | (with_reducible refine below_drewN ?_ _) | (with_reducible refine Below.alloc ?_ ?_ _) | (with_reducible refine Below.setCell ?_ ?_ _) | (with_reducible refine Below.step (by assumption) ?_ ?_))); all_goals (first | omega | (simp; done) | (simp; omega)))) (by simp; omega) (by first | omega | (simp; done) | (simp; omega)) ?_; intro A2 c2 w2 ho2 hg2 ha2; (have hb2 := below_own0 (B := w.heap.size + 1 + 1) hg2 (by first | omega | (simp; done) | (simp; omega)) (by first | omega | (simp; done) | (simp; omega))); (have hc2 := fun (b o : Nat) (h : b < w.heap.size + 1 + 1) => hb2.cell (p := ⟨b, o, none⟩) h); (have hf2 := fun (b o : Nat) (h : b < w.heap.size + 1 + 1) => hb2.frozen (p := ⟨b, o, none⟩) h); (have hz2 := hg2.size); (try simp at hz2); (have hp2_0 : w.heap.size < w2.heap.size := by omega); (have hp2_1 : w.heap.size + 1 < w2.heap.size := by omega); (have hbw2 : Below w.heap.size w w2 := by refine Below.trans ?_ (hb2.mono ?_) <;> first | ((repeat' (first | (with_reducible exact Below.refl _ _) | (with_reducible assumption) | (with_reducible refine Below.drew ?_) | (with_reducible refine below_drewN ?_ _) | (with_reducible refine Below.alloc ?_ ?_ _) | (with_reducible refine Below.setCell ?_ ?_ _) | (with_reducible refine Below.step (by assumption) ?_ ?_))); all_goals (first | omega | (simp; done) | (simp; omega))) | omega); (have HA2 := Lib.hid ha2); (have HO2 := Lib.hid ho2); (have HG2 := Lib.hid hg2); clear hg2 ha2 ho2))
  all_goals
    have ho1 : OwnP 141 (w.heap.size + 1 + 1) w1 (.slice A1 ns.length c1) ns := HO1.out
    have ho2 : OwnP 143 (w.heap.size + 1 + 1) w2 (.slice A2 ls.length c2) ls := HO2.out
    have hap : Hid (∀ k, (Value.slice A1 ns.length c1).ownBlock = some k → (Value.slice A2 ls.length c2).ownBlock = some k → False) := Lib.hid (fun k e1 e2 => by
      have hk := (ho1.lt k e1).2
      rcases HA1.out with a | a <;> rcases HA2.out with b | b
      all_goals
        have a' := e1.symm.trans a
        have b' := e2.symm.trans b
        simp [Value.ownBlock] at a' b'
        omega)
    have ho1' : OwnP 141 (w.heap.size + 1 + 1) w2 (.slice A1 ns.length c1) ns := by
      first
        | (refine OwnP.apart ho1 HG2.out ?_
           intro k e1 e2
           have hk := (ho1.lt k e1).2
           rcases HA1.out with a | a
           all_goals
             have a' := e1.symm.trans a
             simp [Value.ownBlock] at a' e2
             omega)
        | (refine OwnP.apart (ho1.alloc _) HG2.out ?_
           intro k e1 e2
           have hk := (ho1.lt k e1).2
           rcases HA1.out with a | a
           all_goals
             have a' := e1.symm.trans a
             simp [Value.ownBlock] at a' e2
             omega)
    have o1 := Lib.hid (((ho1'.setLow (p := ⟨w.heap.size + 1, 0, none⟩) (by first | omega | (simp; done) | (simp; omega)) (.slice A1 ns.length c1)).setLow (p := ⟨w.heap.size + 1, 1, none⟩) (by first | omega | (simp; done) | (simp; omega)) (.slice A2 ls.length c2)).mono (show w.heap.size ≤ _ by omega))
    have o2 := Lib.hid (((ho2.setLow (p := ⟨w.heap.size + 1, 0, none⟩) (by first | omega | (simp; done) | (simp; omega)) (.slice A1 ns.length c1)).setLow (p := ⟨w.heap.size + 1, 1, none⟩) (by first | omega | (simp; done) | (simp; omega)) (.slice A2 ls.length c2)).mono (show w.heap.size ≤ _ by omega))
    have HB : Hid (Below w.heap.size w ((w2.setCell ⟨w.heap.size + 1, 0, none⟩ (.slice A1 ns.length c1)).setCell ⟨w.heap.size + 1, 1, none⟩ (.slice A2 ls.length c2))) := Lib.hid ((hbw2.setCell (by first | omega | (simp; done) | (simp; omega)) _).setCell (by first | omega | (simp; done) | (simp; omega)) _)
    clear ho1 ho2 ho1' HO1 HO2 HA1 HA2 HG2 hb1 hb2 hbw1 hbw2
    go_wp2
    exact bodyPost_ret (v := .agg #[.slice A1 ns.length c1, .slice A2 ls.length c2]) (by simp [results, Tryz.results84, go_sem, hp1_0, hp1_1, hp2_0, hp2_1, hc2, hc1]) rfl ⟨_, _, _, _, rfl, ⟨o1.out, o2.out, hap.out⟩, HB.out⟩

end Go.Proofs.YtoknmjpnelbplaaGreat
