/- part 4 -/
import Derived.Test.YtnjcpljhmhdhkaaGreatSPk2
import Derived.Deep.AppendSrc
import Derived.Deep.AppendLies
import Derived.Deep.RegionHeld3
import Derived.Test.YtnjcpljhmhdhkaaGreatProg
import Derived.Outline
set_option linter.unusedSimpArgs false
set_option linter.unusedVariables false
namespace Go.Proofs.YtnjcpljhmhdhkaaGreat
open Go.RowKit
theorem flat_one (l : List (Int × Int)) : ∀ u ∈ l.flatMap prc, u.oneCell' = true := by
  intro u hu
  rw [List.mem_flatMap] at hu
  obtain ⟨p, _, hp⟩ := hu
  simp only [prc, List.mem_cons, List.mem_nil_iff, or_false] at hp
  rcases hp with rfl | rfl <;> rfl
theorem run_append_none {P : Program} {w : World} {t ty e : TypeId} {i : TypeInfo} (ht : P.underlying t = some (.slice e)) (hi : P.info? e = some i) (A : Option Addr) (n cp c : Nat) (h : n ≤ cp) :
    (Builtin.append_ #[t, t] ty #[.slice A n cp, .slice none 0 c]).run P w = .ok (.slice A n cp) w := by
  simp [Builtin.append_, run_underlying ht, sizeOf, typeInfo, hi, Builtin.lenOf, h, Builtin.firstCells]
  cases A
  · simp
  · simp [storeCells]
theorem addr_add (b off j : Nat) : (⟨b, off, none⟩ : Addr).add j = ⟨b, off + j, none⟩ := by
  unfold Addr.add
  split <;> simp_all
theorem run_append_pairs {P : Program} {w : World} {t ty e : TypeId} {i : TypeInfo} {base : Nat} (ht : P.underlying t = some (.slice e)) (hi : P.info? e = some i) (hz : i.zero = some (.agg #[.int .i64 0, .int .i64 0])) (hsize : i.size = 2) (hby : i.bytes = 16)
    {v u : Value} {xs l : List (Int × Int)} (hown : OwnP e base w v xs) (hr : RP w u l) (hlen : xs.length + l.length ≤ 1048576 + 1048576) (hbase : base ≤ w.heap.size) :
    ∃ A c w', (Builtin.append_ #[t, t] ty #[v, u]).run P w = .ok (.slice A (xs ++ l).length c) w' ∧ OwnP e base w' (.slice A (xs ++ l).length c) (xs ++ l) ∧ w.grownBy w' v.ownBlock ∧
      ((Value.slice A (xs ++ l).length c).ownBlock = v.ownBlock ∨ (Value.slice A (xs ++ l).length c).ownBlock = some w.heap.size) := by
  obtain ⟨A, c, rfl, hc, hm, hcell⟩ := hr.form
  cases A with
  | none =>
    have hl : l = [] := by
      rcases Nat.eq_zero_or_pos l.length with h | h
      · exact List.eq_nil_of_length_eq_zero h
      · obtain ⟨b, off, h1, _⟩ := hcell h
        cases h1
    subst hl
    obtain ⟨A, cp, rfl⟩ := hown.form
    have hcp : xs.length ≤ cp := by
      obtain ⟨A', c', e1, e2, _⟩ := hown.reads.form
      cases e1; exact e2
    refine ⟨A, cp, w, ?_, by rw [List.append_nil]; exact hown, World.grownBy.refl _ _, by rw [List.append_nil]; exact .inl rfl⟩
    rw [List.append_nil]
    exact run_append_none ht hi A _ cp c hcp
  | some a =>
    have hn : ∀ (j : Nat) (x : Value), (l.flatMap prc)[j]? = some x → w.cell? (a.add j) = some x := by
      intro j x hx
      have hj := (List.getElem?_eq_some_iff.1 hx).1
      rw [flat_len prc 2 (fun _ => rfl)] at hj
      obtain ⟨_, A', c', e1, _, _, e4⟩ := hr
      cases e1
      obtain ⟨b, off, e5, _, e6⟩ := e4 (by omega)
      cases e5
      rw [addr_add]
      exact e6 j x hx
    have ho : w.ownsRow base e 2 v xs.length (xs.flatMap prc) := hown
    obtain ⟨v', w', h1, h2, h3, _, h5⟩ := run_append_own_at (P := P) w base t ty e i _ 2 16 ht hi hz hsize hby rfl (by decide) v xs.length (xs.flatMap prc) ho a l.length c (l.flatMap prc) (flat_len prc 2 (fun _ => rfl) l) hn (flat_one l) (by unfold maxLen; omega) (by omega) hbase
    have h2' : OwnP e base w' v' (xs ++ l) := by
      unfold OwnP
      rw [List.length_append, List.flatMap_append]
      exact h2
    obtain ⟨A', c', rfl⟩ := h2'.form
    exact ⟨A', c', w', h1, h2', h3, h5⟩
theorem step_append_pairs {P : Program} {w : World} {ops : Array Oper} {o : Oper} {a : Act} {K : Act → World → Prop} {Q : Exit → Act → World → Prop} {E : Prop} (hgd : o.guard = none) (s x : Operand) (t : TypeId)
    (ho : o.op = .call { callee := .builtin .append, args := #[s, x], argTypes := #[t, t] })
    (base : Nat) (e : TypeId) (i : TypeInfo) (ht : P.underlying t = some (.slice e)) (hi : P.info? e = some i) (hz : i.zero = some (.agg #[.int .i64 0, .int .i64 0])) (hsize : i.size = 2) (hby : i.bytes = 16)
    (v u : Value) (xs l : List (Int × Int)) (hs : a.eval s = v) (hx : a.eval x = u) (hown : OwnP e base w v xs) (hr : RP w u l) (hlen : xs.length + l.length ≤ 1048576 + 1048576) (hbase : base ≤ w.heap.size)
    (h : ∀ A c w', OwnP e base w' (.slice A (xs ++ l).length c) (xs ++ l) → w.grownBy w' v.ownBlock → ((Value.slice A (xs ++ l).length c).ownBlock = v.ownBlock ∨ (Value.slice A (xs ++ l).length c).ownBlock = some w.heap.size) → K (a.put o.dst (.slice A (xs ++ l).length c)) w') :
    if Region.wanted o (yielded ops a.tmps) = true then Oper.wp P o a w K Q else E := by
  have hw : Region.wanted o (yielded ops a.tmps) = true := by simp [Region.wanted, hgd]
  rw [if_pos hw]
  obtain ⟨A, c, w', hrun, h2, h3, h4⟩ := run_append_pairs (ty := o.type) ht hi hz hsize hby hown hr hlen hbase
  unfold Oper.wp execOp
  simp only [ho, resolve, invoke, builtin, Sem.run_bind, Sem.run_pure, Result.andThen_ok, List.map_toArray, List.map_cons, List.map_nil, hs, hx, hrun]
  exact h A c w' h2 h3 h4
theorem wpList_append_pairs {P : Program} {w : World} {ops : Array Oper} {rest : List Oper} {o : Oper} {a : Act} {Q : Exit → Act → World → Prop} (hgd : o.guard = none) (s x : Operand) (t : TypeId)
    (ho : o.op = .call { callee := .builtin .append, args := #[s, x], argTypes := #[t, t] })
    (base : Nat) (e : TypeId) (i : TypeInfo) (ht : P.underlying t = some (.slice e)) (hi : P.info? e = some i) (hz : i.zero = some (.agg #[.int .i64 0, .int .i64 0])) (hsize : i.size = 2) (hby : i.bytes = 16)
    (v u : Value) (xs l : List (Int × Int)) (hs : a.eval s = v) (hx : a.eval x = u) (hown : OwnP e base w v xs) (hr : RP w u l) (hlen : xs.length + l.length ≤ 1048576 + 1048576) (hbase : base ≤ w.heap.size)
    (h : ∀ A c w', OwnP e base w' (.slice A (xs ++ l).length c) (xs ++ l) → w.grownBy w' v.ownBlock → ((Value.slice A (xs ++ l).length c).ownBlock = v.ownBlock ∨ (Value.slice A (xs ++ l).length c).ownBlock = some w.heap.size) → wpList P ops Q rest (a.put o.dst (.slice A (xs ++ l).length c)) w') :
    wpList P ops Q (o :: rest) a w :=
  wpList_plain hgd fun K hK => by
    obtain ⟨A, c, w', hrun, h2, h3, h4⟩ := run_append_pairs (ty := o.type) ht hi hz hsize hby hown hr hlen hbase
    unfold Oper.wp execOp
    simp only [ho, resolve, invoke, builtin, Sem.run_bind, Sem.run_pure, Result.andThen_ok, List.map_toArray, List.map_cons, List.map_nil, hs, hx, hrun]
    exact hK _ _ (h A c w' h2 h3 h4)
theorem OwnP.made {t : TypeId} {base : Nat} {w : World} {g : Nat} (hg : g = w.heap.size) (hb : base ≤ w.heap.size) : OwnP t base (w.alloc (.cells #[] t)) (.slice (some ⟨g, 0, none⟩) 0 0) [] := by
  subst hg
  exact World.ownsRow_made _ _ _ hb (by simp) (by simp [maxLen])
theorem below_nil {w w' : World} (h : w.grownBy w' (Value.slice none 0 0).ownBlock) : Below w.heap.size w w' := (Below.refl _ _).grown h (Nat.le_refl _) (by intro k hk; cases hk)
set_option maxHeartbeats 4000000 in
set_option maxRecDepth 100000 in
theorem iCopy_any (vn vl : Value) (ns ls : List (Int × Int)) (w : World) (hn : RP w vn ns) (hl : RP w vl ls) (h1 : ns.length ≤ 1048576) (h2 : ls.length ≤ 1048576) :
    Calls Tryz.prog 81 #[.agg #[vn, vl]] w (RetW ns ls w) := by
  obtain ⟨i0, hi, iz0, iz1, iz2⟩ := info_parts infoNode
  obtain ⟨j0, hj, jz0, jz1, jz2⟩ := info_parts infoLead
  have hlt2 : w.heap.size < w.heap.size + 1 + 1 := by omega
  go_enter Tryz.func81, Tryz.ntmps81
  go_wp2_with fail
  go_region_held3 (fun w' => w'.cell? ⟨w.heap.size, 0, none⟩ = some vn ∧ w'.cell? ⟨w.heap.size, 1, none⟩ = some vl)
    (go_keep)
    (first | (refine step_append_pairs rfl _ _ _ rfl (w.heap.size + 1 + 1) 106 i0 Tryz.underlying24 hi iz0 iz1 iz2 (.slice none 0 0) vn [] ns rfl rfl (OwnP.nil _ _ _) (RP.below hn (by exact bel_)) (by simp; omega) sz_ ?_; intro A1 c1 w1 ho1 hg1 ha1; (have hb1 := below_nil hg1); (have HA1 := Lib.hid ha1); (have HO1 := Lib.hid ho1); clear hg1 ha1 ho1; (first | (with_reducible have hcf1 := bcell_drew hb1) | have hcf1 := bcell hb1); obtain ⟨hc1, hf1⟩ := hcf1; have hz1 := hb1.size; (try simp at hz1); (try have hp1_0 : w.heap.size < w1.heap.size := by omega); (try have hp1_1 : w.heap.size + 1 < w1.heap.size := by omega); (try have hp1_2 : w.heap.size + 1 + 1 < w1.heap.size := by omega); (try have hp1_3 : w.heap.size + 1 + 1 + 1 < w1.heap.size := by omega)) | (refine step_append_pairs rfl _ _ _ rfl (w.heap.size + 1 + 1) 108 j0 Tryz.underlying25 hj jz0 jz1 jz2 (.slice none 0 0) vl [] ls rfl rfl (OwnP.nil _ _ _) (RP.below hl (by exact bel_)) (by simp; omega) sz_ ?_; intro A2 c2 w2 ho2 hg2 ha2; (have hb2 := below_nil hg2); (have HA2 := Lib.hid ha2); (have HO2 := Lib.hid ho2); clear hg2 ha2 ho2; (first | (with_reducible have hcf2 := bcell_drew hb2) | have hcf2 := bcell hb2); obtain ⟨hc2, hf2⟩ := hcf2; have hz2 := hb2.size; (try simp at hz2); (try have hp2_0 : w.heap.size < w2.heap.size := by omega); (try have hp2_1 : w.heap.size + 1 < w2.heap.size := by omega); (try have hp2_2 : w.heap.size + 1 + 1 < w2.heap.size := by omega); (try have hp2_3 : w.heap.size + 1 + 1 + 1 < w2.heap.size := by omega)))
  have ho1 : OwnP 106 (w.heap.size + 1 + 1) w1 (.slice A1 ns.length c1) ns := HO1.out
  have ho2 : OwnP 108 (w.heap.size + 1 + 1) w2 (.slice A2 ls.length c2) ls := HO2.out
  have hap : Hid (∀ k, (Value.slice A1 ns.length c1).ownBlock = some k → (Value.slice A2 ls.length c2).ownBlock = some k → False) := Lib.hid (fun k h1 h2 => by
    have h3 := (ho1.lt k h1).2
    rcases HA2.out with h | h
    · have h' : (Value.slice A2 ls.length c2).ownBlock = none := h
      rw [h'] at h2; cases h2
    · have h' : (Value.slice A2 ls.length c2).ownBlock = some w1.heap.size := h
      rw [h'] at h2; cases h2; omega)
  have ho1' := ho1.kept hb2
  have o1 := Lib.hid (((ho1'.setLow (p := ⟨w.heap.size + 1, 0, none⟩) sz_ (.slice A1 ns.length c1)).setLow (p := ⟨w.heap.size + 1, 1, none⟩) sz_ (.slice A2 ls.length c2)).mono (show w.heap.size ≤ _ by omega))
  have o2 := Lib.hid (((ho2.setLow (p := ⟨w.heap.size + 1, 0, none⟩) sz_ (.slice A1 ns.length c1)).setLow (p := ⟨w.heap.size + 1, 1, none⟩) sz_ (.slice A2 ls.length c2)).mono (show w.heap.size ≤ _ by omega))
  clear ho1 ho2 ho1' HO1 HO2 HA1 HA2
  go_wp2
  exact bodyPost_ret (v := .agg #[.slice A1 ns.length c1, .slice A2 ls.length c2]) (by simp [results, Tryz.results81, go_sem, hp1_0, hp1_1, hp2_0, hp2_1, hc2, hc1]) rfl ⟨_, _, _, _, rfl, ⟨o1.out, o2.out, hap.out⟩, by exact bel_⟩
theorem below_own0 {w w' : World} {g B : Nat} (h : w.grownBy w' (some g)) (hB : B ≤ w.heap.size) (hg : B ≤ g) : Below B w w' := (Below.refl _ _).grown h hB (fun k hk => by cases hk; exact hg)
set_option maxHeartbeats 4000000 in
set_option maxRecDepth 100000 in
theorem sCopy_any (vn vl : Value) (ns ls : List (Int × Int)) (w : World) (hn : RP w vn ns) (hl : RP w vl ls) (h1 : ns.length ≤ 1048576) (h2 : ls.length ≤ 1048576) :
    Calls Tryz.prog 110 #[.agg #[vn, vl]] w (RetW ns ls w) := by
  obtain ⟨i0, hi, iz0, iz1, iz2⟩ := info_parts infoNode
  obtain ⟨j0, hj, jz0, jz1, jz2⟩ := info_parts infoLead
  have hlt2 : w.heap.size < w.heap.size + 1 + 1 := by omega
  have hlt3 : w.heap.size < w.heap.size + 1 + 1 + 1 := by omega
  go_enter Tryz.func110, Tryz.ntmps110
  go_wp2_with fail
  go_region_held3 (fun w' => w'.cell? ⟨w.heap.size, 0, none⟩ = some vn ∧ w'.cell? ⟨w.heap.size, 1, none⟩ = some vl)
    (go_keep)
    (first | (refine step_append_pairs rfl _ _ _ rfl (w.heap.size + 1 + 1) 106 i0 Tryz.underlying24 hi iz0 iz1 iz2 (.slice (some ⟨w.heap.size + 1 + 1, 0, none⟩) 0 0) vn [] ns rfl rfl (OwnP.drew (OwnP.made (by simp) sz_)) (RP.below hn (by exact bel_)) (by simp; omega) sz_ ?_; intro A1 c1 w1 ho1 hg1 ha1; (have hb1 := below_own0 (B := w.heap.size + 1 + 1) hg1 sz_ sz_); (have hc1 := fun (b o : Nat) (h : b < w.heap.size + 1 + 1) => hb1.cell (p := ⟨b, o, none⟩) h); (have hf1 := fun (b o : Nat) (h : b < w.heap.size + 1 + 1) => hb1.frozen (p := ⟨b, o, none⟩) h); (have hz1 := hg1.size); (try simp at hz1); (have hp1_0 : w.heap.size < w1.heap.size := by omega); (have hp1_1 : w.heap.size + 1 < w1.heap.size := by omega); (have hbw1 : Below w.heap.size w w1 := by refine Below.trans ?_ (hb1.mono ?_) <;> first | (exact bel_) | omega); (have HA1 := Lib.hid ha1); (have HO1 := Lib.hid ho1); (have HG1 := Lib.hid hg1); clear hg1 ha1 ho1) | ((refine step_append_pairs rfl _ _ _ rfl (w.heap.size + 1 + 1) 106 i0 Tryz.underlying24 hi iz0 iz1 iz2 (.slice (some ⟨w.heap.size + 1 + 1, 0, none⟩) 0 0) vn [] ns rfl rfl (OwnP.drew (OwnP.alloc (OwnP.made (by simp) sz_) _)) (RP.below hn (by exact bel_)) (by simp; omega) sz_ ?_); intro A1 c1 w1 ho1 hg1 ha1; (have hb1 := below_own0 (B := w.heap.size + 1 + 1) hg1 sz_ sz_); (have hc1 := fun (b o : Nat) (h : b < w.heap.size + 1 + 1) => hb1.cell (p := ⟨b, o, none⟩) h); (have hf1 := fun (b o : Nat) (h : b < w.heap.size + 1 + 1) => hb1.frozen (p := ⟨b, o, none⟩) h); (have hz1 := hg1.size); (try simp at hz1); (have hp1_0 : w.heap.size < w1.heap.size := by omega); (have hp1_1 : w.heap.size + 1 < w1.heap.size := by omega); (have hbw1 : Below w.heap.size w w1 := by refine Below.trans ?_ (hb1.mono ?_) <;> first | (exact bel_) | omega); (have HA1 := Lib.hid ha1); (have HO1 := Lib.hid ho1); (have HL1 := Lib.hid ((OwnP.drew (OwnP.made (t := 108) (base := w.heap.size + 1 + 1) (g := w.heap.size + 1 + 1 + 1) (by simp) sz_)).apart hg1 (by intro k h h'; simp [Value.ownBlock] at h h'; omega))); clear hg1 ha1 ho1) | ((refine step_append_pairs rfl _ _ _ rfl (w.heap.size + 1 + 1) 106 i0 Tryz.underlying24 hi iz0 iz1 iz2 (.slice (some ⟨w.heap.size + 1 + 1 + 1, 0, none⟩) 0 0) vn [] ns rfl rfl (OwnP.drew (OwnP.made (by simp) sz_)) (RP.below hn (by exact bel_)) (by simp; omega) sz_ ?_); intro A1 c1 w1 ho1 hg1 ha1; (have hb1 := below_own0 (B := w.heap.size + 1 + 1) hg1 sz_ sz_); (have hc1 := fun (b o : Nat) (h : b < w.heap.size + 1 + 1) => hb1.cell (p := ⟨b, o, none⟩) h); (have hf1 := fun (b o : Nat) (h : b < w.heap.size + 1 + 1) => hb1.frozen (p := ⟨b, o, none⟩) h); (have hz1 := hg1.size); (try simp at hz1); (have hp1_0 : w.heap.size < w1.heap.size := by omega); (have hp1_1 : w.heap.size + 1 < w1.heap.size := by omega); (have hbw1 : Below w.heap.size w w1 := by refine Below.trans ?_ (hb1.mono ?_) <;> first | (exact bel_) | omega); (have HA1 := Lib.hid ha1); (have HO1 := Lib.hid ho1); (have HL1 := Lib.hid ((OwnP.drew (OwnP.alloc (OwnP.made (t := 108) (base := w.heap.size + 1 + 1) (g := w.heap.size + 1 + 1) (by simp) sz_) _)).apart hg1 (by intro k h h'; simp [Value.ownBlock] at h h'; omega))); clear hg1 ha1 ho1) | (refine step_append_pairs rfl _ _ _ rfl (w.heap.size + 1 + 1) 108 j0 Tryz.underlying25 hj jz0 jz1 jz2 (.slice (some ⟨w.heap.size + 1 + 1 + 1, 0, none⟩) 0 0) vl [] ls rfl rfl HL1.out (RP.below hl (by exact bel_)) (by simp; omega) sz_ ?_; intro A2 c2 w2 ho2 hg2 ha2; (have hb2 := below_own0 (B := w.heap.size + 1 + 1) hg2 sz_ sz_); (have hc2 := fun (b o : Nat) (h : b < w.heap.size + 1 + 1) => hb2.cell (p := ⟨b, o, none⟩) h); (have hf2 := fun (b o : Nat) (h : b < w.heap.size + 1 + 1) => hb2.frozen (p := ⟨b, o, none⟩) h); (have hz2 := hg2.size); (try simp at hz2); (have hp2_0 : w.heap.size < w2.heap.size := by omega); (have hp2_1 : w.heap.size + 1 < w2.heap.size := by omega); (have hbw2 : Below w.heap.size w w2 := by refine Below.trans ?_ (hb2.mono ?_) <;> first | (exact bel_) | omega); (have HA2 := Lib.hid ha2); (have HO2 := Lib.hid ho2); (have HG2 := Lib.hid hg2); clear hg2 ha2 ho2) | (refine step_append_pairs rfl _ _ _ rfl (w.heap.size + 1 + 1) 108 j0 Tryz.underlying25 hj jz0 jz1 jz2 (.slice (some ⟨w.heap.size + 1 + 1, 0, none⟩) 0 0) vl [] ls rfl rfl HL1.out (RP.below hl (by exact bel_)) (by simp; omega) sz_ ?_; intro A2 c2 w2 ho2 hg2 ha2; (have hb2 := below_own0 (B := w.heap.size + 1 + 1) hg2 sz_ sz_); (have hc2 := fun (b o : Nat) (h : b < w.heap.size + 1 + 1) => hb2.cell (p := ⟨b, o, none⟩) h); (have hf2 := fun (b o : Nat) (h : b < w.heap.size + 1 + 1) => hb2.frozen (p := ⟨b, o, none⟩) h); (have hz2 := hg2.size); (try simp at hz2); (have hp2_0 : w.heap.size < w2.heap.size := by omega); (have hp2_1 : w.heap.size + 1 < w2.heap.size := by omega); (have hbw2 : Below w.heap.size w w2 := by refine Below.trans ?_ (hb2.mono ?_) <;> first | (exact bel_) | omega); (have HA2 := Lib.hid ha2); (have HO2 := Lib.hid ho2); (have HG2 := Lib.hid hg2); clear hg2 ha2 ho2) | (refine step_append_pairs rfl _ _ _ rfl (w.heap.size + 1 + 1) 108 j0 Tryz.underlying25 hj jz0 jz1 jz2 (.slice (some ⟨w1.heap.size, 0, none⟩) 0 0) vl [] ls rfl rfl (OwnP.made rfl sz_) (RP.below hl (by exact bel_)) (by simp; omega) sz_ ?_; intro A2 c2 w2 ho2 hg2 ha2; (have hb2 := below_own0 (B := w.heap.size + 1 + 1) hg2 sz_ sz_); (have hc2 := fun (b o : Nat) (h : b < w.heap.size + 1 + 1) => hb2.cell (p := ⟨b, o, none⟩) h); (have hf2 := fun (b o : Nat) (h : b < w.heap.size + 1 + 1) => hb2.frozen (p := ⟨b, o, none⟩) h); (have hz2 := hg2.size); (try simp at hz2); (have hp2_0 : w.heap.size < w2.heap.size := by omega); (have hp2_1 : w.heap.size + 1 < w2.heap.size := by omega); (have hbw2 : Below w.heap.size w w2 := by refine Below.trans ?_ (hb2.mono ?_) <;> first | (exact bel_) | omega); (have HA2 := Lib.hid ha2); (have HO2 := Lib.hid ho2); (have HG2 := Lib.hid hg2); clear hg2 ha2 ho2))
  all_goals
    have ho1 : OwnP 106 (w.heap.size + 1 + 1) w1 (.slice A1 ns.length c1) ns := HO1.out
    have ho2 : OwnP 108 (w.heap.size + 1 + 1) w2 (.slice A2 ls.length c2) ls := HO2.out
    have hap : Hid (∀ k, (Value.slice A1 ns.length c1).ownBlock = some k → (Value.slice A2 ls.length c2).ownBlock = some k → False) := Lib.hid (fun k e1 e2 => by
      have hk := (ho1.lt k e1).2
      rcases HA1.out with a | a <;> rcases HA2.out with b | b
      all_goals
        have a' := e1.symm.trans a
        have b' := e2.symm.trans b
        simp [Value.ownBlock] at a' b'
        omega)
    have ho1' : OwnP 106 (w.heap.size + 1 + 1) w2 (.slice A1 ns.length c1) ns := by
      first
        | (refine OwnP.apart ho1 HG2.out ?_
           intro k e1 e2
           have hk := (ho1.lt k e1).2
           rcases HA1.out with a | a
           all_goals
             have a' := e1.symm.trans a
             simp [Value.ownBlock] at a' e2
             omega)
        | (refine OwnP.apart (ho1.alloc _) HG2.out ?_
           intro k e1 e2
           have hk := (ho1.lt k e1).2
           rcases HA1.out with a | a
           all_goals
             have a' := e1.symm.trans a
             simp [Value.ownBlock] at a' e2
             omega)
    have o1 := Lib.hid (((ho1'.setLow (p := ⟨w.heap.size + 1, 0, none⟩) sz_ (.slice A1 ns.length c1)).setLow (p := ⟨w.heap.size + 1, 1, none⟩) sz_ (.slice A2 ls.length c2)).mono (show w.heap.size ≤ _ by omega))
    have o2 := Lib.hid (((ho2.setLow (p := ⟨w.heap.size + 1, 0, none⟩) sz_ (.slice A1 ns.length c1)).setLow (p := ⟨w.heap.size + 1, 1, none⟩) sz_ (.slice A2 ls.length c2)).mono (show w.heap.size ≤ _ by omega))
    have HB : Hid (Below w.heap.size w ((w2.setCell ⟨w.heap.size + 1, 0, none⟩ (.slice A1 ns.length c1)).setCell ⟨w.heap.size + 1, 1, none⟩ (.slice A2 ls.length c2))) := Lib.hid ((hbw2.setCell sz_ _).setCell sz_ _)
    clear ho1 ho2 ho1' HO1 HO2 HA1 HA2 HG2 hb1 hb2 hbw1 hbw2
    go_wp2
    exact bodyPost_ret (v := .agg #[.slice A1 ns.length c1, .slice A2 ls.length c2]) (by simp [results, Tryz.results110, go_sem, hp1_0, hp1_1, hp2_0, hp2_1, hc2, hc1]) rfl ⟨_, _, _, _, rfl, ⟨o1.out, o2.out, hap.out⟩, HB.out⟩
end Go.Proofs.YtnjcpljhmhdhkaaGreat

namespace Go.Proofs.YtnjcpljhmhdhkaaGreat
open Go.RowKit
set_option maxHeartbeats 400000 in
theorem within_any (n lo hi : Int) (w : World) :
    Calls Tryz.prog 78 #[.int .i64 n, .int .i64 lo, .int .i64 hi] w fun e w' => e = .returned (.bool (inB n lo hi)) ∧ w = w' := by
  go_enter Tryz.func78, Tryz.ntmps78
  go_wp2
  all_goals go_ret
  all_goals refine ⟨ret_bool ?_, rfl⟩
  all_goals first | (simp [inB, *]; done) | (simp [inB, *]; omega)
set_option maxHeartbeats 400000 in
theorem l01In_any (n lo hi : Int) (w : World) :
    Calls Tryz.prog 138 #[.int .i64 n, .int .i64 lo, .int .i64 hi] w fun e w' => e = .returned (.bool (inB n lo hi)) ∧ w = w' := by
  go_enter Tryz.func138, Tryz.ntmps138
  go_wp2
  all_goals go_ret
  all_goals refine ⟨ret_bool ?_, rfl⟩
  all_goals first | (simp [inB, *]; done) | (simp [inB, *]; omega)
end Go.Proofs.YtnjcpljhmhdhkaaGreat

namespace Go.Proofs.YtnjcpljhmhdhkaaGreat
open Go.RowKit
attribute [local go_sem ↓] run_eqNode run_neNode run_mn2 run_mx2
def nodeB (x y : Int) : Bool := inB x 0 20 && inB y 0 20
theorem nodeB_bd {x y : Int} (h : nodeB x y = true) : 0 ≤ x ∧ x ≤ 20 ∧ 0 ≤ y ∧ y ≤ 20 := by
  simp [nodeB, inB] at h; omega
def turnI (ax ay bx by' cx cy : Int) : Int := (bx - ax) * (cy - ay) - (by' - ay) * (cx - ax)
def betwB (ax ay bx by' cx cy : Int) : Bool :=
  nodeB ax ay && nodeB bx by' && nodeB cx cy && !(prB ax ay bx by') && !(prB bx by' cx cy) && !(prB ax ay cx cy) && (turnI ax ay bx by' cx cy == 0) && inB cx (mn2 ax bx) (mx2 ax bx) && inB cy (mn2 ay by') (mx2 ay by')
theorem mul_bd {u v : Int} (h1 : -20 ≤ u) (h2 : u ≤ 20) (h3 : -20 ≤ v) (h4 : v ≤ 20) : -400 ≤ u * v ∧ u * v ≤ 400 := by
  have h : (u * v).natAbs ≤ 20 * 20 := by
    rw [Int.natAbs_mul]
    exact Nat.mul_le_mul (by omega) (by omega)
  omega
theorem turnI_bd {ax ay bx by' cx cy : Int} (ha : nodeB ax ay = true) (hb : nodeB bx by' = true) (hc : nodeB cx cy = true) : -800 ≤ turnI ax ay bx by' cx cy ∧ turnI ax ay bx by' cx cy ≤ 800 := by
  have h1 := nodeB_bd ha
  have h2 := nodeB_bd hb
  have h3 := nodeB_bd hc
  have m1 := mul_bd (u := bx - ax) (v := cy - ay) (by omega) (by omega) (by omega) (by omega)
  have m2 := mul_bd (u := by' - ay) (v := cx - ax) (by omega) (by omega) (by omega) (by omega)
  unfold turnI
  omega
set_option maxHeartbeats 400000 in
theorem sNodeOk_any (x y : Int) (w : World) :
    Calls Tryz.prog 195 #[.agg #[.int .i64 x, .int .i64 y]] w fun e w' => e = .returned (.bool (nodeB x y)) ∧ Below w.heap.size w w' := by
  go_enter Tryz.func195, Tryz.ntmps195
  go_wp2_with (go_at_call 138; refine (l01In_any _ _ _ _).mono ?_; rintro e w' ⟨rfl, rfl⟩)
  all_goals go_ret
  all_goals refine ⟨ret_bool ?_, by exact bel_⟩
  all_goals simp_all [nodeB]
set_option maxHeartbeats 400000 in
theorem iNodeOk_any (x y : Int) (w : World) :
    Calls Tryz.prog 211 #[.agg #[.int .i64 x, .int .i64 y]] w fun e w' => e = .returned (.bool (nodeB x y)) ∧ Below w.heap.size w w' := by
  go_enter Tryz.func211, Tryz.ntmps211
  go_wp2_with (go_at_call 78; refine (within_any _ _ _ _).mono ?_; rintro e w' ⟨rfl, rfl⟩)
  all_goals go_ret
  all_goals refine ⟨ret_bool ?_, by exact bel_⟩
  all_goals simp_all [nodeB]
def nodesB (l : List (Int × Int)) : Bool := l.all fun p => nodeB p.1 p.2
set_option maxHeartbeats 2000000 in
theorem nodesOk_any (v : Value) (l : List (Int × Int)) (w : World) (h : RP w v l) :
    Calls Tryz.prog 154 #[v] w fun e w' => e = .returned (.bool (nodesB l)) ∧ Below w.heap.size w w' := by
  obtain ⟨A, c, rfl, hc, hm, hcell⟩ := h.form
  unfold maxLen at hm
  clear h
  go_enter Tryz.func154, Tryz.ntmps154
  go_wp2
  go_loopw [7] (fun i wr => ∃ k : Nat, k ≤ l.length ∧ i = .int .i64 k ∧ Hid (nodesB (l.take k) = true) ∧ Below w.heap.size w wr) (fun i _ => l.length - (intOf i).toNat)
  case atStart => exact ⟨0, Nat.zero_le _, rfl, Lib.hid (by simp [nodesB]), Below.refl _ _⟩
  case round =>
    obtain ⟨k, hk, rfl, HT, hbl⟩ := hrel
    have hsz := hbl.size
    by_cases hlt : k < l.length
    · obtain ⟨b, off, rfl, hb, hcl⟩ := hcell (by omega)
      obtain ⟨k0, k1⟩ := hcl k hlt
      have q0 := (hbl.cell (p := ⟨b, off + k * 2, none⟩) hb).trans k0
      have q1 := (hbl.cell (p := ⟨b, off + k * 2 + 1, none⟩) hb).trans k1
      clear k0 k1 hcl hcell
      cases hok : nodeB l[k].1 l[k].2
      · have HOK := Lib.hid hok
        have HF : Hid (nodesB l = false) := Lib.hid (by
          unfold nodesB
          rw [List.all_eq_false]
          exact ⟨l[k], List.getElem_mem hlt, by rw [hok]; simp⟩)
        clear hok
        go_wp2_with fail
        refine (iNodeOk_any _ _ _).mono ?_
        rintro e w1 ⟨rfl, hb1⟩; (first | (with_reducible have hcf1 := bcell_drew hb1) | have hcf1 := bcell hb1); obtain ⟨hc1, hf1⟩ := hcf1; have hz1 := hb1.size; (try simp at hz1); (try have hp1_0 : w.heap.size < w1.heap.size := by omega); (try have hp1_1 : w.heap.size + 1 < w1.heap.size := by omega); (try have hp1_2 : w.heap.size + 1 + 1 < w1.heap.size := by omega); (try have hp1_3 : w.heap.size + 1 + 1 + 1 < w1.heap.size := by omega)
        rw [HOK.out]
        go_wp2
        go_ret
        exact ⟨ret_bool HF.out.symm, by exact bel_⟩
      · have HOK := Lib.hid hok
        have HT' : Hid (nodesB (l.take (k + 1)) = true) := Lib.hid (by
          unfold nodesB
          rw [List.take_succ_eq_append_getElem hlt, List.all_append]
          have := HT.out
          unfold nodesB at this
          rw [this]
          simp [hok])
        clear hok
        go_wp2_with fail
        refine (iNodeOk_any _ _ _).mono ?_
        rintro e w1 ⟨rfl, hb1⟩; (first | (with_reducible have hcf1 := bcell_drew hb1) | have hcf1 := bcell hb1); obtain ⟨hc1, hf1⟩ := hcf1; have hz1 := hb1.size; (try simp at hz1); (try have hp1_0 : w.heap.size < w1.heap.size := by omega); (try have hp1_1 : w.heap.size + 1 < w1.heap.size := by omega); (try have hp1_2 : w.heap.size + 1 + 1 < w1.heap.size := by omega); (try have hp1_3 : w.heap.size + 1 + 1 + 1 < w1.heap.size := by omega)
        rw [HOK.out]
        go_wp2
        go_roundw
        case rel => exact ⟨k + 1, by omega, by go_num, HT', by exact bel_⟩
        case measure => simp [intOf]; omega
    · have hkk : l.length ≤ k := by omega
      have h := HT.out
      rw [List.take_of_length_le hkk] at h
      have HF := Lib.hid h
      clear h hcell
      go_wp2
      go_ret
      exact ⟨ret_bool HF.out.symm, hbl⟩
theorem nodes3_any (v : Value) (ax ay bx by' cx cy : Int) (w : World) (h : RP w v [(ax, ay), (bx, by'), (cx, cy)]) :
    Calls Tryz.prog 154 #[v] w fun e w' => e = .returned (.bool (nodeB ax ay && nodeB bx by' && nodeB cx cy)) ∧ Below w.heap.size w w' :=
  (nodesOk_any v _ w h).mono fun e w' ⟨he, hw⟩ => ⟨he.trans (ret_bool (by simp [nodesB, Bool.and_assoc])), hw⟩
set_option maxHeartbeats 1000000 in
set_option maxRecDepth 100000 in
theorem sTurn_any (ax ay bx by' cx cy : Int) (w : World) (ha : nodeB ax ay = true) (hb : nodeB bx by' = true) (hc : nodeB cx cy = true) :
    Calls Tryz.prog 243 #[.agg #[.int .i64 ax, .int .i64 ay], .agg #[.int .i64 bx, .int .i64 by'], .agg #[.int .i64 cx, .int .i64 cy]] w
      fun e w' => e = .returned (.int .i64 (turnI ax ay bx by' cx cy)) ∧ Below w.heap.size w w' := by
  have h1 := nodeB_bd ha
  have h2 := nodeB_bd hb
  have h3 := nodeB_bd hc
  have m1 := mul_bd (u := bx - ax) (v := cy - ay) (by omega) (by omega) (by omega) (by omega)
  have m2 := mul_bd (u := by' - ay) (v := cx - ax) (by omega) (by omega) (by omega) (by omega)
  clear ha hb hc
  go_enter Tryz.func243, Tryz.ntmps243
  go_wp2
  go_ret
  exact ⟨rfl, by exact bel_⟩
set_option maxHeartbeats 1000000 in
set_option maxRecDepth 100000 in
theorem iTurn_any (ax ay bx by' cx cy : Int) (w : World) (ha : nodeB ax ay = true) (hb : nodeB bx by' = true) (hc : nodeB cx cy = true) :
    Calls Tryz.prog 214 #[.agg #[.int .i64 ax, .int .i64 ay], .agg #[.int .i64 bx, .int .i64 by'], .agg #[.int .i64 cx, .int .i64 cy]] w
      fun e w' => e = .returned (.int .i64 (turnI ax ay bx by' cx cy)) ∧ Below w.heap.size w w' := by
  have h1 := nodeB_bd ha
  have h2 := nodeB_bd hb
  have h3 := nodeB_bd hc
  have m1 := mul_bd (u := bx - ax) (v := cy - ay) (by omega) (by omega) (by omega) (by omega)
  have m2 := mul_bd (u := by' - ay) (v := cx - ax) (by omega) (by omega) (by omega) (by omega)
  have HN : Hid ((nodeB ax ay && nodeB bx by' && nodeB cx cy) = true) := Lib.hid (by rw [ha, hb, hc]; rfl)
  clear ha hb hc
  go_enter Tryz.func214, Tryz.ntmps214
  go_wp2_with fail
  refine (nodes3_any _ ax ay bx by' cx cy _ (RP_lit (by simp) rfl rfl rfl (by simp [maxLen]))).mono ?_
  rintro e w1 ⟨rfl, hb1⟩; (first | (with_reducible have hcf1 := bcell_drew hb1) | have hcf1 := bcell hb1); obtain ⟨hc1, hf1⟩ := hcf1; have hz1 := hb1.size; (try simp at hz1); (try have hp1_0 : w.heap.size < w1.heap.size := by omega); (try have hp1_1 : w.heap.size + 1 < w1.heap.size := by omega); (try have hp1_2 : w.heap.size + 1 + 1 < w1.heap.size := by omega); (try have hp1_3 : w.heap.size + 1 + 1 + 1 < w1.heap.size := by omega)
  rw [HN.out]
  go_wp2
  go_ret
  exact ⟨rfl, by exact bel_⟩
end Go.Proofs.YtnjcpljhmhdhkaaGreat

namespace Go.Proofs.YtnjcpljhmhdhkaaGreat
open Go.RowKit
abbrev Pr := Int × Int
def nodeP (p : Pr) : Bool := nodeB p.1 p.2
def turnP (a b c : Pr) : Int := turnI a.1 a.2 b.1 b.2 c.1 c.2
def betwP (a b c : Pr) : Bool := betwB a.1 a.2 b.1 b.2 c.1 c.2
def sameP (a b : Pr) : Bool := prB a.1 a.2 b.1 b.2
theorem sameP_iff {a b : Pr} : sameP a b = true ↔ a = b := prB_iff
def ndI (ns : List Pr) (i : Int) : Pr := ns.getD i.toNat (0, 0)
theorem ndI_nat (ns : List Pr) (k : Nat) (h : k < ns.length) : ndI ns k = ns[k] := by
  simp [ndI, List.getD, h]
def leadB (ns : List Pr) (l : Pr) : Bool :=
  decide (0 ≤ l.1) && decide (l.1 < l.2) && decide (l.2 < ns.length) && nodeP (ndI ns l.1) && nodeP (ndI ns l.2) && !(sameP (ndI ns l.1) (ndI ns l.2))
theorem leadB_iff {ns : List Pr} {l : Pr} : leadB ns l = true ↔ 0 ≤ l.1 ∧ l.1 < l.2 ∧ l.2 < ns.length ∧ nodeP (ndI ns l.1) = true ∧ nodeP (ndI ns l.2) = true ∧ sameP (ndI ns l.1) (ndI ns l.2) = false := by
  simp [leadB, and_assoc]
def crossP (a b c d : Pr) : Bool :=
  (sameP a c && sameP b d || sameP a d && sameP b c) || (betwP a b c || betwP a b d || betwP c d a || betwP c d b) ||
    (decide (turnP a b c * turnP a b d < 0) && decide (turnP c d a * turnP c d b < 0))
def crossB (ns : List Pr) (l m : Pr) : Bool := leadB ns l && leadB ns m && crossP (ndI ns l.1) (ndI ns l.2) (ndI ns m.1) (ndI ns m.2)
def onB (ns : List Pr) (l n : Pr) : Bool := leadB ns l && (sameP n (ndI ns l.1) || sameP n (ndI ns l.2) || betwP (ndI ns l.1) (ndI ns l.2) n)
theorem sameP_comm (a b : Pr) : sameP a b = sameP b a := by
  have h : ∀ a b : Pr, sameP a b = true → sameP b a = true := fun a b h => sameP_iff.2 (sameP_iff.1 h).symm
  cases h1 : sameP a b
  · cases h2 : sameP b a
    · rfl
    · rw [h b a h2] at h1; cases h1
  · rw [h a b h1]
theorem crossP_comm (a b c d : Pr) : crossP a b c d = crossP c d a b := by
  unfold crossP
  rw [sameP_comm c a, sameP_comm d b, sameP_comm c b, sameP_comm d a]
  cases sameP a c <;> cases sameP b d <;> cases sameP a d <;> cases sameP b c <;> cases betwP a b c <;> cases betwP a b d <;> cases betwP c d a <;> cases betwP c d b <;> simp [Bool.and_comm]
theorem crossB_comm (ns : List Pr) (l m : Pr) : crossB ns l m = crossB ns m l := by
  unfold crossB
  rw [crossP_comm, Bool.and_comm (leadB ns l)]
theorem turn_self1 (a b : Pr) : turnP a b a = 0 := by simp [turnP, turnI]
theorem turn_self2 (a b : Pr) : turnP a b b = 0 := by
  unfold turnP turnI; rw [Int.mul_comm]; omega
theorem sign_mul_neg (x y : Int) : Int.sign x * Int.sign y < 0 ↔ x * y < 0 := by
  rw [← Int.sign_mul, Int.sign_neg_iff]
def Dis (ns : List Pr) (i : Nat) : Prop := ∀ a b : Nat, a < b → b < i → sameP (ndI ns a) (ndI ns b) = false
def CrOk (ns ls : List Pr) (l : Pr) (i : Nat) : Prop := ∀ j : Nat, j < i → crossB ns l (ndI ls j) = false
def OnOk (ns : List Pr) (l : Pr) (i : Nat) : Prop := ∀ j : Nat, j < i → (j : Int) ≠ l.1 → (j : Int) ≠ l.2 → onB ns l (ndI ns j) = false
def LdOk (ns ls : List Pr) (k : Nat) : Prop := leadB ns (ndI ls k) = true ∧ CrOk ns ls (ndI ls k) k ∧ OnOk ns (ndI ls k) ns.length
def WinOk (ns ls : List Pr) : Prop :=
  1 ≤ ns.length ∧ ns.length ≤ 12 ∧ ls.length ≤ 20 ∧ nodesB ns = true ∧ Dis ns ns.length ∧ ∀ k : Nat, k < ls.length → LdOk ns ls k
noncomputable def winB (ns ls : List Pr) : Bool := @decide (WinOk ns ls) (Classical.propDecidable _)
theorem winB_true {ns ls : List Pr} : winB ns ls = true ↔ WinOk ns ls := by simp [winB]
theorem winB_false {ns ls : List Pr} : winB ns ls = false ↔ ¬ WinOk ns ls := by simp [winB]
theorem nodesB_mem {ns : List Pr} (h : nodesB ns = true) : ∀ p ∈ ns, nodeP p = true := by
  unfold nodesB at h
  rw [List.all_eq_true] at h
  exact h
theorem nodesB_at {ns : List Pr} (h : nodesB ns = true) (k : Nat) (hk : k < ns.length) : nodeP (ndI ns k) = true := by
  rw [ndI_nat ns k hk]; exact nodesB_mem h _ (List.getElem_mem hk)
theorem Dis.zero (ns : List Pr) : Dis ns 0 := fun a b h hb => absurd hb (by omega)
theorem Dis.succ {ns : List Pr} {i : Nat} (h : Dis ns i) (hi : ∀ a : Nat, a < i → sameP (ndI ns a) (ndI ns i) = false) : Dis ns (i + 1) := by
  intro a b hab hb
  rcases Nat.lt_succ_iff_lt_or_eq.1 hb with h1 | h1
  · exact h a b hab h1
  · subst h1; exact hi a hab
theorem CrOk.zero (ns ls : List Pr) (l : Pr) : CrOk ns ls l 0 := fun j hj => absurd hj (by omega)
theorem CrOk.succ {ns ls : List Pr} {l : Pr} {i : Nat} (h : CrOk ns ls l i) (hi : crossB ns l (ndI ls i) = false) : CrOk ns ls l (i + 1) := by
  intro j hj
  rcases Nat.lt_succ_iff_lt_or_eq.1 hj with h1 | h1
  · exact h j h1
  · subst h1; exact hi
theorem OnOk.zero (ns : List Pr) (l : Pr) : OnOk ns l 0 := fun j hj => absurd hj (by omega)
theorem OnOk.succ {ns : List Pr} {l : Pr} {i : Nat} (h : OnOk ns l i) (hi : (i : Int) ≠ l.1 → (i : Int) ≠ l.2 → onB ns l (ndI ns i) = false) : OnOk ns l (i + 1) := by
  intro j hj
  rcases Nat.lt_succ_iff_lt_or_eq.1 hj with h1 | h1
  · exact h j h1
  · subst h1; exact hi
theorem RP.formI {w : World} {v : Value} {l : List (Int × Int)} (h : RP w v l) : ∃ A c, v = .slice A l.length c ∧ l.length ≤ c ∧ l.length ≤ maxLen ∧
    (0 < l.length → ∃ b off, A = some ⟨b, off, none⟩ ∧ b < w.heap.size ∧ ∀ k : Nat, k < l.length → w.cell? ⟨b, off + k * 2, none⟩ = some (.int .i64 (ndI l k).1) ∧ w.cell? ⟨b, off + k * 2 + 1, none⟩ = some (.int .i64 (ndI l k).2)) := by
  obtain ⟨A, c, h1, h2, h3, h4⟩ := h.form
  refine ⟨A, c, h1, h2, h3, fun hn => ?_⟩
  obtain ⟨b, off, e1, e2, e3⟩ := h4 hn
  exact ⟨b, off, e1, e2, fun k hk => by rw [ndI_nat l k hk]; exact e3 k hk⟩
end Go.Proofs.YtnjcpljhmhdhkaaGreat
