/- part 19 -/
import Derived.Test.YtnjcpljhmhdhkaaGreatSPk18
import Derived.Deep.RegionHeld3
set_option linter.unusedSimpArgs false
set_option linter.unusedVariables false
namespace Go.Proofs.YtnjcpljhmhdhkaaGreat
open Go.RowKit
def dnP (k : Int) (l : Pr) : Pr := (dnI k l.1, dnI k l.2)
def jwo (ls : List Pr) (k : Int) (p q : Nat) (X : Pr) : Nat → List Pr
  | 0 => []
  | j + 1 => if j = q then jwo ls k p q X j else jwo ls k p q X j ++ [dnP k (if j = p then X else ndI ls (j : Nat))]
theorem jwo_len (ls : List Pr) (k : Int) (p q : Nat) (X : Pr) : ∀ j, (jwo ls k p q X j).length ≤ j
  | 0 => by simp [jwo]
  | j + 1 => by
    have := jwo_len ls k p q X j
    unfold jwo
    split <;> simp <;> omega
theorem take_snoc (l : List Pr) (j : Nat) (h : j < l.length) : l.take (j + 1) = l.take j ++ [ndI l (j : Nat)] := by
  rw [ndI_nat l j h, List.take_succ_eq_append_getElem h]
theorem erase_snoc (l : List Pr) (x : Pr) (m : Nat) : (l ++ [x]).eraseIdx m = if l.length = m then l else l.eraseIdx m ++ [x] := by
  by_cases h : l.length = m
  · rw [if_pos h, List.eraseIdx_append_of_length_le (by omega)]
    simp [h]
  · rw [if_neg h]
    by_cases h2 : m < l.length
    · rw [List.eraseIdx_append_of_lt_length h2]
    · rw [List.eraseIdx_append_of_length_le (by omega), List.eraseIdx_of_length_le (by simp; omega), List.eraseIdx_of_length_le (by omega)]
theorem nwo_eq (ns : List Pr) (m : Nat) : ∀ j, j ≤ ns.length → nwo ns m j = (ns.take j).eraseIdx m
  | 0, _ => by simp [nwo]
  | j + 1, h => by
    have hl : (ns.take j).length = j := by simp; omega
    rw [take_snoc ns j (by omega), erase_snoc, hl]
    unfold nwo
    rw [nwo_eq ns m j (by omega)]
    by_cases hj : j = m
    · rw [if_pos (by omega), if_pos hj, List.eraseIdx_of_length_le (by omega)]
    · rw [if_neg (by omega), if_neg hj]
theorem ndI_set (ls : List Pr) (p : Nat) (X : Pr) (j : Nat) (h : j < ls.length) : ndI (ls.set p X) (j : Nat) = if j = p then X else ndI ls (j : Nat) := by
  rw [ndI_nat _ _ (by simpa using h), ndI_nat _ _ h, List.getElem_set]
  by_cases hj : j = p
  · rw [if_pos hj, if_pos hj.symm]
  · rw [if_neg hj, if_neg (fun e => hj e.symm)]
theorem jwo_eq (ls : List Pr) (k : Int) (p q : Nat) (X : Pr) : ∀ j, j ≤ ls.length → jwo ls k p q X j = (((ls.set p X).take j).eraseIdx q).map (dnP k)
  | 0, _ => by simp [jwo]
  | j + 1, h => by
    have hl : ((ls.set p X).take j).length = j := by simp; omega
    rw [take_snoc _ j (by simp; omega), erase_snoc, hl]
    unfold jwo
    rw [jwo_eq ls k p q X j (by omega), ndI_set ls p X j (by omega)]
    by_cases hj : j = q
    · rw [if_pos hj, if_pos hj, List.eraseIdx_of_length_le (by omega)]
    · rw [if_neg hj, if_neg hj, List.map_append]; rfl
theorem lwo_eq (ls : List Pr) (k : Int) (hnt : ∀ j : Nat, j < ls.length → (ndI ls j).1 ≠ k ∧ (ndI ls j).2 ≠ k) : ∀ j, j ≤ ls.length → lwo ls k j = (ls.take j).map (dnP k)
  | 0, _ => by simp [lwo]
  | j + 1, h => by
    rw [take_snoc ls j (by omega)]
    unfold lwo
    rw [if_pos (hnt j (by omega)), lwo_eq ls k hnt j (by omega), List.map_append]; rfl
theorem atN_all (ls : List Pr) (k : Int) : ∀ m, ∀ i, i < m → touchB ls k i = true → i ∈ atN ls k m
  | 0, i, h, _ => by omega
  | m + 1, i, h, ht => by
    cases hm : touchB ls k m
    · rw [atN_no hm]
      by_cases e : i = m
      · subst e; rw [hm] at ht; cases ht
      · exact atN_all ls k m i (by omega) ht
    · rw [atN_yes hm]
      by_cases e : i = m
      · subst e; simp
      · simp [atN_all ls k m i (by omega) ht]
structure JoinAt (ns ls : List Pr) (m p q t u : Nat) : Prop where
  win : WinOk ns ls
  hm : m < ns.length
  at_ : atN ls m ls.length = [p, q]
  hp : p < ls.length
  hq : q < ls.length
  ends : endsI ls m (atN ls m ls.length) = [(t : Int), (u : Int)]
  ht : t < ns.length
  hu : u < ns.length
  tk : (t : Int) ≠ m
  uk : (u : Int) ≠ m
  ot : othI (ndI ls p) m = (t : Int)
  ou : othI (ndI ls q) m = (u : Int)
theorem joinAt {ns ls : List Pr} {k : Int} (h : straightB ns ls k = true) : ∃ m p q t u : Nat, k = (m : Int) ∧ hasN ns ls k = true ∧ JoinAt ns ls m p q t u := by
  unfold straightB at h
  rw [Bool.and_eq_true] at h
  obtain ⟨hk, h2⟩ := deg2 (of_decide_eq_true h.1)
  obtain ⟨hw, m, rfl, hm⟩ := hasN_win hk
  obtain ⟨p, q, t, u, a1, a2, a3, a4, a5, a6, a7, a8, a9, a10⟩ := ends_two (winB_true.1 hw) h2
  exact ⟨m, p, q, t, u, rfl, hk, winB_true.1 hw, hm, a1, a2, a3, a4, a5, a6, a7, a8, a9, a10⟩
theorem JoinAt.bound {ns ls : List Pr} {m p q t u : Nat} (h : JoinAt ns ls m p q t u) (j : Nat) (hj : j < ((ls.set p (mn2 (t : Int) u, mx2 (t : Int) u)).take q ++ (ls.set p (mn2 (t : Int) u, mx2 (t : Int) u)).drop (q + 1)).length) :
    (-1000000 ≤ (ndI ((ls.set p (mn2 (t : Int) u, mx2 (t : Int) u)).take q ++ (ls.set p (mn2 (t : Int) u, mx2 (t : Int) u)).drop (q + 1)) j).1 ∧ (ndI ((ls.set p (mn2 (t : Int) u, mx2 (t : Int) u)).take q ++ (ls.set p (mn2 (t : Int) u, mx2 (t : Int) u)).drop (q + 1)) j).1 ≤ 1000000) ∧ (-1000000 ≤ (ndI ((ls.set p (mn2 (t : Int) u, mx2 (t : Int) u)).take q ++ (ls.set p (mn2 (t : Int) u, mx2 (t : Int) u)).drop (q + 1)) j).2 ∧ (ndI ((ls.set p (mn2 (t : Int) u, mx2 (t : Int) u)).take q ++ (ls.set p (mn2 (t : Int) u, mx2 (t : Int) u)).drop (q + 1)) j).2 ≤ 1000000) := by
  have hq : q < (ls.set p (mn2 (t : Int) u, mx2 (t : Int) u)).length := by simpa using h.hq
  rw [ndI_drop hq j hj]
  have hj' : j < ls.length - 1 := by simp at hj; have := h.hq; omega
  generalize hi : (if j < q then j else j + 1) = i
  have hi' : i < ls.length := by split at hi <;> omega
  rw [ndI_set ls p _ i hi']
  have h12 := h.win.2.1
  have ht := h.ht
  have hu := h.hu
  by_cases hip : i = p
  · rw [if_pos hip]; dsimp only; rw [mn2_eq, mx2_eq]; omega
  · rw [if_neg hip]
    have hl := leadB_iff.1 (h.win.2.2.2.2.2 i hi').1
    omega
theorem JoinAt.free {ns ls : List Pr} {m p q t u : Nat} (h : JoinAt ns ls m p q t u) (j : Nat) (hj : j < ((ls.set p (mn2 (t : Int) u, mx2 (t : Int) u)).take q ++ (ls.set p (mn2 (t : Int) u, mx2 (t : Int) u)).drop (q + 1)).length) :
    (ndI ((ls.set p (mn2 (t : Int) u, mx2 (t : Int) u)).take q ++ (ls.set p (mn2 (t : Int) u, mx2 (t : Int) u)).drop (q + 1)) j).1 ≠ m ∧ (ndI ((ls.set p (mn2 (t : Int) u, mx2 (t : Int) u)).take q ++ (ls.set p (mn2 (t : Int) u, mx2 (t : Int) u)).drop (q + 1)) j).2 ≠ m := by
  have hq : q < (ls.set p (mn2 (t : Int) u, mx2 (t : Int) u)).length := by simpa using h.hq
  rw [ndI_drop hq j hj]
  have hj' : j < ls.length - 1 := by simp at hj; have := h.hq; omega
  generalize hi : (if j < q then j else j + 1) = i
  have hi' : i < ls.length := by split at hi <;> omega
  have hiq : i ≠ q := by split at hi <;> omega
  rw [ndI_set ls p _ i hi']
  have ht := h.tk
  have hu := h.uk
  by_cases hip : i = p
  · rw [if_pos hip]; dsimp only; unfold mn2 mx2; constructor <;> split <;> assumption
  · rw [if_neg hip]
    have hno : touchB ls m i = false := by
      cases htb : touchB ls m i
      · rfl
      · have := atN_all ls m ls.length i hi' htb
        rw [h.at_] at this
        simp at this
        omega
    simpa [touchB, not_or] using hno
theorem JoinAt.joinX {ns ls : List Pr} {m p q t u : Nat} (h : JoinAt ns ls m p q t u) : joinX ls m p q = (mn2 (t : Int) u, mx2 (t : Int) u) := by
  simp [Proofs.YtnjcpljhmhdhkaaGreat.joinX, h.ot, h.ou]
theorem JoinAt.cn {ns ls : List Pr} {m p q t u : Nat} (h : JoinAt ns ls m p q t u) : joinCn ns m = ns.take m ++ ns.drop (m + 1) := by
  unfold joinCn
  rw [nwo_eq ns m _ (Nat.le_refl _), List.take_length, List.eraseIdx_eq_take_drop_succ]
theorem JoinAt.cl {ns ls : List Pr} {m p q t u : Nat} (h : JoinAt ns ls m p q t u) : joinCl ls m = jwo ls m p q (mn2 (t : Int) u, mx2 (t : Int) u) ls.length := by
  have hM : joinM ls m = (ls.set p (mn2 (t : Int) u, mx2 (t : Int) u)).take q ++ (ls.set p (mn2 (t : Int) u, mx2 (t : Int) u)).drop (q + 1) := by
    unfold joinM
    rw [h.at_]
    simp only [h.joinX]
  have hT : (ls.set p (mn2 (t : Int) u, mx2 (t : Int) u)).take ls.length = ls.set p (mn2 (t : Int) u, mx2 (t : Int) u) := List.take_of_length_le (by simp)
  unfold joinCl
  rw [hM, lwo_eq _ _ h.free _ (Nat.le_refl _), jwo_eq _ _ _ _ _ _ (Nat.le_refl _), List.take_length, hT, List.eraseIdx_eq_take_drop_succ]
theorem iJoin_any (vn vl : Value) (ns ls : List Pr) (k : Int) (w : World) (hn : RP w vn ns) (hl : RP w vl ls) (h1 : ns.length ≤ 1048576) (h2 : ls.length ≤ 1048576) :
    Calls Tryz.prog 163 #[.agg #[vn, vl], .int .i64 k] w (fun e w' => RetWB (joinN ns ls k) (joinL ns ls k) (joinB ns ls k) w e w') := by
  cases hs : straightB ns ls k
  · have EB : joinB ns ls k = false := by unfold joinB; rw [hs]; rfl
    have EN : joinN ns ls k = ns := by unfold joinN; rw [EB]; rfl
    have EL : joinL ns ls k = ls := by unfold joinL; rw [EB]; rfl
    rw [EB, EN, EL]
    exact iJoin_no vn vl ns ls k w hn hl h1 h2 hs
  · obtain ⟨m, p, q, t, u, rfl, hk, h⟩ := joinAt hs
    exact iJoin_str vn vl ns ls m p q t u w hn hl h1 h2 hs hk h.at_ h.hp h.hq h.ends h.bound
end Go.Proofs.YtnjcpljhmhdhkaaGreat

namespace Go.Proofs.YtnjcpljhmhdhkaaGreat
open Go.RowKit
attribute [local go_sem ↓] run_eqNode run_neNode run_mn2 run_mx2
set_option maxHeartbeats 4000000 in
set_option maxRecDepth 100000 in
theorem sLeadsAt_yes (vn vl : Value) (ns ls : List Pr) (k : Int) (w : World) (hn : RP w vn ns) (hl : RP w vl ls) (hk : hasN ns ls k = true) :
    Calls Tryz.prog 187 #[.agg #[vn, vl], .int .i64 k] w (RetI (natI (atN ls k ls.length)) w) := by
  have hw : winB ns ls = true := (hasN_win hk).1
  have hin : inB k 0 ((ns.length : Int) - 1) = true := by
    unfold hasN at hk; rw [Bool.and_eq_true] at hk; exact hk.2
  have hm20 := (winB_true.1 hw).2.2.1
  obtain ⟨An, cn, rfl, hcn, hmn, _⟩ := hn.formI
  obtain ⟨Al, cl, rfl, hcl, hml, hcelll⟩ := hl.formI
  obtain ⟨i0, hi, iz0, iz1, iz2⟩ := info_parts infoInt
  unfold maxLen at hml hmn
  clear hk
  go_enter Tryz.func187, Tryz.ntmps187
  go_wp2
  go_loopw [5, 6] (fun v i wr => ∃ j : Nat, j ≤ ls.length ∧ i = .int .i64 j ∧ OwnI (w.heap.size + 1) wr v (natI (atN ls k j)) ∧ Blk wr w.heap.size 27 #[.slice An ns.length cn, .slice Al ls.length cl] ∧ Below w.heap.size w wr) (fun _ i _ => ls.length - (intOf i).toNat)
  case atStart => exact ⟨0, Nat.zero_le _, rfl, OwnI.made (by simp) (by simp), (Blk.newAt rfl).alloc _, by exact bel_⟩
  case round =>
    obtain ⟨j, hj, rfl, ho0, hW0, hbl0⟩ := hrel
    have hsz0 := hW0.lt
    obtain ⟨a_0, a_1⟩ := hW0.c2
    by_cases hlt : j < ls.length
    · have hlt1 : (j : Int) < (ls.length : Int) := by omega
      go_wp2_with fail
      refine (sWinOk_at _ _ ns ls _ _ (hn.below hbl0) (hl.below hbl0) hw).mono ?_
      rintro e w2 ⟨rfl, hb2⟩
      have hz2 := hb2.size
      have ho := ho0.kept hb2
      have hW := hW0.below hb2 hsz0
      have hbl : Below w.heap.size w w2 := hbl0.trans (hb2.mono hbl0.size)
      have hsz := hW.lt
      clear hb2 ho0 hW0 hbl0 a_0 a_1
      obtain ⟨a_0, a_1⟩ := hW.c2
      go_wp2_with fail
      refine (l01In_at _ _ _ _ _ hin).mono ?_
      rintro e w' ⟨rfl, rfl⟩
      obtain ⟨b, off, rfl, hb, hcc⟩ := hcelll (by omega)
      obtain ⟨k0, k1⟩ := hcc j hlt
      have q0 := (hbl.cell (p := ⟨b, off + j * 2, none⟩) hb).trans k0
      have q1 := (hbl.cell (p := ⟨b, off + j * 2 + 1, none⟩) hb).trans k1
      have hi1 : (0 : Int) ≤ (j : Int) := by omega
      have hlen := atN_len ls k j
      have hnl := natI_length (atN ls k j)
      have HY := Lib.hid (fun h => atN_yes (ls := ls) (k := k) (i := j) h)
      have HN := Lib.hid (fun h => atN_no (ls := ls) (k := k) (i := j) h)
      generalize atN ls k j = G at *
      have HL := Lib.hid hnl
      clear hnl k0 k1 hcc hcelll
      have hG : G.length ≤ 20 := by omega
      obtain ⟨A2, c2, rfl⟩ := ho.form
      have hrow : ∀ b, (Value.slice A2 (natI G).length c2).ownBlock = some b → w.heap.size + 1 ≤ b := fun b hb => (ho.lt b hb).1
      cases ht : touchB ls k j
      · have HS := Lib.hid (HN.out ht)
        obtain ⟨e3, e4⟩ := touch_no ht
        have e1 : ((ndI ls j).1 == k) = false := beq_eq_false_iff_ne.2 e3
        have e2 : ((ndI ls j).2 == k) = false := beq_eq_false_iff_ne.2 e4
        clear ht HY HN
        go_wp2
        go_roundw
        case rel => exact ⟨j + 1, by omega, by go_num, by rw [HS.out]; exact ho, hW, hbl⟩
        case measure => simp [intOf]; omega
      · have HS := Lib.hid (HY.out ht)
        have hty := fun h => touch_yes ht h
        clear ht HY HN
        generalize (ndI ls j).1 = L1 at *
        generalize (ndI ls j).2 = L2 at *
        by_cases e3 : L1 = k
        · subst e3
          clear hty
          go_wp2_with (at_builtin; refine wpList_append_own _ rfl _ _ 31 rfl (w.heap.size + 1) 3 i0 (.int .i64 0) 1 8 Tryz.underlying31 hi iz0 iz1 iz2 rfl (by decide) _ _ _ rfl (World.ownsRow.alloc ho _) ⟨w2.heap.size, 0, none⟩ 1 1 [.int .i64 _] rfl rfl (cell_one_at (by simp)) (by intro u hu; simp at hu; subst hu; rfl) (by rw [HL.out]; unfold maxLen; omega) (by rw [HL.out]; omega) (by simp; omega) ?_)
          intro v3 w3 hown3 hg3 _
          have hW3 := (hW.alloc (.cells #[.int .i64 (j : Int)] 3)).grownR hg3 (fun b hb => by have := hrow b hb; omega)
          have hbl3 : Below w.heap.size w w3 := (Below.alloc hbl (by omega) _).grown hg3 sz_ (fun b hb => by have := hrow b hb; omega)
          have HO : OwnI (w.heap.size + 1) w3 v3 (natI (G ++ [j])) := by
            unfold natI
            rw [List.map_append]
            exact OwnI.snoc hown3
          clear hown3 hg3 ho hW hbl
          go_wp2
          go_roundw
          case rel => exact ⟨j + 1, by omega, by go_num, by rw [HS.out]; exact HO, hW3, hbl3⟩
          case measure => simp [intOf]; omega
        · have e4 := hty e3
          have e1 : (L1 == k) = false := beq_eq_false_iff_ne.2 e3
          clear hty
          subst e4
          go_wp2_with (at_builtin; refine wpList_append_own _ rfl _ _ 31 rfl (w.heap.size + 1) 3 i0 (.int .i64 0) 1 8 Tryz.underlying31 hi iz0 iz1 iz2 rfl (by decide) _ _ _ rfl (World.ownsRow.alloc ho _) ⟨w2.heap.size, 0, none⟩ 1 1 [.int .i64 _] rfl rfl (cell_one_at (by simp)) (by intro u hu; simp at hu; subst hu; rfl) (by rw [HL.out]; unfold maxLen; omega) (by rw [HL.out]; omega) (by simp; omega) ?_)
          intro v3 w3 hown3 hg3 _
          have hW3 := (hW.alloc (.cells #[.int .i64 (j : Int)] 3)).grownR hg3 (fun b hb => by have := hrow b hb; omega)
          have hbl3 : Below w.heap.size w w3 := (Below.alloc hbl (by omega) _).grown hg3 sz_ (fun b hb => by have := hrow b hb; omega)
          have HO : OwnI (w.heap.size + 1) w3 v3 (natI (G ++ [j])) := by
            unfold natI
            rw [List.map_append]
            exact OwnI.snoc hown3
          clear hown3 hg3 ho hW hbl
          go_wp2
          go_roundw
          case rel => exact ⟨j + 1, by omega, by go_num, by rw [HS.out]; exact HO, hW3, hbl3⟩
          case measure => simp [intOf]; omega
    · have hjj : j = ls.length := by omega
      subst hjj
      clear hcelll
      go_wp2
      go_ret
      exact ⟨_, rfl, ho0.mono (show w.heap.size ≤ w.heap.size + 1 by omega), hbl0⟩
set_option maxHeartbeats 2000000 in
set_option maxRecDepth 100000 in
theorem sDegree_any (vn vl : Value) (ns ls : List Pr) (k : Int) (w : World) (hn : RP w vn ns) (hl : RP w vl ls) :
    Calls Tryz.prog 239 #[.agg #[vn, vl], .int .i64 k] w fun e w' => e = .returned (.int .i64 (degI ns ls k)) ∧ Below w.heap.size w w' := by
  obtain ⟨An, cn, rfl, hcn, hmn, _⟩ := hn.formI
  unfold maxLen at hmn
  cases hw : winB ns ls
  · have HR : Hid (degI ns ls k = -1) := Lib.hid (by simp [degI, hasN, hw])
    go_enter Tryz.func239, Tryz.ntmps239
    go_wp2_with fail
    refine (sWinOk_at _ _ ns ls _ _ (hn.below (by exact bel_)) (hl.below (by exact bel_)) hw).mono ?_
    rintro e w1 ⟨rfl, hb1⟩; (first | (with_reducible have hcf1 := bcell_drew hb1) | have hcf1 := bcell hb1); obtain ⟨hc1, hf1⟩ := hcf1; have hz1 := hb1.size; (try simp at hz1); (try have hp1_0 : w.heap.size < w1.heap.size := by omega); (try have hp1_1 : w.heap.size + 1 < w1.heap.size := by omega); (try have hp1_2 : w.heap.size + 1 + 1 < w1.heap.size := by omega); (try have hp1_3 : w.heap.size + 1 + 1 + 1 < w1.heap.size := by omega)
    go_wp2
    go_ret
    exact ⟨ret_int HR.out.symm, by exact bel_⟩
  cases hin : inB k 0 ((ns.length : Int) - 1)
  · have HR : Hid (degI ns ls k = -1) := Lib.hid (by simp [degI, hasN, hin])
    go_enter Tryz.func239, Tryz.ntmps239
    go_wp2_with fail
    refine (sWinOk_at _ _ ns ls _ _ (hn.below (by exact bel_)) (hl.below (by exact bel_)) hw).mono ?_
    rintro e w1 ⟨rfl, hb1⟩; (first | (with_reducible have hcf1 := bcell_drew hb1) | have hcf1 := bcell hb1); obtain ⟨hc1, hf1⟩ := hcf1; have hz1 := hb1.size; (try simp at hz1); (try have hp1_0 : w.heap.size < w1.heap.size := by omega); (try have hp1_1 : w.heap.size + 1 < w1.heap.size := by omega); (try have hp1_2 : w.heap.size + 1 + 1 < w1.heap.size := by omega); (try have hp1_3 : w.heap.size + 1 + 1 + 1 < w1.heap.size := by omega)
    go_wp2_with fail
    refine (l01In_at _ _ _ _ _ hin).mono ?_
    rintro e w' ⟨rfl, rfl⟩
    go_wp2
    go_ret
    exact ⟨ret_int HR.out.symm, by exact bel_⟩
  · have hk : hasN ns ls k = true := by simp [hasN, hw, hin]
    have HR : Hid (degI ns ls k = ((natI (atN ls k ls.length)).length : Int)) := Lib.hid (by simp [degI, hk, natI_length])
    go_enter Tryz.func239, Tryz.ntmps239
    go_wp2_with fail
    refine (sWinOk_at _ _ ns ls _ _ (hn.below (by exact bel_)) (hl.below (by exact bel_)) hw).mono ?_
    rintro e w1 ⟨rfl, hb1⟩; (first | (with_reducible have hcf1 := bcell_drew hb1) | have hcf1 := bcell hb1); obtain ⟨hc1, hf1⟩ := hcf1; have hz1 := hb1.size; (try simp at hz1); (try have hp1_0 : w.heap.size < w1.heap.size := by omega); (try have hp1_1 : w.heap.size + 1 < w1.heap.size := by omega); (try have hp1_2 : w.heap.size + 1 + 1 < w1.heap.size := by omega); (try have hp1_3 : w.heap.size + 1 + 1 + 1 < w1.heap.size := by omega)
    have hbw1 : Below w.heap.size w w1 := by exact bel_
    go_wp2_with fail
    refine (l01In_at _ _ _ _ _ hin).mono ?_
    rintro e w' ⟨rfl, rfl⟩
    go_wp2_with fail
    refine (sLeadsAt_yes _ _ ns ls _ _ (hn.below hbw1) (hl.below hbw1) hk).mono ?_
    rintro e w2 ⟨v2, rfl, ho2, hb2⟩
    obtain ⟨A2, c2, rfl⟩ := ho2.form
    have hbw2 : Below w.heap.size w w2 := hbw1.trans (hb2.mono hbw1.size)
    go_wp2
    go_ret
    exact ⟨ret_int HR.out.symm, hbw2⟩
theorem sOther_at (l : Pr) (k x : Int) (w : World) (h : othI l k = x) :
    Calls Tryz.prog 188 #[.agg #[.int .i64 l.1, .int .i64 l.2], .int .i64 k] w fun e w' => e = .returned (.int .i64 x) ∧ Below w.heap.size w w' := by
  subst h; exact sOther_any l.1 l.2 k w
set_option maxHeartbeats 4000000 in
set_option maxRecDepth 100000 in
theorem sStraight_any (vn vl : Value) (ns ls : List Pr) (k : Int) (w : World) (hn : RP w vn ns) (hl : RP w vl ls) :
    Calls Tryz.prog 186 #[.agg #[vn, vl], .int .i64 k] w fun e w' => e = .returned (.bool (straightB ns ls k)) ∧ Below w.heap.size w w' := by
  by_cases hd : degI ns ls k = 2
  case neg =>
    have HR : Hid (straightB ns ls k = false) := Lib.hid (by simp [straightB, hd])
    obtain ⟨d, hdd⟩ : ∃ d, degI ns ls k = d := ⟨_, rfl⟩
    have hd2 : (d != 2) = true := by rw [← hdd]; simpa using hd
    have HD := Lib.hid hdd
    clear hd hdd
    go_enter Tryz.func186, Tryz.ntmps186
    go_wp2_with fail
    refine (sDegree_any _ _ ns ls _ _ (hn.below (by exact bel_)) (hl.below (by exact bel_))).mono ?_
    rw [HD.out]
    rintro e w1 ⟨rfl, hb1⟩; (first | (with_reducible have hcf1 := bcell_drew hb1) | have hcf1 := bcell hb1); obtain ⟨hc1, hf1⟩ := hcf1; have hz1 := hb1.size; (try simp at hz1); (try have hp1_0 : w.heap.size < w1.heap.size := by omega); (try have hp1_1 : w.heap.size + 1 < w1.heap.size := by omega); (try have hp1_2 : w.heap.size + 1 + 1 < w1.heap.size := by omega); (try have hp1_3 : w.heap.size + 1 + 1 + 1 < w1.heap.size := by omega)
    go_wp2
    go_ret
    exact ⟨ret_bool HR.out.symm, by exact bel_⟩
  obtain ⟨hk, h2⟩ := deg2 hd
  obtain ⟨hw, m, rfl, hm⟩ := hasN_win hk
  have hwin := winB_true.1 hw
  obtain ⟨p, q, t, u, eG, hp, hq, eE, ht, hu, _, _, o1, o2⟩ := ends_two hwin h2
  have HR : Hid (straightB ns ls m = betwB (ndI ns t).1 (ndI ns t).2 (ndI ns u).1 (ndI ns u).2 (ndI ns m).1 (ndI ns m).2) := Lib.hid (by
    unfold straightB
    rw [hd, eE]
    simp [betwP])
  have HD := Lib.hid hd
  have hn12 := hwin.2.1
  obtain ⟨An, cn, rfl, hcn, hmn, hcelln⟩ := hn.formI
  obtain ⟨Al, cl, rfl, hcl, hml, hcelll⟩ := hl.formI
  unfold maxLen at hmn hml
  obtain ⟨bn, offn, rfl, hbn, hcc⟩ := hcelln (by omega)
  obtain ⟨bl, offl, rfl, hbl, hcl2⟩ := hcelll (by omega)
  obtain ⟨t0, t1⟩ := hcc t ht
  obtain ⟨u0, u1⟩ := hcc u hu
  obtain ⟨m0, m1⟩ := hcc m hm
  obtain ⟨p0, p1⟩ := hcl2 p hp
  obtain ⟨q0, q1⟩ := hcl2 q hq
  have it1 : (0 : Int) ≤ (t : Int) := by omega
  have it2 : (t : Int) < (ns.length : Int) := by omega
  have iu1 : (0 : Int) ≤ (u : Int) := by omega
  have iu2 : (u : Int) < (ns.length : Int) := by omega
  have im1 : (0 : Int) ≤ (m : Int) := by omega
  have im2 : (m : Int) < (ns.length : Int) := by omega
  have ip1 : (0 : Int) ≤ (p : Int) := by omega
  have ip2 : (p : Int) < (ls.length : Int) := by omega
  have iq1 : (0 : Int) ≤ (q : Int) := by omega
  have iq2 : (q : Int) < (ls.length : Int) := by omega
  have HG := Lib.hid eG
  have O1 := Lib.hid o1
  have O2 := Lib.hid o2
  clear hd eG eE hwin hcelln hcc hcelll hcl2 o1 o2
  go_enter Tryz.func186, Tryz.ntmps186
  go_wp2_with fail
  refine (sDegree_any _ _ ns ls _ _ (hn.below (by exact bel_)) (hl.below (by exact bel_))).mono ?_
  rw [HD.out]
  rintro e w1 ⟨rfl, hb1⟩; (first | (with_reducible have hcf1 := bcell_drew hb1) | have hcf1 := bcell hb1); obtain ⟨hc1, hf1⟩ := hcf1; have hz1 := hb1.size; (try simp at hz1); (try have hp1_0 : w.heap.size < w1.heap.size := by omega); (try have hp1_1 : w.heap.size + 1 < w1.heap.size := by omega); (try have hp1_2 : w.heap.size + 1 + 1 < w1.heap.size := by omega); (try have hp1_3 : w.heap.size + 1 + 1 + 1 < w1.heap.size := by omega)
  have hW1 : Blk w1 w.heap.size 27 #[.slice (some ⟨bn, offn, none⟩) ns.length cn, .slice (some ⟨bl, offl, none⟩) ls.length cl] := Blk.below (Blk.newAt rfl) hb1 sz_
  have hbw1 : Below w.heap.size w w1 := by exact bel_
  clear hb1 hc1 hf1
  obtain ⟨a_0, a_1⟩ := hW1.c2
  go_wp2_with fail
  refine (sLeadsAt_yes _ _ ns ls _ _ (hn.below hbw1) (hl.below hbw1) hk).mono ?_
  rw [HG.out]
  rintro e w2 ⟨v2, rfl, ho2, hb2⟩
  have hz2 := hb2.size
  have hW2 := hW1.below hb2 hW1.lt
  have hbw2 : Below w.heap.size w w2 := hbw1.trans (hb2.mono hbw1.size)
  obtain ⟨A2, c2, e2, hc2, _, hcell2⟩ := ho2.reads.form
  subst e2
  obtain ⟨b2, o2, rfl, hb2', hcl2⟩ := hcell2 (by simp [natI])
  have x0 := hcl2 0 (by simp [natI])
  have x1 := hcl2 1 (by simp [natI])
  simp only [natI, List.map_cons, List.map_nil, List.getD_cons_zero, List.getD_cons_succ, Nat.add_zero] at x0 x1
  have c0 := (hbw2.cell (p := ⟨bn, offn + t * 2, none⟩) hbn).trans t0
  have c1' := (hbw2.cell (p := ⟨bn, offn + t * 2 + 1, none⟩) hbn).trans t1
  have c3 := (hbw2.cell (p := ⟨bn, offn + u * 2, none⟩) hbn).trans u0
  have c4 := (hbw2.cell (p := ⟨bn, offn + u * 2 + 1, none⟩) hbn).trans u1
  have c5 := (hbw2.cell (p := ⟨bn, offn + m * 2, none⟩) hbn).trans m0
  have c6 := (hbw2.cell (p := ⟨bn, offn + m * 2 + 1, none⟩) hbn).trans m1
  have l0 := (hbw2.cell (p := ⟨bl, offl + p * 2, none⟩) hbl).trans p0
  have l1 := (hbw2.cell (p := ⟨bl, offl + p * 2 + 1, none⟩) hbl).trans p1
  have l2 := (hbw2.cell (p := ⟨bl, offl + q * 2, none⟩) hbl).trans q0
  have l3 := (hbw2.cell (p := ⟨bl, offl + q * 2 + 1, none⟩) hbl).trans q1
  have z1 : w.heap.size < w2.heap.size := hW2.lt
  have z2 : bn < w2.heap.size := by omega
  have z3 : bl < w2.heap.size := by omega
  have z1' : w.heap.size < w2.heap.size + 1 := by omega
  have z2' : bn < w2.heap.size + 1 := by omega
  have z3' : bl < w2.heap.size + 1 := by omega
  have z4' : b2 < w2.heap.size + 1 := by omega
  have hln : (natI [p, q]).length = 2 := rfl
  have ne1 : w2.heap.size ≠ w.heap.size := by omega
  have ne2 : w2.heap.size ≠ bn := by omega
  have ne3 : w2.heap.size ≠ bl := by omega
  have ne4 : w2.heap.size ≠ b2 := by omega
  clear hb2 hW1 hbw1 a_0 a_1 ho2 hcl2 hcell2 t0 t1 u0 u1 m0 m1 p0 p1 q0 q1
  obtain ⟨a_0, a_1⟩ := hW2.c2
  rw [hln]
  go_wp2_with fail
  go_cut [6] (fun s6 wx => ∃ x : Nat, s6 = .pointer (some ⟨x, 0, none⟩) ∧ Below w2.heap.size w2 wx ∧ x < wx.heap.size ∧ (wx.cell? ⟨x, 0, none⟩ = some (.int .i64 (ndI ns t).1) ∧ wx.cell? ⟨x, 1, none⟩ = some (.int .i64 (ndI ns t).2)))
  case first =>
    go_region_held3 (fun w' => w'.cell? ⟨w.heap.size, 0, none⟩ = some (.slice (some ⟨bn, offn, none⟩) ns.length cn) ∧ w'.cell? ⟨w.heap.size, 1, none⟩ = some (.slice (some ⟨bl, offl, none⟩) ls.length cl) ∧ w'.cell? ⟨b2, o2, none⟩ = some (.int .i64 p) ∧ w'.cell? ⟨bl, offl + p * 2, none⟩ = some (.int .i64 (ndI ls p).1) ∧ w'.cell? ⟨bl, offl + p * 2 + 1, none⟩ = some (.int .i64 (ndI ls p).2) ∧ w'.cell? ⟨bn, offn + t * 2, none⟩ = some (.int .i64 (ndI ns t).1) ∧ w'.cell? ⟨bn, offn + t * 2 + 1, none⟩ = some (.int .i64 (ndI ns t).2))
      (go_keep)
      (first | (go_at_call 188; refine (sOther_at (ndI ls p) _ _ _ O1.out).mono ?_; rintro e w3 ⟨rfl, hb3⟩; (first | (with_reducible have hcf3 := bcell_drew hb3) | have hcf3 := bcell hb3); obtain ⟨hc3, hf3⟩ := hcf3; have hz3 := hb3.size; (try simp at hz3); (try have hp3_0 : w.heap.size < w3.heap.size := by omega); (try have hp3_1 : w.heap.size + 1 < w3.heap.size := by omega); (try have hp3_2 : w.heap.size + 1 + 1 < w3.heap.size := by omega); (try have hp3_3 : w.heap.size + 1 + 1 + 1 < w3.heap.size := by omega); (have y1 : bn < w3.heap.size := by omega); (have y2 : bl < w3.heap.size := by omega); (have y3 : b2 < w3.heap.size := by omega)))
    all_goals go_wp2
    all_goals go_meet
    all_goals exact ⟨_, rfl, by exact bel_, by first | omega | (simp; done) | (simp; omega), by first | (simp; done) | (simp [go_sem, hc3]; done), by first | (simp; done) | (simp [go_sem, hc3]; done)⟩
  case rest =>
    obtain ⟨x, rfl, hbc, hx, f0, f1⟩ := hcut
    obtain ⟨w4, hw4⟩ : ∃ w4 : World, w4 = wc := ⟨_, rfl⟩
    subst hw4
    have hz4 := hbc.size
    have hW4 := hW2.below hbc hW2.lt
    have x1' := (hbc.cell (p := ⟨b2, o2 + 1, none⟩) hb2').trans x1
    have d3 := (hbc.cell (p := ⟨bn, offn + u * 2, none⟩) z2).trans c3
    have d4 := (hbc.cell (p := ⟨bn, offn + u * 2 + 1, none⟩) z2).trans c4
    have d5 := (hbc.cell (p := ⟨bn, offn + m * 2, none⟩) z2).trans c5
    have d6 := (hbc.cell (p := ⟨bn, offn + m * 2 + 1, none⟩) z2).trans c6
    have d7 := (hbc.cell (p := ⟨bl, offl + q * 2, none⟩) z3).trans l2
    have d8 := (hbc.cell (p := ⟨bl, offl + q * 2 + 1, none⟩) z3).trans l3
    have hbw4 : Below w.heap.size w w4 := hbw2.trans (hbc.mono hbw2.size)
    have y1 : w.heap.size < w4.heap.size := hW4.lt
    have y2 : bn < w4.heap.size := by omega
    have y3 : bl < w4.heap.size := by omega
    have y4 : b2 < w4.heap.size := by omega
    have y1' : w.heap.size < w4.heap.size + 1 := by omega
    have y2' : bn < w4.heap.size + 1 := by omega
    have y3' : bl < w4.heap.size + 1 := by omega
    have y4' : b2 < w4.heap.size + 1 := by omega
    have me1 : w4.heap.size ≠ w.heap.size := by omega
    have me2 : w4.heap.size ≠ bn := by omega
    have me3 : w4.heap.size ≠ bl := by omega
    have me4 : w4.heap.size ≠ b2 := by omega
    clear hbc hW2 x0 x1 c0 c1' c3 c4 c5 c6 l0 l1 l2 l3 a_0 a_1 hbw2 ne1 ne2 ne3 ne4 z1' z2' z3' z4'
    obtain ⟨a_0, a_1⟩ := hW4.c2
    go_wp2_with fail
    go_cut [7] (fun s7 wx => ∃ y : Nat, s7 = .pointer (some ⟨y, 0, none⟩) ∧ Below w4.heap.size w4 wx ∧ y < wx.heap.size ∧ (wx.cell? ⟨y, 0, none⟩ = some (.int .i64 (ndI ns u).1) ∧ wx.cell? ⟨y, 1, none⟩ = some (.int .i64 (ndI ns u).2)))
    case first =>
      go_region_held3 (fun w' => w'.cell? ⟨w.heap.size, 0, none⟩ = some (.slice (some ⟨bn, offn, none⟩) ns.length cn) ∧ w'.cell? ⟨w.heap.size, 1, none⟩ = some (.slice (some ⟨bl, offl, none⟩) ls.length cl) ∧ w'.cell? ⟨b2, o2 + 1, none⟩ = some (.int .i64 q) ∧ w'.cell? ⟨bl, offl + q * 2, none⟩ = some (.int .i64 (ndI ls q).1) ∧ w'.cell? ⟨bl, offl + q * 2 + 1, none⟩ = some (.int .i64 (ndI ls q).2) ∧ w'.cell? ⟨bn, offn + u * 2, none⟩ = some (.int .i64 (ndI ns u).1) ∧ w'.cell? ⟨bn, offn + u * 2 + 1, none⟩ = some (.int .i64 (ndI ns u).2))
        (go_keep)
        (first | (go_at_call 188; refine (sOther_at (ndI ls q) _ _ _ O2.out).mono ?_; rintro e w3 ⟨rfl, hb3⟩; (first | (with_reducible have hcf3 := bcell_drew hb3) | have hcf3 := bcell hb3); obtain ⟨hc3, hf3⟩ := hcf3; have hz3 := hb3.size; (try simp at hz3); (try have hp3_0 : w.heap.size < w3.heap.size := by omega); (try have hp3_1 : w.heap.size + 1 < w3.heap.size := by omega); (try have hp3_2 : w.heap.size + 1 + 1 < w3.heap.size := by omega); (try have hp3_3 : w.heap.size + 1 + 1 + 1 < w3.heap.size := by omega); (have y1 : bn < w3.heap.size := by omega); (have y2 : bl < w3.heap.size := by omega); (have y3 : b2 < w3.heap.size := by omega)))
      all_goals go_wp2
      all_goals go_meet
      all_goals exact ⟨_, rfl, by exact bel_, by first | omega | (simp; done) | (simp; omega), by first | (simp; done) | (simp [go_sem, hc3]; done), by first | (simp; done) | (simp [go_sem, hc3]; done)⟩
    case rest =>
      obtain ⟨y, rfl, hbc, hy, f2, f3⟩ := hcut
      obtain ⟨w5, hw5⟩ : ∃ w5 : World, w5 = wc := ⟨_, rfl⟩
      subst hw5
      have hz5 := hbc.size
      have hW5 := hW4.below hbc hW4.lt
      have g0 := (hbc.cell (p := ⟨x, 0, none⟩) hx).trans f0
      have g1 := (hbc.cell (p := ⟨x, 1, none⟩) hx).trans f1
      have g5 := (hbc.cell (p := ⟨bn, offn + m * 2, none⟩) y2).trans d5
      have g6 := (hbc.cell (p := ⟨bn, offn + m * 2 + 1, none⟩) y2).trans d6
      have hbw5 : Below w.heap.size w w5 := hbw4.trans (hbc.mono hbw4.size)
      have e1 : w.heap.size < w5.heap.size := hW5.lt
      have e2 : bn < w5.heap.size := by omega
      have e3 : x < w5.heap.size := by omega
      clear hbc hW4 f0 f1 d3 d4 d5 d6 d7 d8 a_0 a_1 hbw4 x1' hx
      obtain ⟨a_0, a_1⟩ := hW5.c2
      go_wp2_with fail
      (refine wp_region_quietG (by kernel_rfl) (by kernel_rfl) (fun hG => ?_))
      repeat (go_big_quiet_step ((go_at_call 240; exact quietG (sBetween_any _ _ _ _ _ _ _))))
      (refine wpQuiet_nil ?_); (clear hG); (rintro w6 ⟨⟨_, hb6⟩, rfl⟩); (try dsimp only); (first | (with_reducible have hcf6 := bcell_drew hb6) | have hcf6 := bcell hb6); obtain ⟨hc6, hf6⟩ := hcf6; have hz6 := hb6.size; (try simp at hz6); (try have hp6_0 : w.heap.size < w6.heap.size := by omega); (try have hp6_1 : w.heap.size + 1 < w6.heap.size := by omega); (try have hp6_2 : w.heap.size + 1 + 1 < w6.heap.size := by omega); (try have hp6_3 : w.heap.size + 1 + 1 + 1 < w6.heap.size := by omega)
      go_wp2
      go_ret
      exact ⟨ret_bool HR.out.symm, by exact bel_⟩
end Go.Proofs.YtnjcpljhmhdhkaaGreat
