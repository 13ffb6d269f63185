/-
  Leads at a node, degrees, joints: both sides walked.
-/
import Derived.Test.YtoknmjpnelbplaaGreatArdS
set_option linter.unusedSimpArgs false
set_option linter.unusedVariables false
namespace Go.Proofs.YtoknmjpnelbplaaGreat
open Go.RowKit

theorem cell_one_at {W : World} {v : Value} {t : TypeId} {g : Nat} (hg : g = W.heap.size) : ∀ (j : Nat) (u : Value), [v][j]? = some u → (W.alloc (.cells #[v] t)).cell? ((⟨g, 0, none⟩ : Addr).add j) = some u := by
  subst hg
  exact cell_one_new _ _ _

/-- Lead i touches node k. -/
def touchB (ls : List Pr) (k : Int) (i : Nat) : Bool := (ndI ls i).1 == k || (ndI ls i).2 == k

theorem touch_no {ls : List Pr} {k : Int} {i : Nat} (h : touchB ls k i = false) : ¬ (ndI ls i).1 = k ∧ ¬ (ndI ls i).2 = k := by
  simpa [touchB] using h
theorem touch_yes {ls : List Pr} {k : Int} {i : Nat} (h : touchB ls k i = true) (h2 : ¬ (ndI ls i).1 = k) : (ndI ls i).2 = k := by
  simpa [touchB, h2] using h

/-- The leads at a node among the first ones. -/
def atN (ls : List Pr) (k : Int) : Nat → List Nat
  | 0 => []
  | i + 1 => if touchB ls k i then atN ls k i ++ [i] else atN ls k i

theorem atN_yes {ls : List Pr} {k : Int} {i : Nat} (h : touchB ls k i = true) : atN ls k (i + 1) = atN ls k i ++ [i] := by simp [atN, h]
theorem atN_no {ls : List Pr} {k : Int} {i : Nat} (h : touchB ls k i = false) : atN ls k (i + 1) = atN ls k i := by simp [atN, h]
theorem atN_len (ls : List Pr) (k : Int) : ∀ i, (atN ls k i).length ≤ i
  | 0 => by simp [atN]
  | i + 1 => by
    have := atN_len ls k i
    unfold atN
    split <;> simp <;> omega

theorem ard_at {ns ls : List Pr} (hld : ∀ j : Nat, j < ls.length → leadB ns (ndI ls j) = true) (k : Nat) : ∀ j, j ≤ ls.length → (ardS ns ls k (2 * j)).length = (atN ls k j).length
  | 0, _ => rfl
  | j + 1, h => by
    have ih := ard_at hld k j (by omega)
    obtain ⟨h1, h2, _⟩ := leadB_iff.1 (hld j (by omega))
    have e0 : dFrom ls (2 * j) = (ndI ls j).1 := by
      unfold dFrom; rw [if_neg (by omega), show 2 * j / 2 = j by omega]
    have e1 : dFrom ls (2 * j + 1) = (ndI ls j).2 := by
      unfold dFrom; rw [if_pos (by omega), show (2 * j + 1) / 2 = j by omega]
    rw [show 2 * (j + 1) = 2 * j + 1 + 1 by omega]
    by_cases t1 : (ndI ls j).1 = k
    · have t2 : ¬ (ndI ls j).2 = k := by omega
      rw [ardS_no (by rw [e1]; exact t2), ardS_yes (by rw [e0]; exact t1), insN_length, ih, atN_yes (by simp [touchB, t1])]
      simp
    · by_cases t2 : (ndI ls j).2 = k
      · rw [ardS_yes (by rw [e1]; exact t2), insN_length, ardS_no (by rw [e0]; exact t1), ih, atN_yes (by simp [touchB, t2])]
        simp
      · rw [ardS_no (by rw [e1]; exact t2), ardS_no (by rw [e0]; exact t1), ih, atN_no (by simp [touchB, t1, t2])]

theorem iWinOk_at (vn vl : Value) (ns ls : List Pr) (b : Bool) (w : World) (hn : RP w vn ns) (hl : RP w vl ls) (hb : winB ns ls = b) :
    Calls Tryz.prog 125 #[.agg #[vn, vl]] w fun e w' => e = .returned (.bool b) ∧ Below w.heap.size w w' := by
  subst hb; exact iWinOk_any vn vl ns ls w hn hl

theorem sWinOk_at (vn vl : Value) (ns ls : List Pr) (b : Bool) (w : World) (hn : RP w vn ns) (hl : RP w vl ls) (hb : winB ns ls = b) :
    Calls Tryz.prog 115 #[.agg #[vn, vl]] w fun e w' => e = .returned (.bool b) ∧ Below w.heap.size w w' := by
  subst hb; exact sWinOk_any vn vl ns ls w hn hl

/-- k is a node of a valid window. -/
noncomputable def hasN (ns ls : List Pr) (k : Int) : Bool := winB ns ls && inB k 0 ((ns.length : Int) - 1)

set_option maxHeartbeats 1000000 in
set_option maxRecDepth 100000 in
theorem iHasNode_any (vn vl : Value) (ns ls : List Pr) (k : Int) (w : World) (hn : RP w vn ns) (hl : RP w vl ls) :
    Calls Tryz.prog 233 #[.agg #[vn, vl], .int .i64 k] w fun e w' => e = .returned (.bool (hasN ns ls k)) ∧ Below w.heap.size w w' := by
  obtain ⟨An, cn, rfl, hcn, hmn, _⟩ := hn.formI
  unfold maxLen at hmn
  cases hw : winB ns ls
  · have HR : Hid (hasN ns ls k = false) := Lib.hid (by simp [hasN, hw])
    go_enter Tryz.func233, Tryz.ntmps233
    go_wp2_with fail
    refine (iWinOk_at _ _ ns ls _ _ (hn.below (by (repeat' (first | (with_reducible exact Below.refl _ _) | (with_reducible assumption) | (with_reducible refine Below.drew ?_) | (with_reducible refine below_drewN ?_ _) | (with_reducible refine Below.alloc ?_ ?_ _) | (with_reducible refine Below.setCell ?_ ?_ _) | (with_reducible refine Below.step (by assumption) ?_ ?_))); all_goals (first | omega | (simp; done) | (simp; omega)))) (hl.below (by (repeat' (first | (with_reducible exact Below.refl _ _) | (with_reducible assumption) | (with_reducible refine Below.drew ?_) | (with_reducible refine below_drewN ?_ _) | (with_reducible refine Below.alloc ?_ ?_ _) | (with_reducible refine Below.setCell ?_ ?_ _) | (with_reducible refine Below.step (by assumption) ?_ ?_))); all_goals (first | omega | (simp; done) | (simp; omega)))) hw).mono ?_
    rintro e w1 ⟨rfl, hb1⟩; (first | (with_reducible have hcf1 := bcell_drew hb1) | have hcf1 := bcell hb1); obtain ⟨hc1, hf1⟩ := hcf1; have hz1 := hb1.size; (try simp at hz1); (try have hp1_0 : w.heap.size < w1.heap.size := by omega); (try have hp1_1 : w.heap.size + 1 < w1.heap.size := by omega); (try have hp1_2 : w.heap.size + 1 + 1 < w1.heap.size := by omega); (try have hp1_3 : w.heap.size + 1 + 1 + 1 < w1.heap.size := by omega)
    go_wp2
    go_ret
    exact ⟨ret_bool HR.out.symm, by (repeat' (first | (with_reducible exact Below.refl _ _) | (with_reducible assumption) | (with_reducible refine Below.drew ?_) | (with_reducible refine below_drewN ?_ _) | (with_reducible refine Below.alloc ?_ ?_ _) | (with_reducible refine Below.setCell ?_ ?_ _) | (with_reducible refine Below.step (by assumption) ?_ ?_))); all_goals (first | omega | (simp; done) | (simp; omega))⟩
  · have HR : Hid (hasN ns ls k = inB k 0 ((ns.length : Int) - 1)) := Lib.hid (by simp [hasN, hw])
    go_enter Tryz.func233, Tryz.ntmps233
    go_wp2_with fail
    refine (iWinOk_at _ _ ns ls _ _ (hn.below (by (repeat' (first | (with_reducible exact Below.refl _ _) | (with_reducible assumption) | (with_reducible refine Below.drew ?_) | (with_reducible refine below_drewN ?_ _) | (with_reducible refine Below.alloc ?_ ?_ _) | (with_reducible refine Below.setCell ?_ ?_ _) | (with_reducible refine Below.step (by assumption) ?_ ?_))); all_goals (first | omega | (simp; done) | (simp; omega)))) (hl.below (by (repeat' (first | (with_reducible exact Below.refl _ _) | (with_reducible assumption) | (with_reducible refine Below.drew ?_) | (with_reducible refine below_drewN ?_ _) | (with_reducible refine Below.alloc ?_ ?_ _) | (with_reducible refine Below.setCell ?_ ?_ _) | (with_reducible refine Below.step (by assumption) ?_ ?_))); all_goals (first | omega | (simp; done) | (simp; omega)))) hw).mono ?_
    rintro e w1 ⟨rfl, hb1⟩; (first | (with_reducible have hcf1 := bcell_drew hb1) | have hcf1 := bcell hb1); obtain ⟨hc1, hf1⟩ := hcf1; have hz1 := hb1.size; (try simp at hz1); (try have hp1_0 : w.heap.size < w1.heap.size := by omega); (try have hp1_1 : w.heap.size + 1 < w1.heap.size := by omega); (try have hp1_2 : w.heap.size + 1 + 1 < w1.heap.size := by omega); (try have hp1_3 : w.heap.size + 1 + 1 + 1 < w1.heap.size := by omega)
    go_wp2_with fail
    refine (within_any _ _ _ _).mono ?_
    rintro e w' ⟨rfl, rfl⟩
    rw [← HR.out]
    go_wp2
    go_ret
    exact ⟨rfl, by (repeat' (first | (with_reducible exact Below.refl _ _) | (with_reducible assumption) | (with_reducible refine Below.drew ?_) | (with_reducible refine below_drewN ?_ _) | (with_reducible refine Below.alloc ?_ ?_ _) | (with_reducible refine Below.setCell ?_ ?_ _) | (with_reducible refine Below.step (by assumption) ?_ ?_))); all_goals (first | omega | (simp; done) | (simp; omega))⟩

theorem iHasNode_at (vn vl : Value) (ns ls : List Pr) (k : Int) (b : Bool) (w : World) (hn : RP w vn ns) (hl : RP w vl ls) (hb : hasN ns ls k = b) :
    Calls Tryz.prog 233 #[.agg #[vn, vl], .int .i64 k] w fun e w' => e = .returned (.bool b) ∧ Below w.heap.size w w' := by
  subst hb; exact iHasNode_any vn vl ns ls k w hn hl

set_option maxHeartbeats 4000000 in
set_option maxRecDepth 100000 in
theorem iLeadsAt_yes (vn vl : Value) (ns ls : List Pr) (k : Int) (w : World) (hn : RP w vn ns) (hl : RP w vl ls) (hk : hasN ns ls k = true) :
    Calls Tryz.prog 223 #[.agg #[vn, vl], .int .i64 k] w (RetI (natI (atN ls k ls.length)) w) := by
  have hW : WinOk ns ls := by
    unfold hasN at hk; rw [Bool.and_eq_true] at hk
    exact winB_true.1 hk.1
  have hm20 := hW.2.2.1
  obtain ⟨Al, cl, rfl, hcl, hml, hcelll⟩ := hl.formI
  obtain ⟨i0, hi, iz0, iz1, iz2⟩ := info_parts infoInt
  unfold maxLen at hml
  clear hW
  go_enter Tryz.func223, Tryz.ntmps223
  go_wp2_with fail
  refine (iHasNode_at _ _ ns ls _ _ _ (hn.below (by (repeat' (first | (with_reducible exact Below.refl _ _) | (with_reducible assumption) | (with_reducible refine Below.drew ?_) | (with_reducible refine below_drewN ?_ _) | (with_reducible refine Below.alloc ?_ ?_ _) | (with_reducible refine Below.setCell ?_ ?_ _) | (with_reducible refine Below.step (by assumption) ?_ ?_))); all_goals (first | omega | (simp; done) | (simp; omega)))) (hl.below (by (repeat' (first | (with_reducible exact Below.refl _ _) | (with_reducible assumption) | (with_reducible refine Below.drew ?_) | (with_reducible refine below_drewN ?_ _) | (with_reducible refine Below.alloc ?_ ?_ _) | (with_reducible refine Below.setCell ?_ ?_ _) | (with_reducible refine Below.step (by assumption) ?_ ?_))); all_goals (first | omega | (simp; done) | (simp; omega)))) hk).mono ?_
  rintro e w1 ⟨rfl, hb1⟩; (first | (with_reducible have hcf1 := bcell_drew hb1) | have hcf1 := bcell hb1); obtain ⟨hc1, hf1⟩ := hcf1; have hz1 := hb1.size; (try simp at hz1); (try have hp1_0 : w.heap.size < w1.heap.size := by omega); (try have hp1_1 : w.heap.size + 1 < w1.heap.size := by omega); (try have hp1_2 : w.heap.size + 1 + 1 < w1.heap.size := by omega); (try have hp1_3 : w.heap.size + 1 + 1 + 1 < w1.heap.size := by omega)
  have hW1 : Blk w1 w.heap.size 38 #[vn, .slice Al ls.length cl] := Blk.below (Blk.newAt rfl) hb1 (by first | omega | (simp; done) | (simp; omega))
  have hbw1 : Below w.heap.size w w1 := by (repeat' (first | (with_reducible exact Below.refl _ _) | (with_reducible assumption) | (with_reducible refine Below.drew ?_) | (with_reducible refine below_drewN ?_ _) | (with_reducible refine Below.alloc ?_ ?_ _) | (with_reducible refine Below.setCell ?_ ?_ _) | (with_reducible refine Below.step (by assumption) ?_ ?_))); all_goals (first | omega | (simp; done) | (simp; omega))
  clear hb1 hc1 hf1
  (have a_0 := hW1.cell 0); (have a_1 := hW1.cell 1); simp only [List.getElem?_toArray, List.getElem?_cons_succ, List.getElem?_cons_zero] at a_0 a_1
  go_wp2
  go_loopw [5, 15] (fun v i wr => ∃ j : Nat, j ≤ ls.length ∧ i = .int .i64 j ∧ OwnI w.heap.size wr v (natI (atN ls k j)) ∧ Below w.heap.size w wr) (fun _ i _ => ls.length - (intOf i).toNat)
  case atStart => exact ⟨0, Nat.zero_le _, rfl, OwnI.nil _ _, hbw1⟩
  case round =>
    obtain ⟨j, hj, rfl, ho, hbl⟩ := hrel
    clear hW1 hbw1 a_0 a_1
    have hsz := hbl.size
    by_cases hlt : j < ls.length
    · obtain ⟨b, off, rfl, hb, hcc⟩ := hcelll (by omega)
      obtain ⟨k0, k1⟩ := hcc j hlt
      have q0 := (hbl.cell (p := ⟨b, off + j * 2, none⟩) hb).trans k0
      have q1 := (hbl.cell (p := ⟨b, off + j * 2 + 1, none⟩) hb).trans k1
      have hi1 : (0 : Int) ≤ (j : Int) := by omega
      have hi2 : (j : Int) < (ls.length : Int) := by omega
      have hlen := atN_len ls k j
      have hnl := natI_length (atN ls k j)
      have HY := Lib.hid (fun h => atN_yes (ls := ls) (k := k) (i := j) h)
      have HN := Lib.hid (fun h => atN_no (ls := ls) (k := k) (i := j) h)
      generalize atN ls k j = G at *
      have HL := Lib.hid hnl
      clear hnl k0 k1 hcc hcelll
      have hG : G.length ≤ 20 := by omega
      cases ht : touchB ls k j
      · have HS := Lib.hid (HN.out ht)
        obtain ⟨e3, e4⟩ := touch_no ht
        have e1 : ((ndI ls j).1 == k) = false := beq_eq_false_iff_ne.2 e3
        have e2 : ((ndI ls j).2 == k) = false := beq_eq_false_iff_ne.2 e4
        clear ht
        have HB : Hid (Below w.heap.size w (wr.alloc (.cells #[.int .i64 (ndI ls j).1, .int .i64 (ndI ls j).2] 143))) := Lib.hid (by (repeat' (first | (with_reducible exact Below.refl _ _) | (with_reducible assumption) | (with_reducible refine Below.drew ?_) | (with_reducible refine below_drewN ?_ _) | (with_reducible refine Below.alloc ?_ ?_ _) | (with_reducible refine Below.setCell ?_ ?_ _) | (with_reducible refine Below.step (by assumption) ?_ ?_))); all_goals (first | omega | (simp; done) | (simp; omega)))
        have HO := Lib.hid (ho.alloc (.cells #[.int .i64 (ndI ls j).1, .int .i64 (ndI ls j).2] 143))
        clear ho hbl
        go_wp2
        go_roundw
        case rel => exact ⟨j + 1, by omega, by go_num, by rw [HS.out]; exact HO.out, HB.out⟩
        case measure => simp [intOf]; omega
      · have HS := Lib.hid (HY.out ht)
        have hty := fun h => touch_yes ht h
        clear ht
        generalize (ndI ls j).1 = L1 at *
        generalize (ndI ls j).2 = L2 at *
        by_cases e3 : L1 = k
        · subst e3
          clear hty
          have HB : Hid (Below w.heap.size w (wr.alloc (.cells #[.int .i64 L1, .int .i64 L2] 143))) := Lib.hid (by (repeat' (first | (with_reducible exact Below.refl _ _) | (with_reducible assumption) | (with_reducible refine Below.drew ?_) | (with_reducible refine below_drewN ?_ _) | (with_reducible refine Below.alloc ?_ ?_ _) | (with_reducible refine Below.setCell ?_ ?_ _) | (with_reducible refine Below.step (by assumption) ?_ ?_))); all_goals (first | omega | (simp; done) | (simp; omega)))
          have hoa := ho.alloc (.cells #[.int .i64 L1, .int .i64 L2] 143)
          go_wp2_with (at_builtin; refine wpList_append_own _ rfl _ _ 29 rfl w.heap.size 3 i0 (.int .i64 0) 1 8 Tryz.underlying29 hi iz0 iz1 iz2 rfl (by decide) _ _ _ rfl (World.ownsRow.alloc hoa _) ⟨wr.heap.size + 1, 0, none⟩ 1 1 [.int .i64 _] rfl rfl (cell_one_at (by simp)) (by intro u hu; simp at hu; subst hu; rfl) (by rw [HL.out]; unfold maxLen; omega) (by rw [HL.out]; omega) (by simp; omega) ?_)
          intro v' w1 hown1 hg1 _
          have hbl1 : Below w.heap.size w w1 := (HB.out.alloc (by simp; omega) _).grown hg1 (by simp; omega) (fun k hk => (ho.lt k hk).1)
          have HO : OwnI w.heap.size w1 v' (natI (G ++ [j])) := by
            unfold natI
            rw [List.map_append]
            exact OwnI.snoc hown1
          clear hown1 hg1 ho hoa hbl HB
          go_wp2
          go_roundw
          case rel => exact ⟨j + 1, by omega, by go_num, by rw [HS.out]; exact HO, hbl1⟩
          case measure => simp [intOf]; omega
        · have e4 := hty e3
          have e1 : (L1 == k) = false := beq_eq_false_iff_ne.2 e3
          clear hty
          subst e4
          have HB : Hid (Below w.heap.size w (wr.alloc (.cells #[.int .i64 L1, .int .i64 L2] 143))) := Lib.hid (by (repeat' (first | (with_reducible exact Below.refl _ _) | (with_reducible assumption) | (with_reducible refine Below.drew ?_) | (with_reducible refine below_drewN ?_ _) | (with_reducible refine Below.alloc ?_ ?_ _) | (with_reducible refine Below.setCell ?_ ?_ _) | (with_reducible refine Below.step (by assumption) ?_ ?_))); all_goals (first | omega | (simp; done) | (simp; omega)))
          have hoa := ho.alloc (.cells #[.int .i64 L1, .int .i64 L2] 143)
          go_wp2_with (at_builtin; refine wpList_append_own _ rfl _ _ 29 rfl w.heap.size 3 i0 (.int .i64 0) 1 8 Tryz.underlying29 hi iz0 iz1 iz2 rfl (by decide) _ _ _ rfl (World.ownsRow.alloc hoa _) ⟨wr.heap.size + 1, 0, none⟩ 1 1 [.int .i64 _] rfl rfl (cell_one_at (by simp)) (by intro u hu; simp at hu; subst hu; rfl) (by rw [HL.out]; unfold maxLen; omega) (by rw [HL.out]; omega) (by simp; omega) ?_)
          intro v' w1 hown1 hg1 _
          have hbl1 : Below w.heap.size w w1 := (HB.out.alloc (by simp; omega) _).grown hg1 (by simp; omega) (fun k hk => (ho.lt k hk).1)
          have HO : OwnI w.heap.size w1 v' (natI (G ++ [j])) := by
            unfold natI
            rw [List.map_append]
            exact OwnI.snoc hown1
          clear hown1 hg1 ho hoa hbl HB
          go_wp2
          go_roundw
          case rel => exact ⟨j + 1, by omega, by go_num, by rw [HS.out]; exact HO, hbl1⟩
          case measure => simp [intOf]; omega
    · have hjj : j = ls.length := by omega
      subst hjj
      clear hcelll
      go_wp2
      go_ret
      exact ⟨_, rfl, ho, hbl⟩

set_option maxHeartbeats 1000000 in
set_option maxRecDepth 100000 in
theorem iLeadsAt_no (vn vl : Value) (ns ls : List Pr) (k : Int) (w : World) (hn : RP w vn ns) (hl : RP w vl ls) (hk : hasN ns ls k = false) :
    Calls Tryz.prog 223 #[.agg #[vn, vl], .int .i64 k] w (RetI [] w) := by
  go_enter Tryz.func223, Tryz.ntmps223
  go_wp2_with fail
  refine (iHasNode_at _ _ ns ls _ _ _ (hn.below (by (repeat' (first | (with_reducible exact Below.refl _ _) | (with_reducible assumption) | (with_reducible refine Below.drew ?_) | (with_reducible refine below_drewN ?_ _) | (with_reducible refine Below.alloc ?_ ?_ _) | (with_reducible refine Below.setCell ?_ ?_ _) | (with_reducible refine Below.step (by assumption) ?_ ?_))); all_goals (first | omega | (simp; done) | (simp; omega)))) (hl.below (by (repeat' (first | (with_reducible exact Below.refl _ _) | (with_reducible assumption) | (with_reducible refine Below.drew ?_) | (with_reducible refine below_drewN ?_ _) | (with_reducible refine Below.alloc ?_ ?_ _) | (with_reducible refine Below.setCell ?_ ?_ _) | (with_reducible refine Below.step (by assumption) ?_ ?_))); all_goals (first | omega | (simp; done) | (simp; omega)))) hk).mono ?_
  rintro e w1 ⟨rfl, hb1⟩; (first | (with_reducible have hcf1 := bcell_drew hb1) | have hcf1 := bcell hb1); obtain ⟨hc1, hf1⟩ := hcf1; have hz1 := hb1.size; (try simp at hz1); (try have hp1_0 : w.heap.size < w1.heap.size := by omega); (try have hp1_1 : w.heap.size + 1 < w1.heap.size := by omega); (try have hp1_2 : w.heap.size + 1 + 1 < w1.heap.size := by omega); (try have hp1_3 : w.heap.size + 1 + 1 + 1 < w1.heap.size := by omega)
  go_wp2
  go_ret
  exact ⟨_, rfl, OwnI.nil _ _, by (repeat' (first | (with_reducible exact Below.refl _ _) | (with_reducible assumption) | (with_reducible refine Below.drew ?_) | (with_reducible refine below_drewN ?_ _) | (with_reducible refine Below.alloc ?_ ?_ _) | (with_reducible refine Below.setCell ?_ ?_ _) | (with_reducible refine Below.step (by assumption) ?_ ?_))); all_goals (first | omega | (simp; done) | (simp; omega))⟩

/-- The degree of a node, or -1. -/
noncomputable def degI (ns ls : List Pr) (k : Int) : Int := if hasN ns ls k then ((atN ls k ls.length).length : Int) else -1

set_option maxHeartbeats 1000000 in
set_option maxRecDepth 100000 in
theorem iDegree_any (vn vl : Value) (ns ls : List Pr) (k : Int) (w : World) (hn : RP w vn ns) (hl : RP w vl ls) :
    Calls Tryz.prog 231 #[.agg #[vn, vl], .int .i64 k] w fun e w' => e = .returned (.int .i64 (degI ns ls k)) ∧ Below w.heap.size w w' := by
  cases hk : hasN ns ls k
  · have HR : Hid (degI ns ls k = -1) := Lib.hid (by simp [degI, hk])
    go_enter Tryz.func231, Tryz.ntmps231
    go_wp2_with fail
    refine (iHasNode_at _ _ ns ls _ _ _ (hn.below (by (repeat' (first | (with_reducible exact Below.refl _ _) | (with_reducible assumption) | (with_reducible refine Below.drew ?_) | (with_reducible refine below_drewN ?_ _) | (with_reducible refine Below.alloc ?_ ?_ _) | (with_reducible refine Below.setCell ?_ ?_ _) | (with_reducible refine Below.step (by assumption) ?_ ?_))); all_goals (first | omega | (simp; done) | (simp; omega)))) (hl.below (by (repeat' (first | (with_reducible exact Below.refl _ _) | (with_reducible assumption) | (with_reducible refine Below.drew ?_) | (with_reducible refine below_drewN ?_ _) | (with_reducible refine Below.alloc ?_ ?_ _) | (with_reducible refine Below.setCell ?_ ?_ _) | (with_reducible refine Below.step (by assumption) ?_ ?_))); all_goals (first | omega | (simp; done) | (simp; omega)))) hk).mono ?_
    rintro e w1 ⟨rfl, hb1⟩; (first | (with_reducible have hcf1 := bcell_drew hb1) | have hcf1 := bcell hb1); obtain ⟨hc1, hf1⟩ := hcf1; have hz1 := hb1.size; (try simp at hz1); (try have hp1_0 : w.heap.size < w1.heap.size := by omega); (try have hp1_1 : w.heap.size + 1 < w1.heap.size := by omega); (try have hp1_2 : w.heap.size + 1 + 1 < w1.heap.size := by omega); (try have hp1_3 : w.heap.size + 1 + 1 + 1 < w1.heap.size := by omega)
    go_wp2
    go_ret
    exact ⟨ret_int HR.out.symm, by (repeat' (first | (with_reducible exact Below.refl _ _) | (with_reducible assumption) | (with_reducible refine Below.drew ?_) | (with_reducible refine below_drewN ?_ _) | (with_reducible refine Below.alloc ?_ ?_ _) | (with_reducible refine Below.setCell ?_ ?_ _) | (with_reducible refine Below.step (by assumption) ?_ ?_))); all_goals (first | omega | (simp; done) | (simp; omega))⟩
  · have HR : Hid (degI ns ls k = ((natI (atN ls k ls.length)).length : Int)) := Lib.hid (by simp [degI, hk, natI_length])
    go_enter Tryz.func231, Tryz.ntmps231
    go_wp2_with fail
    refine (iHasNode_at _ _ ns ls _ _ _ (hn.below (by (repeat' (first | (with_reducible exact Below.refl _ _) | (with_reducible assumption) | (with_reducible refine Below.drew ?_) | (with_reducible refine below_drewN ?_ _) | (with_reducible refine Below.alloc ?_ ?_ _) | (with_reducible refine Below.setCell ?_ ?_ _) | (with_reducible refine Below.step (by assumption) ?_ ?_))); all_goals (first | omega | (simp; done) | (simp; omega)))) (hl.below (by (repeat' (first | (with_reducible exact Below.refl _ _) | (with_reducible assumption) | (with_reducible refine Below.drew ?_) | (with_reducible refine below_drewN ?_ _) | (with_reducible refine Below.alloc ?_ ?_ _) | (with_reducible refine Below.setCell ?_ ?_ _) | (with_reducible refine Below.step (by assumption) ?_ ?_))); all_goals (first | omega | (simp; done) | (simp; omega)))) hk).mono ?_
    rintro e w1 ⟨rfl, hb1⟩; (first | (with_reducible have hcf1 := bcell_drew hb1) | have hcf1 := bcell hb1); obtain ⟨hc1, hf1⟩ := hcf1; have hz1 := hb1.size; (try simp at hz1); (try have hp1_0 : w.heap.size < w1.heap.size := by omega); (try have hp1_1 : w.heap.size + 1 < w1.heap.size := by omega); (try have hp1_2 : w.heap.size + 1 + 1 < w1.heap.size := by omega); (try have hp1_3 : w.heap.size + 1 + 1 + 1 < w1.heap.size := by omega)
    have hbw1 : Below w.heap.size w w1 := by (repeat' (first | (with_reducible exact Below.refl _ _) | (with_reducible assumption) | (with_reducible refine Below.drew ?_) | (with_reducible refine below_drewN ?_ _) | (with_reducible refine Below.alloc ?_ ?_ _) | (with_reducible refine Below.setCell ?_ ?_ _) | (with_reducible refine Below.step (by assumption) ?_ ?_))); all_goals (first | omega | (simp; done) | (simp; omega))
    go_wp2_with fail
    refine (iLeadsAt_yes _ _ ns ls _ _ (hn.below hbw1) (hl.below hbw1) hk).mono ?_
    rintro e w2 ⟨v2, rfl, ho2, hb2⟩
    obtain ⟨A2, c2, rfl⟩ := ho2.form
    have hbw2 : Below w.heap.size w w2 := by (repeat' (first | (with_reducible exact Below.refl _ _) | (with_reducible assumption) | (with_reducible refine Below.drew ?_) | (with_reducible refine below_drewN ?_ _) | (with_reducible refine Below.alloc ?_ ?_ _) | (with_reducible refine Below.setCell ?_ ?_ _) | (with_reducible refine Below.step (by assumption) ?_ ?_))); all_goals (first | omega | (simp; done) | (simp; omega))
    go_wp2
    go_ret
    exact ⟨ret_int HR.out.symm, hbw2⟩

end Go.Proofs.YtoknmjpnelbplaaGreat
