/-
  Joints counted: both sides and the law walked.
-/
import Derived.Test.YtnpdincjekelaaaDeg
import Derived.Test.YtnpdincjekelaaaSame
import Derived.Deep.RegionHeld3
set_option linter.unusedSimpArgs false
set_option linter.unusedVariables false
namespace Go.Proofs.Ytnpdincjekelaaa
open Go.RowKit

/-- The nodes of degree two and more among the first ones. -/
def jointsN (ls : List Pr) : Nat → Nat
  | 0 => 0
  | k + 1 => if 2 ≤ (atN ls k ls.length).length then jointsN ls k + 1 else jointsN ls k

theorem jointsN_le (ls : List Pr) : ∀ k, jointsN ls k ≤ k
  | 0 => Nat.le_refl _
  | k + 1 => by
    have := jointsN_le ls k
    unfold jointsN
    split <;> omega

noncomputable def jointsI (ns ls : List Pr) : Int := if winB ns ls then (jointsN ls ns.length : Int) else -1

set_option maxHeartbeats 4000000 in
set_option maxRecDepth 100000 in
theorem iJoints_any (vn vl : Value) (ns ls : List Pr) (w : World) (hn : RP w vn ns) (hl : RP w vl ls) :
    Calls Try.prog 25 #[.agg #[vn, vl]] w fun e w' => e = .returned (.int .i64 (jointsI ns ls)) ∧ Below w.heap.size w w' := by
  cases hw : winB ns ls
  · have HR : Hid (jointsI ns ls = -1) := Lib.hid (by simp [jointsI, hw])
    go_enter Try.func25, Try.ntmps25
    go_wp2_with fail
    refine (iWinOk_at _ _ ns ls _ _ (hn.below (by (repeat' (first | (with_reducible exact Below.refl _ _) | (with_reducible assumption) | (with_reducible refine Below.drew ?_) | (with_reducible refine below_drewN ?_ _) | (with_reducible refine Below.alloc ?_ ?_ _) | (with_reducible refine Below.setCell ?_ ?_ _) | (with_reducible refine Below.step (by assumption) ?_ ?_))); all_goals (first | omega | (simp; done) | (simp; omega)))) (hl.below (by (repeat' (first | (with_reducible exact Below.refl _ _) | (with_reducible assumption) | (with_reducible refine Below.drew ?_) | (with_reducible refine below_drewN ?_ _) | (with_reducible refine Below.alloc ?_ ?_ _) | (with_reducible refine Below.setCell ?_ ?_ _) | (with_reducible refine Below.step (by assumption) ?_ ?_))); all_goals (first | omega | (simp; done) | (simp; omega)))) hw).mono ?_
    rintro e w1 ⟨rfl, hb1⟩; (first | (with_reducible have hcf1 := bcell_drew hb1) | have hcf1 := bcell hb1); obtain ⟨hc1, hf1⟩ := hcf1; have hz1 := hb1.size; (try simp at hz1); (try have hp1_0 : w.heap.size < w1.heap.size := by omega); (try have hp1_1 : w.heap.size + 1 < w1.heap.size := by omega); (try have hp1_2 : w.heap.size + 1 + 1 < w1.heap.size := by omega); (try have hp1_3 : w.heap.size + 1 + 1 + 1 < w1.heap.size := by omega)
    go_wp2
    go_ret
    exact ⟨ret_int HR.out.symm, by (repeat' (first | (with_reducible exact Below.refl _ _) | (with_reducible assumption) | (with_reducible refine Below.drew ?_) | (with_reducible refine below_drewN ?_ _) | (with_reducible refine Below.alloc ?_ ?_ _) | (with_reducible refine Below.setCell ?_ ?_ _) | (with_reducible refine Below.step (by assumption) ?_ ?_))); all_goals (first | omega | (simp; done) | (simp; omega))⟩
  · have HR : Hid (jointsI ns ls = (jointsN ls ns.length : Int)) := Lib.hid (by simp [jointsI, hw])
    have hn12 := (winB_true.1 hw).2.1
    obtain ⟨An, cn, rfl, hcn, hmn, _⟩ := hn.formI
    unfold maxLen at hmn
    go_enter Try.func25, Try.ntmps25
    go_wp2_with fail
    refine (iWinOk_at _ _ ns ls _ _ (hn.below (by (repeat' (first | (with_reducible exact Below.refl _ _) | (with_reducible assumption) | (with_reducible refine Below.drew ?_) | (with_reducible refine below_drewN ?_ _) | (with_reducible refine Below.alloc ?_ ?_ _) | (with_reducible refine Below.setCell ?_ ?_ _) | (with_reducible refine Below.step (by assumption) ?_ ?_))); all_goals (first | omega | (simp; done) | (simp; omega)))) (hl.below (by (repeat' (first | (with_reducible exact Below.refl _ _) | (with_reducible assumption) | (with_reducible refine Below.drew ?_) | (with_reducible refine below_drewN ?_ _) | (with_reducible refine Below.alloc ?_ ?_ _) | (with_reducible refine Below.setCell ?_ ?_ _) | (with_reducible refine Below.step (by assumption) ?_ ?_))); all_goals (first | omega | (simp; done) | (simp; omega)))) hw).mono ?_
    rintro e w1 ⟨rfl, hb1⟩; (first | (with_reducible have hcf1 := bcell_drew hb1) | have hcf1 := bcell hb1); obtain ⟨hc1, hf1⟩ := hcf1; have hz1 := hb1.size; (try simp at hz1); (try have hp1_0 : w.heap.size < w1.heap.size := by omega); (try have hp1_1 : w.heap.size + 1 < w1.heap.size := by omega); (try have hp1_2 : w.heap.size + 1 + 1 < w1.heap.size := by omega); (try have hp1_3 : w.heap.size + 1 + 1 + 1 < w1.heap.size := by omega)
    have hW1 : Blk w1 w.heap.size 27 #[.slice An ns.length cn, vl] := Blk.below (Blk.newAt rfl) hb1 (by first | omega | (simp; done) | (simp; omega))
    have hbw1 : Below w.heap.size w w1 := by (repeat' (first | (with_reducible exact Below.refl _ _) | (with_reducible assumption) | (with_reducible refine Below.drew ?_) | (with_reducible refine below_drewN ?_ _) | (with_reducible refine Below.alloc ?_ ?_ _) | (with_reducible refine Below.setCell ?_ ?_ _) | (with_reducible refine Below.step (by assumption) ?_ ?_))); all_goals (first | omega | (simp; done) | (simp; omega))
    clear hb1 hc1 hf1
    (have a_0 := hW1.cell 0); (have a_1 := hW1.cell 1); simp only [List.getElem?_toArray, List.getElem?_cons_succ, List.getElem?_cons_zero] at a_0 a_1
    go_wp2
    go_loopw [3, 11] (fun x i wr => ∃ k : Nat, k ≤ ns.length ∧ i = .int .i64 k ∧ x = .int .i64 (jointsN ls k) ∧ Blk wr w.heap.size 27 #[.slice An ns.length cn, vl] ∧ Below w.heap.size w wr) (fun _ i _ => ns.length - (intOf i).toNat)
    case atStart => exact ⟨0, Nat.zero_le _, rfl, rfl, hW1, hbw1⟩
    case round =>
      obtain ⟨k, hk, rfl, rfl, hW, hbl⟩ := hrel
      clear hW1 hbw1 a_0 a_1
      have hsz := hW.lt
      have hjl := jointsN_le ls k
      (have a_0 := hW.cell 0); (have a_1 := hW.cell 1); simp only [List.getElem?_toArray, List.getElem?_cons_succ, List.getElem?_cons_zero] at a_0 a_1
      by_cases hlt : k < ns.length
      · have hdeg : degI ns ls k = ((atN ls k ls.length).length : Int) := by
          unfold degI hasN
          rw [hw, inB_true.2 (show 0 ≤ (k : Int) ∧ (k : Int) ≤ (ns.length : Int) - 1 by omega)]
          rfl
        by_cases h2 : 2 ≤ (atN ls k ls.length).length
        · have HS : Hid (jointsN ls (k + 1) = jointsN ls k + 1) := Lib.hid (by simp [jointsN, h2])
          have HD : Hid (degI ns ls k = ((atN ls k ls.length).length : Int)) := Lib.hid hdeg
          have h3 : (2 : Int) ≤ ((atN ls k ls.length).length : Int) := by omega
          generalize (atN ls k ls.length).length = D at *
          generalize jointsN ls k = J at *
          clear hdeg
          go_wp2_with fail
          refine (iDegree_any _ _ ns ls _ _ (hn.below hbl) (hl.below hbl)).mono ?_
          rw [HD.out]
          rintro e w2 ⟨rfl, hb2⟩; (first | (with_reducible have hcf2 := bcell_drew hb2) | have hcf2 := bcell hb2); obtain ⟨hc2, hf2⟩ := hcf2; have hz2 := hb2.size; (try simp at hz2); (try have hp2_0 : w.heap.size < w2.heap.size := by omega); (try have hp2_1 : w.heap.size + 1 < w2.heap.size := by omega); (try have hp2_2 : w.heap.size + 1 + 1 < w2.heap.size := by omega); (try have hp2_3 : w.heap.size + 1 + 1 + 1 < w2.heap.size := by omega)
          have hW2 := hW.below hb2 hsz
          have hbw2 : Below w.heap.size w w2 := by (repeat' (first | (with_reducible exact Below.refl _ _) | (with_reducible assumption) | (with_reducible refine Below.drew ?_) | (with_reducible refine below_drewN ?_ _) | (with_reducible refine Below.alloc ?_ ?_ _) | (with_reducible refine Below.setCell ?_ ?_ _) | (with_reducible refine Below.step (by assumption) ?_ ?_))); all_goals (first | omega | (simp; done) | (simp; omega))
          clear hb2 hc2 hf2 hz2 hW hbl a_0 a_1
          go_wp2
          go_roundw
          case rel => exact ⟨k + 1, by omega, by go_num, by rw [HS.out]; go_num, hW2, hbw2⟩
          case measure => simp [intOf]; omega
        · have HS : Hid (jointsN ls (k + 1) = jointsN ls k) := Lib.hid (by simp [jointsN, h2])
          have HD : Hid (degI ns ls k = ((atN ls k ls.length).length : Int)) := Lib.hid hdeg
          have h3 : ¬ (2 : Int) ≤ ((atN ls k ls.length).length : Int) := by omega
          generalize (atN ls k ls.length).length = D at *
          generalize jointsN ls k = J at *
          clear hdeg
          go_wp2_with fail
          refine (iDegree_any _ _ ns ls _ _ (hn.below hbl) (hl.below hbl)).mono ?_
          rw [HD.out]
          rintro e w2 ⟨rfl, hb2⟩; (first | (with_reducible have hcf2 := bcell_drew hb2) | have hcf2 := bcell hb2); obtain ⟨hc2, hf2⟩ := hcf2; have hz2 := hb2.size; (try simp at hz2); (try have hp2_0 : w.heap.size < w2.heap.size := by omega); (try have hp2_1 : w.heap.size + 1 < w2.heap.size := by omega); (try have hp2_2 : w.heap.size + 1 + 1 < w2.heap.size := by omega); (try have hp2_3 : w.heap.size + 1 + 1 + 1 < w2.heap.size := by omega)
          have hW2 := hW.below hb2 hsz
          have hbw2 : Below w.heap.size w w2 := by (repeat' (first | (with_reducible exact Below.refl _ _) | (with_reducible assumption) | (with_reducible refine Below.drew ?_) | (with_reducible refine below_drewN ?_ _) | (with_reducible refine Below.alloc ?_ ?_ _) | (with_reducible refine Below.setCell ?_ ?_ _) | (with_reducible refine Below.step (by assumption) ?_ ?_))); all_goals (first | omega | (simp; done) | (simp; omega))
          clear hb2 hc2 hf2 hz2 hW hbl a_0 a_1
          go_wp2
          go_roundw
          case rel => exact ⟨k + 1, by omega, by go_num, by rw [HS.out], hW2, hbw2⟩
          case measure => simp [intOf]; omega
      · have hkk : k = ns.length := by omega
        subst hkk
        go_wp2
        go_ret
        exact ⟨ret_int HR.out.symm, hbl⟩

set_option maxHeartbeats 4000000 in
set_option maxRecDepth 100000 in
theorem sJoints_any (vn vl : Value) (ns ls : List Pr) (w : World) (hn : RP w vn ns) (hl : RP w vl ls) :
    Calls Try.prog 23 #[.agg #[vn, vl]] w fun e w' => e = .returned (.int .i64 (jointsI ns ls)) ∧ Below w.heap.size w w' := by
  cases hw : winB ns ls
  · have HR : Hid (jointsI ns ls = -1) := Lib.hid (by simp [jointsI, hw])
    go_enter Try.func23, Try.ntmps23
    go_wp2_with fail
    refine (sWinOk_at _ _ ns ls _ _ (hn.below (by (repeat' (first | (with_reducible exact Below.refl _ _) | (with_reducible assumption) | (with_reducible refine Below.drew ?_) | (with_reducible refine below_drewN ?_ _) | (with_reducible refine Below.alloc ?_ ?_ _) | (with_reducible refine Below.setCell ?_ ?_ _) | (with_reducible refine Below.step (by assumption) ?_ ?_))); all_goals (first | omega | (simp; done) | (simp; omega)))) (hl.below (by (repeat' (first | (with_reducible exact Below.refl _ _) | (with_reducible assumption) | (with_reducible refine Below.drew ?_) | (with_reducible refine below_drewN ?_ _) | (with_reducible refine Below.alloc ?_ ?_ _) | (with_reducible refine Below.setCell ?_ ?_ _) | (with_reducible refine Below.step (by assumption) ?_ ?_))); all_goals (first | omega | (simp; done) | (simp; omega)))) hw).mono ?_
    rintro e w1 ⟨rfl, hb1⟩; (first | (with_reducible have hcf1 := bcell_drew hb1) | have hcf1 := bcell hb1); obtain ⟨hc1, hf1⟩ := hcf1; have hz1 := hb1.size; (try simp at hz1); (try have hp1_0 : w.heap.size < w1.heap.size := by omega); (try have hp1_1 : w.heap.size + 1 < w1.heap.size := by omega); (try have hp1_2 : w.heap.size + 1 + 1 < w1.heap.size := by omega); (try have hp1_3 : w.heap.size + 1 + 1 + 1 < w1.heap.size := by omega)
    go_wp2
    go_ret
    exact ⟨ret_int HR.out.symm, by (repeat' (first | (with_reducible exact Below.refl _ _) | (with_reducible assumption) | (with_reducible refine Below.drew ?_) | (with_reducible refine below_drewN ?_ _) | (with_reducible refine Below.alloc ?_ ?_ _) | (with_reducible refine Below.setCell ?_ ?_ _) | (with_reducible refine Below.step (by assumption) ?_ ?_))); all_goals (first | omega | (simp; done) | (simp; omega))⟩
  · have HR : Hid (jointsI ns ls = (jointsN ls ns.length : Int)) := Lib.hid (by simp [jointsI, hw])
    have hwin := winB_true.1 hw
    have hn12 := hwin.2.1
    have hm20 := hwin.2.2.1
    have HLD : Hid (∀ j : Nat, j < ls.length → leadB ns (ndI ls j) = true) := Lib.hid (fun j hj => (hwin.2.2.2.2.2 j hj).1)
    clear hwin
    obtain ⟨An, cn, rfl, hcn, hmn, _⟩ := hn.formI
    unfold maxLen at hmn
    go_enter Try.func23, Try.ntmps23
    go_wp2_with fail
    refine (sWinOk_at _ _ ns ls _ _ (hn.below (by (repeat' (first | (with_reducible exact Below.refl _ _) | (with_reducible assumption) | (with_reducible refine Below.drew ?_) | (with_reducible refine below_drewN ?_ _) | (with_reducible refine Below.alloc ?_ ?_ _) | (with_reducible refine Below.setCell ?_ ?_ _) | (with_reducible refine Below.step (by assumption) ?_ ?_))); all_goals (first | omega | (simp; done) | (simp; omega)))) (hl.below (by (repeat' (first | (with_reducible exact Below.refl _ _) | (with_reducible assumption) | (with_reducible refine Below.drew ?_) | (with_reducible refine below_drewN ?_ _) | (with_reducible refine Below.alloc ?_ ?_ _) | (with_reducible refine Below.setCell ?_ ?_ _) | (with_reducible refine Below.step (by assumption) ?_ ?_))); all_goals (first | omega | (simp; done) | (simp; omega)))) hw).mono ?_
    rintro e w1 ⟨rfl, hb1⟩; (first | (with_reducible have hcf1 := bcell_drew hb1) | have hcf1 := bcell hb1); obtain ⟨hc1, hf1⟩ := hcf1; have hz1 := hb1.size; (try simp at hz1); (try have hp1_0 : w.heap.size < w1.heap.size := by omega); (try have hp1_1 : w.heap.size + 1 < w1.heap.size := by omega); (try have hp1_2 : w.heap.size + 1 + 1 < w1.heap.size := by omega); (try have hp1_3 : w.heap.size + 1 + 1 + 1 < w1.heap.size := by omega)
    have hW1 : Blk w1 w.heap.size 27 #[.slice An ns.length cn, vl] := Blk.below (Blk.newAt rfl) hb1 (by first | omega | (simp; done) | (simp; omega))
    have hbw1 : Below w.heap.size w w1 := by (repeat' (first | (with_reducible exact Below.refl _ _) | (with_reducible assumption) | (with_reducible refine Below.drew ?_) | (with_reducible refine below_drewN ?_ _) | (with_reducible refine Below.alloc ?_ ?_ _) | (with_reducible refine Below.setCell ?_ ?_ _) | (with_reducible refine Below.step (by assumption) ?_ ?_))); all_goals (first | omega | (simp; done) | (simp; omega))
    clear hb1 hc1 hf1
    (have a_0 := hW1.cell 0); (have a_1 := hW1.cell 1); simp only [List.getElem?_toArray, List.getElem?_cons_succ, List.getElem?_cons_zero] at a_0 a_1
    go_wp2
    go_loopw [3, 4] (fun x i wr => ∃ k : Nat, k ≤ ns.length ∧ i = .int .i64 k ∧ x = .int .i64 (jointsN ls k) ∧ Blk wr w.heap.size 27 #[.slice An ns.length cn, vl] ∧ Below w.heap.size w wr) (fun _ i _ => ns.length - (intOf i).toNat)
    case atStart => exact ⟨0, Nat.zero_le _, rfl, rfl, hW1, hbw1⟩
    case round =>
      obtain ⟨k, hk, rfl, rfl, hW, hbl⟩ := hrel
      clear hW1 hbw1 a_0 a_1
      have hsz := hW.lt
      have hjl := jointsN_le ls k
      (have a_0 := hW.cell 0); (have a_1 := hW.cell 1); simp only [List.getElem?_toArray, List.getElem?_cons_succ, List.getElem?_cons_zero] at a_0 a_1
      by_cases hlt : k < ns.length
      · have hdl : (natI (ardS ns ls k (2 * ls.length))).length = (atN ls k ls.length).length := by rw [natI_length, ard_at HLD.out k ls.length (Nat.le_refl _)]
        by_cases h2 : 2 ≤ (atN ls k ls.length).length
        · have HS : Hid (jointsN ls (k + 1) = jointsN ls k + 1) := Lib.hid (by simp [jointsN, h2])
          have h3 : (2 : Int) ≤ ((natI (ardS ns ls k (2 * ls.length))).length : Int) := by omega
          generalize jointsN ls k = J at *
          clear hdl h2
          go_wp2_with fail
          refine (sAround_any _ _ ns ls k _ (hn.below hbl) (hl.below hbl) hlt hm20 hn12 HLD.out).mono ?_
          rintro e w2 ⟨v2, rfl, ho2, hb2⟩
          obtain ⟨A2, c2, rfl⟩ := ho2.form
          have hW2 := hW.below hb2 hsz
          have hbw2 : Below w.heap.size w w2 := by (repeat' (first | (with_reducible exact Below.refl _ _) | (with_reducible assumption) | (with_reducible refine Below.drew ?_) | (with_reducible refine below_drewN ?_ _) | (with_reducible refine Below.alloc ?_ ?_ _) | (with_reducible refine Below.setCell ?_ ?_ _) | (with_reducible refine Below.step (by assumption) ?_ ?_))); all_goals (first | omega | (simp; done) | (simp; omega))
          clear hb2 hW hbl a_0 a_1
          go_wp2
          go_roundw
          case rel => exact ⟨k + 1, by omega, by go_num, by rw [HS.out]; go_num, hW2, hbw2⟩
          case measure => simp [intOf]; omega
        · have HS : Hid (jointsN ls (k + 1) = jointsN ls k) := Lib.hid (by simp [jointsN, h2])
          have h3 : ¬ (2 : Int) ≤ ((natI (ardS ns ls k (2 * ls.length))).length : Int) := by omega
          generalize jointsN ls k = J at *
          clear hdl h2
          go_wp2_with fail
          refine (sAround_any _ _ ns ls k _ (hn.below hbl) (hl.below hbl) hlt hm20 hn12 HLD.out).mono ?_
          rintro e w2 ⟨v2, rfl, ho2, hb2⟩
          obtain ⟨A2, c2, rfl⟩ := ho2.form
          have hW2 := hW.below hb2 hsz
          have hbw2 : Below w.heap.size w w2 := by (repeat' (first | (with_reducible exact Below.refl _ _) | (with_reducible assumption) | (with_reducible refine Below.drew ?_) | (with_reducible refine below_drewN ?_ _) | (with_reducible refine Below.alloc ?_ ?_ _) | (with_reducible refine Below.setCell ?_ ?_ _) | (with_reducible refine Below.step (by assumption) ?_ ?_))); all_goals (first | omega | (simp; done) | (simp; omega))
          clear hb2 hW hbl a_0 a_1
          go_wp2
          go_roundw
          case rel => exact ⟨k + 1, by omega, by go_num, by rw [HS.out], hW2, hbw2⟩
          case measure => simp [intOf]; omega
      · have hkk : k = ns.length := by omega
        subst hkk
        go_wp2
        go_ret
        exact ⟨ret_int HR.out.symm, hbl⟩

theorem iJoints_at (vn vl : Value) (ns ls : List Pr) (x : Int) (w : World) (hn : RP w vn ns) (hl : RP w vl ls) (hx : Hid (jointsI ns ls = x)) :
    Calls Try.prog 25 #[.agg #[vn, vl]] w fun e w' => e = .returned (.int .i64 x) ∧ Below w.heap.size w w' := by
  rw [← hx.out]; exact iJoints_any vn vl ns ls w hn hl
theorem sJoints_at (vn vl : Value) (ns ls : List Pr) (x : Int) (w : World) (hn : RP w vn ns) (hl : RP w vl ls) (hx : Hid (jointsI ns ls = x)) :
    Calls Try.prog 23 #[.agg #[vn, vl]] w fun e w' => e = .returned (.int .i64 x) ∧ Below w.heap.size w w' := by
  rw [← hx.out]; exact sJoints_any vn vl ns ls w hn hl

set_option maxHeartbeats 4000000 in
set_option maxRecDepth 100000 in
theorem jointsLaw_any (vn vl : Value) (ns ls : List Pr) (w : World) (hn : RP w vn ns) (hl : RP w vl ls) :
    Calls Try.prog 4 #[.agg #[vn, vl]] w fun e w' => e = .returned (.bool true) ∧ Below w.heap.size w w' := by
  obtain ⟨x, hx⟩ : ∃ x, szW 1048576 ns.length ls.length = x := ⟨_, rfl⟩
  have HX := Lib.hid hx
  by_cases hx0 : x < 0
  · clear hx
    go_enter Try.func4, Try.ntmps4
    go_wp2_with fail
    refine (szWindow_at _ _ ns ls _ x _ (hn.below (by (repeat (first | exact Below.refl _ _ | assumption | refine Below.drew ?_ | refine below_drewN ?_ _ | refine Below.alloc ?_ (by first | omega | (simp; done) | (simp; omega)) _ | refine Below.setCell ?_ (by first | omega | (simp; done) | (simp; omega)) _ | refine Below.step (by assumption) ?_ (by first | omega | (simp; done) | (simp; omega)) | refine Below.mark (by assumption) (by assumption) ?_ (by first | omega | (simp; done) | (simp; omega)) (by first | omega | (simp; done) | (simp; omega)))))) (hl.below (by (repeat (first | exact Below.refl _ _ | assumption | refine Below.drew ?_ | refine below_drewN ?_ _ | refine Below.alloc ?_ (by first | omega | (simp; done) | (simp; omega)) _ | refine Below.setCell ?_ (by first | omega | (simp; done) | (simp; omega)) _ | refine Below.step (by assumption) ?_ (by first | omega | (simp; done) | (simp; omega)) | refine Below.mark (by assumption) (by assumption) ?_ (by first | omega | (simp; done) | (simp; omega)) (by first | omega | (simp; done) | (simp; omega)))))) (by omega) (by omega) HX).mono ?_
    rintro e w1 ⟨rfl, hb1⟩; (first | (with_reducible have hcf1 := bcell_drew hb1) | have hcf1 := bcell hb1); obtain ⟨hc1, hf1⟩ := hcf1; have hz1 := hb1.size; (try simp at hz1); (try have hp1_0 : w.heap.size < w1.heap.size := by omega); (try have hp1_1 : w.heap.size + 1 < w1.heap.size := by omega); (try have hp1_2 : w.heap.size + 1 + 1 < w1.heap.size := by omega); (try have hp1_3 : w.heap.size + 1 + 1 + 1 < w1.heap.size := by omega)
    go_wp2
    go_ret
    exact ⟨rfl, by (repeat' (first | (with_reducible exact Below.refl _ _) | (with_reducible assumption) | (with_reducible refine Below.drew ?_) | (with_reducible refine below_drewN ?_ _) | (with_reducible refine Below.alloc ?_ ?_ _) | (with_reducible refine Below.setCell ?_ ?_ _) | (with_reducible refine Below.step (by assumption) ?_ ?_))); all_goals (first | omega | (simp; done) | (simp; omega))⟩
  · obtain ⟨s1, s2, s3, s4⟩ := szW_le (by rw [hx]; exact hx0)
    clear s3 s4 hx
    obtain ⟨J, hJ⟩ : ∃ J, jointsI ns ls = J := ⟨_, rfl⟩
    have HJ := Lib.hid hJ
    clear hJ
    go_enter Try.func4, Try.ntmps4
    go_wp2_with fail
    refine (szWindow_at _ _ ns ls _ x _ (hn.below (by (repeat (first | exact Below.refl _ _ | assumption | refine Below.drew ?_ | refine below_drewN ?_ _ | refine Below.alloc ?_ (by first | omega | (simp; done) | (simp; omega)) _ | refine Below.setCell ?_ (by first | omega | (simp; done) | (simp; omega)) _ | refine Below.step (by assumption) ?_ (by first | omega | (simp; done) | (simp; omega)) | refine Below.mark (by assumption) (by assumption) ?_ (by first | omega | (simp; done) | (simp; omega)) (by first | omega | (simp; done) | (simp; omega)))))) (hl.below (by (repeat (first | exact Below.refl _ _ | assumption | refine Below.drew ?_ | refine below_drewN ?_ _ | refine Below.alloc ?_ (by first | omega | (simp; done) | (simp; omega)) _ | refine Below.setCell ?_ (by first | omega | (simp; done) | (simp; omega)) _ | refine Below.step (by assumption) ?_ (by first | omega | (simp; done) | (simp; omega)) | refine Below.mark (by assumption) (by assumption) ?_ (by first | omega | (simp; done) | (simp; omega)) (by first | omega | (simp; done) | (simp; omega)))))) (by omega) (by omega) HX).mono ?_
    rintro e w1 ⟨rfl, hb1⟩; (first | (with_reducible have hcf1 := bcell_drew hb1) | have hcf1 := bcell hb1); obtain ⟨hc1, hf1⟩ := hcf1; have hz1 := hb1.size; (try simp at hz1); (try have hp1_0 : w.heap.size < w1.heap.size := by omega); (try have hp1_1 : w.heap.size + 1 < w1.heap.size := by omega); (try have hp1_2 : w.heap.size + 1 + 1 < w1.heap.size := by omega); (try have hp1_3 : w.heap.size + 1 + 1 + 1 < w1.heap.size := by omega)
    have hbw1 : Below w.heap.size w w1 := by (repeat' (first | (with_reducible exact Below.refl _ _) | (with_reducible assumption) | (with_reducible refine Below.drew ?_) | (with_reducible refine below_drewN ?_ _) | (with_reducible refine Below.alloc ?_ ?_ _) | (with_reducible refine Below.setCell ?_ ?_ _) | (with_reducible refine Below.step (by assumption) ?_ ?_))); all_goals (first | omega | (simp; done) | (simp; omega))
    have hV1 : Blk w1 w.heap.size 45 #[vn, vl] := Blk.below (Blk.newAt rfl) hb1 (by first | omega | (simp; done) | (simp; omega))
    clear hb1 hc1 hf1 HX
    (have a_0 := hV1.cell 0); (have a_1 := hV1.cell 1); simp only [List.getElem?_toArray, List.getElem?_cons_succ, List.getElem?_cons_zero] at a_0 a_1
    go_wp2_with fail
    refine (toWindow_any vn vl ns ls _ (hn.below hbw1) (hl.below hbw1) s1 s2).mono ?_
    rintro e w2 ⟨An2, cn2, Al2, cl2, rfl, ho2, hb2⟩
    have hz2 := hb2.size
    have hV2 := hV1.below hb2 hV1.lt
    have hbw2 : Below w.heap.size w w2 := by (repeat' (first | (with_reducible exact Below.refl _ _) | (with_reducible assumption) | (with_reducible refine Below.drew ?_) | (with_reducible refine below_drewN ?_ _) | (with_reducible refine Below.alloc ?_ ?_ _) | (with_reducible refine Below.setCell ?_ ?_ _) | (with_reducible refine Below.step (by assumption) ?_ ?_))); all_goals (first | omega | (simp; done) | (simp; omega))
    clear hb2 hV1 hbw1 a_0 a_1
    go_wp2_with fail
    refine (sJoints_at _ _ ns ls J _ ho2.1.reads ho2.2.1.reads HJ).mono ?_
    rintro e w3 ⟨rfl, hb3⟩; (first | (with_reducible have hcf3 := bcell_drew hb3) | have hcf3 := bcell hb3); obtain ⟨hc3, hf3⟩ := hcf3; have hz3 := hb3.size; (try simp at hz3); (try have hp3_0 : w.heap.size < w3.heap.size := by omega); (try have hp3_1 : w.heap.size + 1 < w3.heap.size := by omega); (try have hp3_2 : w.heap.size + 1 + 1 < w3.heap.size := by omega); (try have hp3_3 : w.heap.size + 1 + 1 + 1 < w3.heap.size := by omega)
    have hV3 := hV2.below hb3 hV2.lt
    have hbw3 : Below w.heap.size w w3 := by (repeat' (first | (with_reducible exact Below.refl _ _) | (with_reducible assumption) | (with_reducible refine Below.drew ?_) | (with_reducible refine below_drewN ?_ _) | (with_reducible refine Below.alloc ?_ ?_ _) | (with_reducible refine Below.setCell ?_ ?_ _) | (with_reducible refine Below.step (by assumption) ?_ ?_))); all_goals (first | omega | (simp; done) | (simp; omega))
    clear hb3 hc3 hf3 hV2 hbw2 ho2
    (have a_0 := hV3.cell 0); (have a_1 := hV3.cell 1); simp only [List.getElem?_toArray, List.getElem?_cons_succ, List.getElem?_cons_zero] at a_0 a_1
    go_wp2_with fail
    refine (toWindow_any vn vl ns ls _ (hn.below hbw3) (hl.below hbw3) s1 s2).mono ?_
    rintro e w4 ⟨An4, cn4, Al4, cl4, rfl, ho4, hb4⟩
    have hz4 := hb4.size
    have hV4 := hV3.below hb4 hV3.lt
    have hbw4 : Below w.heap.size w w4 := by (repeat' (first | (with_reducible exact Below.refl _ _) | (with_reducible assumption) | (with_reducible refine Below.drew ?_) | (with_reducible refine below_drewN ?_ _) | (with_reducible refine Below.alloc ?_ ?_ _) | (with_reducible refine Below.setCell ?_ ?_ _) | (with_reducible refine Below.step (by assumption) ?_ ?_))); all_goals (first | omega | (simp; done) | (simp; omega))
    clear hb4 hV3 hbw3 a_0 a_1
    have hbX : Below w4.heap.size w4 (w4.alloc (.cells #[.slice An4 ns.length cn4, .slice Al4 ls.length cl4] 27)) := by (repeat' (first | (with_reducible exact Below.refl _ _) | (with_reducible assumption) | (with_reducible refine Below.drew ?_) | (with_reducible refine below_drewN ?_ _) | (with_reducible refine Below.alloc ?_ ?_ _) | (with_reducible refine Below.setCell ?_ ?_ _) | (with_reducible refine Below.step (by assumption) ?_ ?_))); all_goals (first | omega | (simp; done) | (simp; omega))
    go_wp2_with fail
    refine (iJoints_at _ _ ns ls J _ (ho4.1.reads.below hbX) (ho4.2.1.reads.below hbX) HJ).mono ?_
    rintro e w5 ⟨rfl, hb5⟩; (first | (with_reducible have hcf5 := bcell_drew hb5) | have hcf5 := bcell hb5); obtain ⟨hc5, hf5⟩ := hcf5; have hz5 := hb5.size; (try simp at hz5); (try have hp5_0 : w.heap.size < w5.heap.size := by omega); (try have hp5_1 : w.heap.size + 1 < w5.heap.size := by omega); (try have hp5_2 : w.heap.size + 1 + 1 < w5.heap.size := by omega); (try have hp5_3 : w.heap.size + 1 + 1 + 1 < w5.heap.size := by omega)
    have hX5 : Blk w5 w4.heap.size 27 #[.slice An4 ns.length cn4, .slice Al4 ls.length cl4] := Blk.below (Blk.newAt rfl) hb5 (by first | omega | (simp; done) | (simp; omega))
    have hV5 := (hV4.alloc _).below hb5 (by first | omega | (simp; done) | (simp; omega))
    have hb45 : Below w4.heap.size w4 w5 := hbX.trans (hb5.mono hbX.size)
    have r5n := ho4.1.reads.below hb45
    have r5l := ho4.2.1.reads.below hb45
    have hbw5 : Below w.heap.size w w5 := hbw4.trans (hb45.mono hbw4.size)
    have n1 : w.heap.size < w5.heap.size := hV5.lt
    have n2 : w4.heap.size < w5.heap.size := hX5.lt
    clear hb5 hc5 hf5 hb45 hbX hV4 hbw4 ho4
    (have a_0 := hV5.cell 0); (have a_1 := hV5.cell 1); simp only [List.getElem?_toArray, List.getElem?_cons_succ, List.getElem?_cons_zero] at a_0 a_1
    (have x_0 := hX5.cell 0); (have x_1 := hX5.cell 1); simp only [List.getElem?_toArray, List.getElem?_cons_succ, List.getElem?_cons_zero] at x_0 x_1
    go_wp2_with fail
    generalize w4.heap.size = B4 at *
    go_region_held3 (fun w' => w'.cell? ⟨w.heap.size, 0, none⟩ = some vn ∧ w'.cell? ⟨w.heap.size, 1, none⟩ = some vl ∧ w'.cell? ⟨B4, 0, none⟩ = some (.slice An4 ns.length cn4) ∧ w'.cell? ⟨B4, 1, none⟩ = some (.slice Al4 ls.length cl4))
      (go_keep)
      (first | (go_at_call 24; refine Calls.mono (toWindow_any vn vl ns ls _ (hn.below ?c1) (hl.below ?c1) s1 s2) ?_; (case c1 => (repeat' (first | (with_reducible exact Below.refl _ _) | (with_reducible assumption) | (with_reducible refine Below.drew ?_) | (with_reducible refine below_drewN ?_ _) | (with_reducible refine Below.alloc ?_ ?_ _) | (with_reducible refine Below.setCell ?_ ?_ _) | (with_reducible refine Below.step (by assumption) ?_ ?_))); all_goals (first | omega | (simp; done) | (simp; omega))); rintro e w6 ⟨An6, cn6, Al6, cl6, rfl, ho6, hb6⟩; (first | (with_reducible have hcf6 := bcell_drew hb6) | have hcf6 := bcell hb6); obtain ⟨hc6, hf6⟩ := hcf6; have hz6 := hb6.size; (try simp at hz6); (try have hp6_0 : w.heap.size < w6.heap.size := by omega); (try have hp6_1 : w.heap.size + 1 < w6.heap.size := by omega); (try have hp6_2 : w.heap.size + 1 + 1 < w6.heap.size := by omega); (try have hp6_3 : w.heap.size + 1 + 1 + 1 < w6.heap.size := by omega); (have mm6 : B4 < w6.heap.size := by omega)) | (go_at_call 26; refine (eqWindow_any _ _ _ _ ns ls _ (r5n.below ?c2) (r5l.below ?c2) (ho6.1.reads) (ho6.2.1.reads)).mono ?_; (case c2 => (repeat' (first | (with_reducible exact Below.refl _ _) | (with_reducible assumption) | (with_reducible refine Below.drew ?_) | (with_reducible refine below_drewN ?_ _) | (with_reducible refine Below.alloc ?_ ?_ _) | (with_reducible refine Below.setCell ?_ ?_ _) | (with_reducible refine Below.step (by assumption) ?_ ?_))); all_goals (first | omega | (simp; done) | (simp; omega))); rintro e w7 ⟨rfl, hb7⟩; (first | (with_reducible have hcf7 := bcell_drew hb7) | have hcf7 := bcell hb7); obtain ⟨hc7, hf7⟩ := hcf7; have hz7 := hb7.size; (try simp at hz7); (try have hp7_0 : w.heap.size < w7.heap.size := by omega); (try have hp7_1 : w.heap.size + 1 < w7.heap.size := by omega); (try have hp7_2 : w.heap.size + 1 + 1 < w7.heap.size := by omega); (try have hp7_3 : w.heap.size + 1 + 1 + 1 < w7.heap.size := by omega)))
    go_wp2
    go_ret
    exact ⟨rfl, by (repeat' (first | (with_reducible exact Below.refl _ _) | (with_reducible assumption) | (with_reducible refine Below.drew ?_) | (with_reducible refine below_drewN ?_ _) | (with_reducible refine Below.alloc ?_ ?_ _) | (with_reducible refine Below.setCell ?_ ?_ _) | (with_reducible refine Below.step (by assumption) ?_ ?_))); all_goals (first | omega | (simp; done) | (simp; omega))⟩

end Go.Proofs.Ytnpdincjekelaaa
