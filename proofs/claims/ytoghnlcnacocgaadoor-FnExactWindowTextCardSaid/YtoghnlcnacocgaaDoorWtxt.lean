/-
  A window's text: the plain words, and the reference's side.
-/
import Derived.Test.YtoghnlcnacocgaaDoorNtxt
import Derived.Test.YtoghnlcnacocgaaDoorWok
import Derived.Test.YtoghnlcnacocgaaDoorWokS
import Derived.Test.YtoghnlcnacocgaaDoorWin
set_option linter.unusedSimpArgs false
set_option linter.unusedVariables false
namespace Go.Proofs.YtoghnlcnacocgaaDoor
open Go.RowKit

theorem nodeS_size (x y : Int) : (nodeS x y).size ≤ 5 := by
  unfold nodeS
  split
  · rename_i h
    unfold nodeB at h
    rw [Bool.and_eq_true, inB_true, inB_true] at h
    have h1 := dS_size x (by omega)
    have h2 := dS_size y (by omega)
    have h3 : (⟨#[44]⟩ : ByteArray).size = 1 := rfl
    rw [ByteArray.size_append, ByteArray.size_append]
    omega
  · exact Nat.zero_le _

/-- The text of the first j nodes. -/
def nT (ns : List Pr) : Nat → ByteArray
  | 0 => ⟨#[]⟩
  | j + 1 => nT ns j ++ nodeS (ndI ns j).1 (ndI ns j).2 ++ ⟨#[32]⟩
/-- With the first j leads. -/
def lT (ns ls : List Pr) : Nat → ByteArray
  | 0 => nT ns ns.length ++ ⟨#[124]⟩
  | j + 1 => lT ns ls j ++ ⟨#[32]⟩ ++ dS (ndI ls j).1 ++ ⟨#[45]⟩ ++ dS (ndI ls j).2
noncomputable def windowS (ns ls : List Pr) : ByteArray := if winB ns ls then lT ns ls ls.length else ⟨#[]⟩

theorem nT_size (ns : List Pr) : ∀ j, (nT ns j).size ≤ 6 * j
  | 0 => Nat.zero_le _
  | j + 1 => by
    have h1 := nT_size ns j
    have h2 := nodeS_size (ndI ns j).1 (ndI ns j).2
    have h3 : (⟨#[32]⟩ : ByteArray).size = 1 := rfl
    unfold nT
    rw [ByteArray.size_append, ByteArray.size_append]
    omega

theorem lT_size (ns ls : List Pr) (hb : ∀ j : Nat, j < ls.length → (ndI ls j).1 < 100 ∧ (ndI ls j).2 < 100) : ∀ j, j ≤ ls.length → (lT ns ls j).size ≤ 6 * ns.length + 1 + 6 * j
  | 0, _ => by
    have h1 := nT_size ns ns.length
    have h3 : (⟨#[124]⟩ : ByteArray).size = 1 := rfl
    unfold lT
    rw [ByteArray.size_append]
    omega
  | j + 1, h => by
    have h1 := lT_size ns ls hb j (by omega)
    have h2 := dS_size (ndI ls j).1 (hb j (by omega)).1
    have h4 := dS_size (ndI ls j).2 (hb j (by omega)).2
    have h3 : (⟨#[32]⟩ : ByteArray).size = 1 := rfl
    have h5 : (⟨#[45]⟩ : ByteArray).size = 1 := rfl
    unfold lT
    rw [ByteArray.size_append, ByteArray.size_append, ByteArray.size_append, ByteArray.size_append]
    omega

theorem sWinOk_at (vn vl : Value) (ns ls : List Pr) (b : Bool) (w : World) (hn : RP w vn ns) (hl : RP w vl ls) (hb : winB ns ls = b) :
    Calls Tryd.prog 32 #[.agg #[vn, vl]] w fun e w' => e = .returned (.bool b) ∧ Below w.heap.size w w' := by
  subst hb; exact sWinOk_any vn vl ns ls w hn hl

theorem iWinOk_at (vn vl : Value) (ns ls : List Pr) (b : Bool) (w : World) (hn : RP w vn ns) (hl : RP w vl ls) (hb : winB ns ls = b) :
    Calls Tryd.prog 35 #[.agg #[vn, vl]] w fun e w' => e = .returned (.bool b) ∧ Below w.heap.size w w' := by
  subst hb; exact iWinOk_any vn vl ns ls w hn hl

theorem win_leads {ns ls : List Pr} (h : WinOk ns ls) (j : Nat) (hj : j < ls.length) : (0 ≤ (ndI ls j).1 ∧ (ndI ls j).1 < 12) ∧ 0 ≤ (ndI ls j).2 ∧ (ndI ls j).2 < 12 := by
  have hl := leadB_iff.1 (h.2.2.2.2.2 j hj).1
  have := h.2.1
  omega

set_option maxHeartbeats 8000000 in
set_option maxRecDepth 100000 in
theorem sWtxt_any (vn vl : Value) (ns ls : List Pr) (w : World) (hn : RP w vn ns) (hl : RP w vl ls) :
    Calls Tryd.prog 19 #[.agg #[vn, vl]] w fun e w' => e = .returned (.string (windowS ns ls)) ∧ Below w.heap.size w w' := by
  cases hw : winB ns ls
  · have HS : Hid (windowS ns ls = ⟨#[]⟩) := Lib.hid (by simp [windowS, hw])
    go_enter Tryd.func19, Tryd.ntmps19
    go_wp2_with fail
    refine (sWinOk_at _ _ ns ls _ _ (hn.below (by (repeat' (first | (with_reducible exact Below.refl _ _) | (with_reducible assumption) | (with_reducible refine Below.drew ?_) | (with_reducible refine below_drewN ?_ _) | (with_reducible refine Below.alloc ?_ ?_ _) | (with_reducible refine Below.setCell ?_ ?_ _) | (with_reducible refine Below.step (by assumption) ?_ ?_))); all_goals (first | omega | (simp; done) | (simp; omega)))) (hl.below (by (repeat' (first | (with_reducible exact Below.refl _ _) | (with_reducible assumption) | (with_reducible refine Below.drew ?_) | (with_reducible refine below_drewN ?_ _) | (with_reducible refine Below.alloc ?_ ?_ _) | (with_reducible refine Below.setCell ?_ ?_ _) | (with_reducible refine Below.step (by assumption) ?_ ?_))); all_goals (first | omega | (simp; done) | (simp; omega)))) hw).mono ?_
    rintro e w1 ⟨rfl, hb1⟩; (first | (with_reducible have hcf1 := bcell_drew hb1) | have hcf1 := bcell hb1); obtain ⟨hc1, hf1⟩ := hcf1; have hz1 := hb1.size; (try simp at hz1); (try have hp1_0 : w.heap.size < w1.heap.size := by omega); (try have hp1_1 : w.heap.size + 1 < w1.heap.size := by omega); (try have hp1_2 : w.heap.size + 1 + 1 < w1.heap.size := by omega); (try have hp1_3 : w.heap.size + 1 + 1 + 1 < w1.heap.size := by omega)
    go_wp2
    go_ret
    exact ⟨by rw [HS.out]; rfl, by (repeat' (first | (with_reducible exact Below.refl _ _) | (with_reducible assumption) | (with_reducible refine Below.drew ?_) | (with_reducible refine below_drewN ?_ _) | (with_reducible refine Below.alloc ?_ ?_ _) | (with_reducible refine Below.setCell ?_ ?_ _) | (with_reducible refine Below.step (by assumption) ?_ ?_))); all_goals (first | omega | (simp; done) | (simp; omega))⟩
  · have hwin := winB_true.1 hw
    have HS : Hid (windowS ns ls = lT ns ls ls.length) := Lib.hid (by simp [windowS, hw])
    have hn12 := hwin.2.1
    have hl20 := hwin.2.2.1
    have HLB : Hid (∀ j : Nat, j < ls.length → (0 ≤ (ndI ls j).1 ∧ (ndI ls j).1 < 12) ∧ 0 ≤ (ndI ls j).2 ∧ (ndI ls j).2 < 12) := Lib.hid (fun j hj => win_leads hwin j hj)
    have HLS : Hid (∀ j, j ≤ ls.length → (lT ns ls j).size ≤ 6 * ns.length + 1 + 6 * j) := Lib.hid (lT_size ns ls (fun j hj => by have := win_leads hwin j hj; omega))
    clear hwin
    obtain ⟨An, cn, rfl, hcn, hmn, hcelln⟩ := hn.formI
    obtain ⟨Al, cl, rfl, hcl, hml, hcelll⟩ := hl.formI
    unfold maxLen at hmn hml
    have HCN := Lib.hid hcelln
    have HCL := Lib.hid hcelll
    clear hcelln hcelll
    go_enter Tryd.func19, Tryd.ntmps19
    go_wp2_with fail
    refine (sWinOk_at _ _ ns ls _ _ (hn.below (by (repeat' (first | (with_reducible exact Below.refl _ _) | (with_reducible assumption) | (with_reducible refine Below.drew ?_) | (with_reducible refine below_drewN ?_ _) | (with_reducible refine Below.alloc ?_ ?_ _) | (with_reducible refine Below.setCell ?_ ?_ _) | (with_reducible refine Below.step (by assumption) ?_ ?_))); all_goals (first | omega | (simp; done) | (simp; omega)))) (hl.below (by (repeat' (first | (with_reducible exact Below.refl _ _) | (with_reducible assumption) | (with_reducible refine Below.drew ?_) | (with_reducible refine below_drewN ?_ _) | (with_reducible refine Below.alloc ?_ ?_ _) | (with_reducible refine Below.setCell ?_ ?_ _) | (with_reducible refine Below.step (by assumption) ?_ ?_))); all_goals (first | omega | (simp; done) | (simp; omega)))) hw).mono ?_
    rintro e w1 ⟨rfl, hb1⟩
    have hz1 := hb1.size
    simp at hz1
    have hA1 : Blk w1 w.heap.size 51 #[.slice An ns.length cn, .slice Al ls.length cl] := Blk.below (Blk.newAt rfl) hb1 (by first | omega | (simp; done) | (simp; omega))
    have hbw1 : Below w.heap.size w w1 := by (repeat' (first | (with_reducible exact Below.refl _ _) | (with_reducible assumption) | (with_reducible refine Below.drew ?_) | (with_reducible refine below_drewN ?_ _) | (with_reducible refine Below.alloc ?_ ?_ _) | (with_reducible refine Below.setCell ?_ ?_ _) | (with_reducible refine Below.step (by assumption) ?_ ?_))); all_goals (first | omega | (simp; done) | (simp; omega))
    clear hb1
    go_wp2
    go_loopw [3, 4] (fun s i wr => ∃ j : Nat, j ≤ ns.length ∧ i = .int .i64 j ∧ s = .string (nT ns j) ∧ Blk wr w.heap.size 51 #[.slice An ns.length cn, .slice Al ls.length cl] ∧ Below w.heap.size w wr) (fun _ i _ => ns.length - (intOf i).toNat)
    case atStart => exact ⟨0, Nat.zero_le _, rfl, rfl, hA1, hbw1⟩
    case round =>
      obtain ⟨j, hj, rfl, rfl, hA, hbl⟩ := hrel
      have hsz := hbl.size
      have hss := nT_size ns j
      clear hA1 hbw1
      (have a_0 := hA.cell 0); (have a_1 := hA.cell 1); simp only [List.getElem?_toArray, List.getElem?_cons_succ, List.getElem?_cons_zero] at a_0 a_1
      by_cases hlt : j < ns.length
      · obtain ⟨b, off, rfl, hb, hcl'⟩ := HCN.out (by omega)
        obtain ⟨k0, k1⟩ := hcl' j hlt
        have q0 := (hbl.cell (p := ⟨b, off + j * 2, none⟩) hb).trans k0
        have q1 := (hbl.cell (p := ⟨b, off + j * 2 + 1, none⟩) hb).trans k1
        clear k0 k1 hcl'
        have HSC : Hid (nT ns (j + 1) = nT ns j ++ nodeS (ndI ns j).1 (ndI ns j).2 ++ ⟨#[32]⟩) := Lib.hid rfl
        have hts := nodeS_size (ndI ns j).1 (ndI ns j).2
        obtain ⟨T, hT⟩ : ∃ T, nodeS (ndI ns j).1 (ndI ns j).2 = T := ⟨_, rfl⟩
        rw [hT] at HSC hts
        have HT := Lib.hid hT
        clear hT
        generalize nT ns j = S at *
        have z1 : S.size + T.size ≤ 9223372036854775807 := by omega
        have z2 : S.size + T.size + 1 ≤ 9223372036854775807 := by omega
        go_wp2_with fail
        refine (sNodeText_any _ _ _).mono ?_
        rw [HT.out]
        rintro e w2 ⟨rfl, hb2⟩
        have hA2 := hA.below hb2 hA.lt
        have hbw2 := hbl.trans (hb2.mono hsz)
        clear hb2 hA hbl a_0 a_1 q0 q1
        go_wp2
        go_roundw
        case rel => exact ⟨j + 1, by omega, by go_num, by rw [HSC.out], hA2, hbw2⟩
        case measure => simp [intOf]; omega
      · have hjj : j = ns.length := by omega
        subst hjj
        have HST : Hid (lT ns ls 0 = nT ns ns.length ++ ⟨#[124]⟩) := Lib.hid rfl
        obtain ⟨S, hS⟩ : ∃ S, S = nT ns ns.length := ⟨_, rfl⟩
        rw [← hS] at hss HST ⊢
        clear hS
        have z1 : S.size + 1 ≤ 9223372036854775807 := by omega
        go_wp2
        go_loopw [3, 5] (fun s i wr => ∃ j : Nat, j ≤ ls.length ∧ i = .int .i64 j ∧ s = .string (lT ns ls j) ∧ Blk wr w.heap.size 51 #[.slice An ns.length cn, .slice Al ls.length cl] ∧ Below w.heap.size w wr) (fun _ i _ => ls.length - (intOf i).toNat)
        case atStart => exact ⟨0, Nat.zero_le _, rfl, by rw [HST.out], hA, hbl⟩
        case round =>
          obtain ⟨j, hj2, rfl, rfl, hA2, hbl2⟩ := hrel
          clear hA hbl hss hsz z1 a_0 a_1 HST hlt hj
          have hsz := hbl2.size
          have hss := HLS.out j hj2
          have hzz : w.heap.size < _ := hA2.lt
          (have a_0 := hA2.cell 0); (have a_1 := hA2.cell 1); simp only [List.getElem?_toArray, List.getElem?_cons_succ, List.getElem?_cons_zero] at a_0 a_1
          by_cases hlt : j < ls.length
          · obtain ⟨b, off, rfl, hb, hcl'⟩ := HCL.out (by omega)
            obtain ⟨k0, k1⟩ := hcl' j hlt
            have q0 := (hbl2.cell (p := ⟨b, off + j * 2, none⟩) hb).trans k0
            have q1 := (hbl2.cell (p := ⟨b, off + j * 2 + 1, none⟩) hb).trans k1
            clear k0 k1 hcl'
            have HSC : Hid (lT ns ls (j + 1) = lT ns ls j ++ ⟨#[32]⟩ ++ dS (ndI ls j).1 ++ ⟨#[45]⟩ ++ dS (ndI ls j).2) := Lib.hid rfl
            obtain ⟨⟨f0, f1⟩, t0, t1⟩ := HLB.out j hlt
            have x1 := dS_size (ndI ls j).1 (by omega)
            have x2 := dS_size (ndI ls j).2 (by omega)
            generalize lT ns ls j = S2 at *
            generalize (ndI ls j).1 = f at *
            generalize (ndI ls j).2 = t at *
            have z1 : S2.size + 1 ≤ 9223372036854775807 := by omega
            have z2 : S2.size + 1 + (dS f).size ≤ 9223372036854775807 := by omega
            have z3 : S2.size + 1 + (dS f).size + 1 ≤ 9223372036854775807 := by omega
            have z4 : S2.size + 1 + (dS f).size + 1 + (dS t).size ≤ 9223372036854775807 := by omega
            have y1 : ((S2.size + 1 : Nat) : Int) ≤ 9223372036854775807 := by omega
            have y2 : ((S2.size + 1 + (dS f).size : Nat) : Int) ≤ 9223372036854775807 := by omega
            have y3 : ((S2.size + 1 + (dS f).size + 1 : Nat) : Int) ≤ 9223372036854775807 := by omega
            have y4 : ((S2.size + 1 + (dS f).size + 1 + (dS t).size : Nat) : Int) ≤ 9223372036854775807 := by omega
            have c1 : (0 : Int) ≤ (j : Int) := by omega
            have c2 : (j : Int) < (ls.length : Int) := by omega
            have g4 : b < _ := Nat.lt_of_lt_of_le hb hsz
            go_wp2_with fail
            (refine wp_region_quietG (by kernel_rfl) (by kernel_rfl) (fun hG => ?_))
            repeat (go_big_quiet_step ((go_at_call 24; exact quietG (sFmtI_any _ (by omega) (by omega) _))))
            (refine wpQuiet_nil ?_); (clear hG); (rintro w2 ⟨⟨_, hb2⟩, rfl⟩); (try dsimp only); (first | (with_reducible have hcf2 := bcell_drew hb2) | have hcf2 := bcell hb2); obtain ⟨hc2, hf2⟩ := hcf2; have hz2 := hb2.size; (try simp at hz2); (try have hp2_0 : w.heap.size < w2.heap.size := by omega); (try have hp2_1 : w.heap.size + 1 < w2.heap.size := by omega); (try have hp2_2 : w.heap.size + 1 + 1 < w2.heap.size := by omega); (try have hp2_3 : w.heap.size + 1 + 1 + 1 < w2.heap.size := by omega)
            have hA3 := hA2.below hb2 hzz
            have hbw3 := hbl2.trans (hb2.mono hsz)
            clear hb2 hc2 hf2 hA2 hbl2 a_0 a_1 q0 q1
            go_wp2
            go_roundw
            case rel => exact ⟨j + 1, by omega, by go_num, by rw [HSC.out], hA3, hbw3⟩
            case measure => simp [intOf]; omega
          · have hjj : j = ls.length := by omega
            subst hjj
            go_wp2
            go_ret
            exact ⟨by rw [HS.out]; rfl, hbl2⟩

end Go.Proofs.YtoghnlcnacocgaaDoor
