/-
  The law of the windows: the drawn window.
-/
import Derived.Test.YtnpdincjekelaaaWdrawW
import Derived.Test.YtnpdincjekelaaaSame
import Derived.Test.YtnpdincjekelaaaJnt
set_option linter.unusedSimpArgs false
set_option linter.unusedVariables false
namespace Go.Proofs.Ytnpdincjekelaaa
open Go.RowKit

set_option maxHeartbeats 2000000 in
set_option maxRecDepth 100000 in
theorem drawWin_any (v : Value) (zs : List Int) (w : World) (h : RB w v zs) (hle : zs.length ≤ 1048576) :
    Calls Try.prog 12 #[v] w fun e w' => ∃ ns ls An cn Al cl, e = .returned (.agg #[.slice An ns.length cn, .slice Al ls.length cl]) ∧ WinOk ns ls ∧ OwnW w.heap.size w' (.slice An ns.length cn) (.slice Al ls.length cl) ns ls ∧ Below w.heap.size w w' := by
  have HRB := Lib.hid h
  clear h
  go_enter Try.func12, Try.ntmps12
  go_wp2_with fail
  have hb0 : Below w.heap.size w (w.alloc (.cells #[.slice none 0 0, .slice none 0 0] 27)) := by (repeat' (first | (with_reducible exact Below.refl _ _) | (with_reducible assumption) | (with_reducible refine Below.drew ?_) | (with_reducible refine below_drewN ?_ _) | (with_reducible refine Below.alloc ?_ ?_ _) | (with_reducible refine Below.setCell ?_ ?_ _) | (with_reducible refine Below.step (by assumption) ?_ ?_))); all_goals (first | omega | (simp; done) | (simp; omega))
  have hR0 : Blk (w.alloc (.cells #[.slice none 0 0, .slice none 0 0] 27)) w.heap.size 27 #[.slice none 0 0, .slice none 0 0] := Blk.newAt rfl
  obtain ⟨w0, hw0⟩ : ∃ w0, w0 = w.alloc (.cells #[.slice none 0 0, .slice none 0 0] 27) := ⟨_, rfl⟩
  have hs0 : w0.heap.size = w.heap.size + 1 := by rw [hw0]; simp
  rw [← hw0] at hb0 hR0 ⊢
  clear hw0
  refine (new_at v zs _ (HRB.out.below hb0) hle).mono ?_
  rintro e w1 ⟨g, rfl, hc1⟩
  go_wp2_with fail
  refine (drawWindow_any w0 v zs g _ (HRB.out.below hb0) hle hc1).mono ?_
  rintro e w2 ⟨ns, ls, An, cn, Al, cl, rfl, hwin, ho, hc2, hg2⟩
  have hb02 := hc2.2.1
  have hz1 := hc1.2.1.size
  have hR2 := hR0.below hb02 hR0.lt
  have hRl := hR2.lt
  have hbw2 := hb0.trans (hb02.mono (by omega))
  have HW := Lib.hid hwin
  have HO := Lib.hid (((ho.setLow (p := ⟨w.heap.size, 0, none⟩) (show w.heap.size < w1.heap.size + 1 by omega) (.slice An ns.length cn)).setLow (p := ⟨w.heap.size, 1, none⟩) (show w.heap.size < w1.heap.size + 1 by omega) (.slice Al ls.length cl)).mono (show w.heap.size ≤ _ by omega))
  have HB := Lib.hid ((hbw2.setCell (p := ⟨w.heap.size, 0, none⟩) (Nat.le_refl _) (.slice An ns.length cn)).setCell (p := ⟨w.heap.size, 1, none⟩) (Nat.le_refl _) (.slice Al ls.length cl))
  clear hwin ho hc2 hg2 hc1 hb02 hbw2 hb0 hR0
  (have r_0 := hR2.cell 0); (have r_1 := hR2.cell 1); simp only [List.getElem?_toArray, List.getElem?_cons_succ, List.getElem?_cons_zero] at r_0 r_1; (have r_f0 := hR2.frozen 0); (have r_f1 := hR2.frozen 1)
  go_wp2
  exact bodyPost_ret (v := .agg #[.slice An ns.length cn, .slice Al ls.length cl]) (by simp [results, Try.results12, go_sem, r_0, r_1]) rfl ⟨ns, ls, An, cn, Al, cl, rfl, HW.out, HO.out, HB.out⟩

theorem big_at (v : Value) (zs : List Int) (b : Bool) (w : World) (h : RB w v zs) (hb : decide ((1048576 : Int) < zs.length) = b) :
    Calls Try.prog 11 #[v] w fun e w' => e = .returned (.bool b) ∧ w = w' := by
  subst hb
  obtain ⟨A, c, rfl, hc, hm, hcell⟩ := h.form
  clear h hcell
  go_enter Try.func11, Try.ntmps11
  go_wp2
  go_ret
  exact ⟨rfl, rfl⟩

/-- The law's window in its box. -/
structure LSt (w : World) (X : Nat) (wr : World) (An : Option Addr) (cn : Nat) (Al : Option Addr) (cl : Nat) (ns ls : List Pr) : Prop where
  own : OwnW w.heap.size wr (.slice An ns.length cn) (.slice Al ls.length cl) ns ls
  box : Blk wr X 27 #[.slice An ns.length cn, .slice Al ls.length cl]
  blw : Below w.heap.size w wr

theorem LSt.below {w : World} {X : Nat} {wr w' : World} {An : Option Addr} {cn : Nat} {Al : Option Addr} {cl : Nat} {ns ls : List Pr} (h : LSt w X wr An cn Al cl ns ls) (hb : Below wr.heap.size wr w') : LSt w X w' An cn Al cl ns ls :=
  ⟨h.own.kept hb, h.box.below hb h.box.lt, h.blw.trans (hb.mono h.blw.size)⟩
theorem LSt.alloc {w : World} {X : Nat} {wr : World} {An : Option Addr} {cn : Nat} {Al : Option Addr} {cl : Nat} {ns ls : List Pr} (h : LSt w X wr An cn Al cl ns ls) (o : Obj) : LSt w X (wr.alloc o) An cn Al cl ns ls :=
  h.below (Below.alloc (Below.refl _ _) (Nat.le_refl _) o)
theorem LSt.drew {w : World} {X : Nat} {wr : World} {An : Option Addr} {cn : Nat} {Al : Option Addr} {cl : Nat} {ns ls : List Pr} (h : LSt w X wr An cn Al cl ns ls) : LSt w X wr.drew An cn Al cl ns ls := h.below (Below.drew (Below.refl _ _))

theorem add_back {ns ls : List Pr} (a b : Int) (h : addB ns ls a b = true) :
    hasL ns (addL ns ls a b) ls.length = true ∧ dropL ns (addL ns ls a b) ls.length = ls ∧ betwL ns (addL ns ls a b) b a = ls.length ∧ betwL ns ls a b = -1 ∧ (addL ns ls a b).length = ls.length + 1 := by
  have hA : addL ns ls a b = ls ++ [(mn2 a b, mx2 a b)] := by simp [addL, h]
  unfold addB at h
  rw [Bool.and_eq_true] at h
  obtain ⟨h1, h2⟩ := h
  have hH : hasL ns (addL ns ls a b) ls.length = true := by
    rw [hA]; unfold hasL; rw [h2, Bool.true_and, inB_true]; simp
  refine ⟨hH, ?_, ?_, ?_, by rw [hA]; simp⟩
  · unfold dropL
    rw [if_pos hH, hA]
    simp
  · unfold betwL
    rw [hA, if_pos h2]
    have e : (mn2 b a, mx2 b a) = ndI (ls ++ [(mn2 a b, mx2 a b)]) (ls.length : Nat) := by
      rw [ndI_app_last, mn2_eq, mx2_eq, mn2_eq, mx2_eq, Int.min_comm, Int.max_comm]
    rw [e, idx_lead (winB_true.1 h2) (by simp)]
  · unfold betwL
    rw [if_pos h1, idxP_no (added_new (winB_true.1 h2))]

theorem same_self (ns ls : List Pr) : sameWB ns ls ns ls = true := by simp [sameWB]

theorem run_fldW (A0 A1 : Option Addr) (n0 c0 n1 c1 : Nat) (w : World) : Sem.run Try.prog (Instr.field 27 (.agg #[.slice A0 n0 c0, .slice A1 n1 c1]) 1) w = .ok (.slice A1 n1 c1) w := by kernel_rfl

theorem RP.grw {W : World} (n : Grw W) {v : Value} {l : List Pr} (h : RP W v l) : RP n.to v l := h.below n.below

theorem iLeadBetween_at (vn vl : Value) (ns ls : List Pr) (a b r : Int) (w : World) (hn : RP w vn ns) (hl : RP w vl ls) (hx : Hid (betwL ns ls a b = r)) :
    Calls Try.prog 19 #[.agg #[vn, vl], .int .i64 a, .int .i64 b] w fun e w' => e = .returned (.int .i64 r) ∧ Below w.heap.size w w' :=
  (iLeadBetween_any vn vl ns ls a b w hn hl).mono fun e w' ⟨he, hw⟩ => ⟨he.trans (ret_int hx.out), hw⟩

theorem ndI_lt {ls : List Pr} {k : Nat} (hk : k < ls.length) : ndI ls (k : Int) = ls[k] := by
  rw [ndI_getD, List.getD_eq_getElem?_getD, List.getElem?_eq_getElem hk]; rfl

theorem drop_back {ns ls : List Pr} (h : WinOk ns ls) {k : Nat} (hk : k < ls.length) :
    hasL ns ls k = true ∧ addB ns (dropL ns ls k) (ndI ls k).1 (ndI ls k).2 = true ∧ betwL ns ls (ndI ls k).2 (ndI ls k).1 = k ∧ (dropL ns ls k).length ≤ ls.length := by
  have hw := winB_true.2 h
  have hH : hasL ns ls k = true := by unfold hasL; rw [hw, Bool.true_and, inB_true]; omega
  have hl := leadB_iff.1 (h.2.2.2.2.2 k hk).1
  have hD : dropL ns ls k = ls.take k ++ ls.drop (k + 1) := by unfold dropL; rw [if_pos hH]; simp
  have e : (mn2 (ndI ls k).1 (ndI ls k).2, mx2 (ndI ls k).1 (ndI ls k).2) = ndI ls k := by
    rw [mn2_eq, mx2_eq, Int.min_eq_left (by omega), Int.max_eq_right (by omega)]
  have e' : (mn2 (ndI ls k).2 (ndI ls k).1, mx2 (ndI ls k).2 (ndI ls k).1) = ndI ls k := by
    rw [mn2_eq, mx2_eq, Int.min_eq_right (by omega), Int.max_eq_left (by omega)]
  refine ⟨hH, ?_, ?_, by rw [hD]; simp; omega⟩
  · unfold addB
    rw [hD, e, winB_true.2 (win_drop h hk), winB_true.2 (win_again h hk)]
    rfl
  · unfold betwL
    rw [if_pos hw, e', idx_lead h hk]

theorem degSum_le (ls : List Pr) (m : Nat) : ∀ k, degSum ls m k ≤ k * m
  | 0 => by simp [degSum]
  | k + 1 => by
    have h1 := degSum_le ls m k
    have h2 := atN_len ls (k : Int) m
    rw [degSum, Nat.succ_mul]
    omega

attribute [local go_sem ↓] run_fldW

set_option maxHeartbeats 60000000 in
set_option maxRecDepth 100000 in
theorem winLaw_any (v : Value) (zs : List Int) (w : World) (h : RB w v zs) :
    Calls Try.prog 3 #[v] w fun e w' => e = .returned (.bool true) ∧ Below w.heap.size w w' := by
  cases hbg : decide ((1048576 : Int) < zs.length)
  case true =>
    go_enter Try.func3, Try.ntmps3
    go_wp2_with fail
    refine (big_at v zs _ _ h hbg).mono ?_
    rintro e w' ⟨rfl, rfl⟩
    go_wp2
    go_ret
    exact ⟨rfl, Below.refl _ _⟩
  case false =>
    have hle : zs.length ≤ 1048576 := by have := of_decide_eq_false hbg; omega
    have HRB := Lib.hid h
    have HBG := Lib.hid hbg
    clear h hbg
    go_enter Try.func3, Try.ntmps3
    go_wp2_with fail
    refine (big_at v zs _ _ HRB.out HBG.out).mono ?_
    rintro e w' ⟨rfl, rfl⟩
    go_wp2_with fail
    refine (drawWin_any v zs _ HRB.out hle).mono ?_
    rintro e w1 ⟨ns, ls, An, cn, Al, cl, rfl, hwin, ho1, hb1⟩
    have hn1 := hwin.1
    have hn12 := hwin.2.1
    have hl20 := hwin.2.2.1
    have HW := Lib.hid hwin
    have hz1 := hb1.size
    have HST : Hid (LSt w w1.heap.size (w1.alloc (.cells #[.slice An ns.length cn, .slice Al ls.length cl] 27)) An cn Al cl ns ls) := Lib.hid
      ⟨ho1.alloc _, Blk.newAt rfl, hb1.alloc hb1.size _⟩
    clear hwin ho1 hb1
    go_wp2
    obtain ⟨X, hX⟩ : ∃ X, X = w1.heap.size := ⟨_, rfl⟩
    rw [← hX] at HST ⊢
    clear hX
    go_loopw [4, 5, 6] (fun sm i _ wr => ∃ k : Nat, k ≤ ns.length ∧ i = .int .i64 k ∧ sm = .int .i64 (degSum ls ls.length k) ∧ LSt w X wr An cn Al cl ns ls) (fun _ i _ _ => ns.length - (intOf i).toNat)
    case atStart => exact ⟨0, Nat.zero_le _, rfl, rfl, HST.out⟩
    case round =>
      clear HST
      obtain ⟨k, hk, rfl, rfl, hst⟩ := hrel
      have HST := Lib.hid hst
      clear hst
      have hbx := HST.out.box
      (have x_0 := hbx.cell 0); (have x_1 := hbx.cell 1); simp only [List.getElem?_toArray, List.getElem?_cons_succ, List.getElem?_cons_zero] at x_0 x_1
      have hXl := hbx.lt
      by_cases hlt : k < ns.length
      · have hkn : hasN ns ls k = true := by
          unfold hasN
          rw [winB_true.2 HW.out, Bool.true_and, inB_true]
          omega
        have HKN := Lib.hid hkn
        have HD : Hid (degI ns ls k = ((atN ls k ls.length).length : Int)) := Lib.hid (by simp [degI, hkn])
        have HSU : Hid (degSum ls ls.length (k + 1) = degSum ls ls.length k + (atN ls (k : Int) ls.length).length) := Lib.hid rfl
        have hal := atN_len ls k ls.length
        clear hkn
        have hsm : degSum ls ls.length k ≤ 1000 := by
          have := degSum_le ls ls.length k
          have : k * ls.length ≤ 12 * 20 := Nat.mul_le_mul (by omega) hl20
          omega
        obtain ⟨G, hG⟩ : ∃ G, atN ls (k : Int) ls.length = G := ⟨_, rfl⟩
        rw [hG] at HD HSU hal
        have HG := Lib.hid hG
        clear hG
        generalize degSum ls ls.length k = sm at *
        go_wp2_with fail
        refine (iDegree_any _ _ ns ls _ _ HST.out.own.1.reads HST.out.own.2.1.reads).mono ?_
        rw [HD.out]
        rintro e w2 ⟨rfl, hb2⟩
        have HST2 := Lib.hid (HST.out.below hb2)
        clear HST hb2 hbx x_0 x_1 hXl
        have hbx := HST2.out.box
        (have x_0 := hbx.cell 0); (have x_1 := hbx.cell 1); simp only [List.getElem?_toArray, List.getElem?_cons_succ, List.getElem?_cons_zero] at x_0 x_1
        go_wp2_with fail
        refine (iLeadsAt_yes _ _ ns ls _ _ HST2.out.own.1.reads HST2.out.own.2.1.reads HKN.out).mono ?_
        rw [HG.out]
        rintro e w3 ⟨v3, rfl, ho3, hb3⟩
        obtain ⟨A3, c3, e3, _⟩ := ho3.reads.form
        subst e3
        rw [show (natI G).length = G.length by simp [natI]]
        have HST3 := Lib.hid (HST2.out.below hb3)
        clear HST2 hb3 ho3 hbx x_0 x_1
        go_wp2
        go_roundw
        case rel => exact ⟨k + 1, by omega, by go_num, by rw [HSU.out]; congr 1, HST3.out⟩
        case measure => simp [intOf]; omega
      · have hkk : k = ns.length := by omega
        subst hkk
        have HSU : Hid (degSum ls ls.length ns.length = 2 * ls.length) := Lib.hid (degSum_all HW.out _ (Nat.le_refl _))
        rw [HSU.out]
        have hnp : (0 : Int) < (ns.length : Int) := by omega
        have hnE : ¬ ns = [] := fun h => by rw [h] at hn1; simp at hn1
        go_wp2_with fail
        have hS00 : _ ∧ _ := And.intro x_0 x_1
        refine region_D (n := 6) (S := fun w' => w'.cell? ⟨X, 0, none⟩ = some (.slice An ns.length cn) ∧ w'.cell? ⟨X, 1, none⟩ = some (.slice Al ls.length cl)) (by kernel_rfl) hS00 (fun hS => ?_)
        (refine D_take (i := 0) (v := ?_) rfl rfl (by kernel_rfl) (by kernel_rfl) (by kernel_rfl) (by kernel_rfl) (fun _ _ _ h => h) (Or.inl ⟨by rfl, ?_⟩) (by assumption) ?_); rotate_left; (focus (intro w' hSw; (try dsimp only at hSw); go_simp; (try with_reducible rfl))); (try simp only [Act.put, List.setIfInBounds_toArray, List.set_cons_zero, List.set_cons_succ])
        (refine D_take (i := 2) (v := ?_) rfl rfl (by kernel_rfl) (by kernel_rfl) (by kernel_rfl) (by kernel_rfl) (fun _ _ _ h => h) (Or.inl ⟨by rfl, ?_⟩) (by assumption) ?_); rotate_left; (focus (intro w' hSw; (try dsimp only at hSw); go_simp; (try with_reducible rfl))); (try simp only [Act.put, List.setIfInBounds_toArray, List.set_cons_zero, List.set_cons_succ])
        (refine D_take (i := 3) (v := ?_) rfl rfl (by kernel_rfl) (by kernel_rfl) (by kernel_rfl) (by kernel_rfl) (fun _ _ _ h => h) (Or.inl ⟨by rfl, ?_⟩) (by assumption) ?_); rotate_left; (focus (intro w' hSw; (try dsimp only at hSw); go_simp; (try with_reducible rfl))); (try simp only [Act.put, List.setIfInBounds_toArray, List.set_cons_zero, List.set_cons_succ])
        (refine D_take (i := 4) (v := ?_) rfl rfl (by kernel_rfl) (by kernel_rfl) (by kernel_rfl) (by kernel_rfl) (fun _ _ _ h => h) (Or.inl ⟨by rfl, ?_⟩) (by assumption) ?_); rotate_left; (focus (intro w' hSw; (try dsimp only at hSw); go_simp; (try with_reducible rfl))); (try simp only [Act.put, List.setIfInBounds_toArray, List.set_cons_zero, List.set_cons_succ])
        (refine D_step (i := 1) rfl (by kernel_rfl) (fun K hK => ?_)); (rw [if_pos (by rfl)])
        go_simp
        go_at_call 15
        refine (at_any v zs 0 _ (HRB.out.below HST.out.drew.blw) hle (by omega) (by omega)).mono ?_
        rintro e w' ⟨y0, rfl, y00, y01, rfl⟩
        go_wp2_with fail
        refine hK _ _ (fun _ => hS) (fun _ => ?_)
        clear hK K
        (try simp only [Act.put, List.setIfInBounds_toArray, List.set_cons_zero, List.set_cons_succ])
        (refine D_take (i := 5) (v := ?_) rfl rfl (by kernel_rfl) (by kernel_rfl) (by kernel_rfl) (by kernel_rfl) (fun _ _ _ h => h) (Or.inl ⟨by rfl, ?_⟩) (by assumption) ?_); rotate_left; (focus (intro w' hSw; (try dsimp only at hSw); go_simp; (try with_reducible rfl))); (try simp only [Act.put, List.setIfInBounds_toArray, List.set_cons_zero, List.set_cons_succ])
        (refine D_step (i := 6) rfl (by kernel_rfl) (fun K hK => ?_)); (rw [if_pos (by rfl)])
        go_simp
        refine hK _ _ (fun h => absurd rfl h) (fun _ => ?_)
        clear hK K
        (try simp only [Act.put, List.setIfInBounds_toArray, List.set_cons_zero, List.set_cons_succ])
        refine D_done (by kernel_rfl) ?_ _
        generalize y0.tmod (ns.length : Int) = a at *
        clear hS y00 y01
        go_wp2_with fail
        have hS10 : _ ∧ _ := And.intro x_0 x_1
        refine region_D (n := 6) (S := fun w' => w'.cell? ⟨X, 0, none⟩ = some (.slice An ns.length cn) ∧ w'.cell? ⟨X, 1, none⟩ = some (.slice Al ls.length cl)) (by kernel_rfl) hS10 (fun hS => ?_)
        (refine D_take (i := 0) (v := ?_) rfl rfl (by kernel_rfl) (by kernel_rfl) (by kernel_rfl) (by kernel_rfl) (fun _ _ _ h => h) (Or.inl ⟨by rfl, ?_⟩) (by assumption) ?_); rotate_left; (focus (intro w' hSw; (try dsimp only at hSw); go_simp; (try with_reducible rfl))); (try simp only [Act.put, List.setIfInBounds_toArray, List.set_cons_zero, List.set_cons_succ])
        (refine D_take (i := 2) (v := ?_) rfl rfl (by kernel_rfl) (by kernel_rfl) (by kernel_rfl) (by kernel_rfl) (fun _ _ _ h => h) (Or.inl ⟨by rfl, ?_⟩) (by assumption) ?_); rotate_left; (focus (intro w' hSw; (try dsimp only at hSw); go_simp; (try with_reducible rfl))); (try simp only [Act.put, List.setIfInBounds_toArray, List.set_cons_zero, List.set_cons_succ])
        (refine D_take (i := 3) (v := ?_) rfl rfl (by kernel_rfl) (by kernel_rfl) (by kernel_rfl) (by kernel_rfl) (fun _ _ _ h => h) (Or.inl ⟨by rfl, ?_⟩) (by assumption) ?_); rotate_left; (focus (intro w' hSw; (try dsimp only at hSw); go_simp; (try with_reducible rfl))); (try simp only [Act.put, List.setIfInBounds_toArray, List.set_cons_zero, List.set_cons_succ])
        (refine D_take (i := 4) (v := ?_) rfl rfl (by kernel_rfl) (by kernel_rfl) (by kernel_rfl) (by kernel_rfl) (fun _ _ _ h => h) (Or.inl ⟨by rfl, ?_⟩) (by assumption) ?_); rotate_left; (focus (intro w' hSw; (try dsimp only at hSw); go_simp; (try with_reducible rfl))); (try simp only [Act.put, List.setIfInBounds_toArray, List.set_cons_zero, List.set_cons_succ])
        (refine D_step (i := 1) rfl (by kernel_rfl) (fun K hK => ?_)); (rw [if_pos (by rfl)])
        go_simp
        go_at_call 15
        refine (at_any v zs 1 _ (HRB.out.below HST.out.drew.drew.blw) hle (by omega) (by omega)).mono ?_
        rintro e w' ⟨y1, rfl, y10, y11, rfl⟩
        go_wp2_with fail
        refine hK _ _ (fun _ => hS) (fun _ => ?_)
        clear hK K
        (try simp only [Act.put, List.setIfInBounds_toArray, List.set_cons_zero, List.set_cons_succ])
        (refine D_take (i := 5) (v := ?_) rfl rfl (by kernel_rfl) (by kernel_rfl) (by kernel_rfl) (by kernel_rfl) (fun _ _ _ h => h) (Or.inl ⟨by rfl, ?_⟩) (by assumption) ?_); rotate_left; (focus (intro w' hSw; (try dsimp only at hSw); go_simp; (try with_reducible rfl))); (try simp only [Act.put, List.setIfInBounds_toArray, List.set_cons_zero, List.set_cons_succ])
        (refine D_step (i := 6) rfl (by kernel_rfl) (fun K hK => ?_)); (rw [if_pos (by rfl)])
        go_simp
        refine hK _ _ (fun h => absurd rfl h) (fun _ => ?_)
        clear hK K
        (try simp only [Act.put, List.setIfInBounds_toArray, List.set_cons_zero, List.set_cons_succ])
        refine D_done (by kernel_rfl) ?_ _
        generalize y1.tmod (ns.length : Int) = b at *
        clear hS y10 y11
        go_wp2_with fail
        refine (iAdd_any _ _ ns ls a b _ HST.out.drew.drew.own.1.reads HST.out.drew.drew.own.2.1.reads (by omega) (by omega)).mono ?_
        rintro e w5 ⟨An5, cn5, Al5, cl5, rfl, ho5, hb5⟩
        have HST5 := Lib.hid (HST.out.drew.drew.below hb5)
        have hz5 := hb5.size
        clear HST hb5 hbx x_0 x_1 hXl
        obtain ⟨bb, hbb⟩ : ∃ bb, addB ns ls a b = bb := ⟨_, rfl⟩
        have HBB := Lib.hid hbb
        rw [hbb]
        clear hbb
        go_upto_if 61 with (fail)
        go_cut [] from 19 (fun wx => LSt w X wx An cn Al cl ns ls)
        case first =>
          cases bb
          · go_wp2
            go_meet
            exact HST5.out.alloc _
          · obtain ⟨ab1, ab2, ab3, ab4, ab5⟩ := add_back a b HBB.out
            have AB1 := Lib.hid ab1
            have AB2 := Lib.hid ab2
            have AB3 := Lib.hid ab3
            have AB4 := Lib.hid ab4
            have AB5 := Lib.hid ab5
            clear ab1 ab2 ab3 ab4 ab5
            generalize addL ns ls a b = ms at *
            obtain ⟨W5, hW5⟩ : ∃ W5, W5 = w5.alloc (.cells #[.slice An5 ns.length cn5, .slice Al5 ms.length cl5] 27) := ⟨_, rfl⟩
            rw [← hW5]
            have HST6 : Hid (LSt w X W5 An cn Al cl ns ls) := Lib.hid (hW5 ▸ HST5.out.alloc _)
            have HO6 : Hid (OwnW 0 W5 (.slice An5 ns.length cn5) (.slice Al5 ms.length cl5) ns ms) := Lib.hid (hW5 ▸ (ho5.alloc _).mono (Nat.zero_le _))
            have HB6 : Hid (Blk W5 w5.heap.size 27 #[.slice An5 ns.length cn5, .slice Al5 ms.length cl5]) := Lib.hid (hW5 ▸ Blk.newAt rfl)
            generalize w5.heap.size = Y at *
            clear hW5 ho5 HST5 hz5
            have hbx := HST6.out.box
            have hby := HB6.out
            (have x_0 := hbx.cell 0); (have x_1 := hbx.cell 1); simp only [List.getElem?_toArray, List.getElem?_cons_succ, List.getElem?_cons_zero] at x_0 x_1
            (have y_0 := hby.cell 0); (have y_1 := hby.cell 1); simp only [List.getElem?_toArray, List.getElem?_cons_succ, List.getElem?_cons_zero] at y_0 y_1
            go_wp2_with fail
            refine (iDrop_any _ _ ns ms ls.length _ HO6.out.1.reads HO6.out.2.1.reads (by omega) (by have := AB5.out; omega)).mono ?_
            rw [AB1.out, AB2.out]
            rintro e w6 ⟨An6, cn6, Al6, cl6, rfl, ho6, hb6⟩
            have HST7 := Lib.hid (HST6.out.below hb6)
            have HO7 := Lib.hid (HO6.out.kept hb6)
            have HB7 := Lib.hid (HB6.out.below hb6 HB6.out.lt)
            clear HST6 HO6 HB6 hbx hby x_0 x_1 y_0 y_1 hb6
            go_upto_region 17 with (fail)
            obtain ⟨W6, hW6⟩ : ∃ W6, W6 = w6.alloc (.cells #[.slice An6 ns.length cn6, .slice Al6 ls.length cl6] 27) := ⟨_, rfl⟩
            rw [← hW6]
            have HST8 : Hid (LSt w X W6 An cn Al cl ns ls) := Lib.hid (hW6 ▸ HST7.out.alloc _)
            have HO8 : Hid (OwnW 0 W6 (.slice An5 ns.length cn5) (.slice Al5 ms.length cl5) ns ms) := Lib.hid (hW6 ▸ HO7.out.alloc _)
            have HB8 : Hid (Blk W6 Y 27 #[.slice An5 ns.length cn5, .slice Al5 ms.length cl5]) := Lib.hid (hW6 ▸ HB7.out.alloc _)
            have HP8 : Hid (OwnW 0 W6 (.slice An6 ns.length cn6) (.slice Al6 ls.length cl6) ns ls) := Lib.hid (hW6 ▸ (ho6.alloc _).mono (Nat.zero_le _))
            have HC8 : Hid (Blk W6 w6.heap.size 27 #[.slice An6 ns.length cn6, .slice Al6 ls.length cl6]) := Lib.hid (hW6 ▸ Blk.newAt rfl)
            generalize w6.heap.size = Z at *
            clear hW6 ho6 HST7 HO7 HB7
            have hbx := HST8.out.box
            have hby := HB8.out
            have hbz := HC8.out
            (have x_0 := hbx.cell 0); (have x_1 := hbx.cell 1); simp only [List.getElem?_toArray, List.getElem?_cons_succ, List.getElem?_cons_zero] at x_0 x_1
            (have y_0 := hby.cell 0); (have y_1 := hby.cell 1); simp only [List.getElem?_toArray, List.getElem?_cons_succ, List.getElem?_cons_zero] at y_0 y_1
            (have z_0 := hbz.cell 0); (have z_1 := hbz.cell 1); simp only [List.getElem?_toArray, List.getElem?_cons_succ, List.getElem?_cons_zero] at z_0 z_1
            have hXl := hbx.lt
            have hYl := hby.lt
            have hZl := hbz.lt
            have xn := HST8.out.own.1.reads
            have xl := HST8.out.own.2.1.reads
            have yn := HO8.out.1.reads
            have yl := HO8.out.2.1.reads
            have zn := HP8.out.1.reads
            have zl := HP8.out.2.1.reads
            have HSW : Hid (sameWB ns ls ns ls = true) := Lib.hid (same_self ns ls)
            clear hbx hby hbz
            (refine wp_region_quietG (by kernel_rfl) (by kernel_rfl) (fun hG => ?_))
            repeat (go_big_quiet_step ((go_at_call 18; exact quietG (sSameWindow_at _ _ _ _ ns ls ns ls true _ (RP.grw _ zn) (RP.grw _ zl) (RP.grw _ xn) (RP.grw _ xl) HSW))))
            go_big_quiet_step ((go_at_call 19; exact quietG (iLeadBetween_at _ _ ns ms b a ls.length _ (RP.grw _ yn) (RP.grw _ yl) AB3)))
            repeat (go_big_quiet_step (fail))
            go_big_quiet_step ((go_at_call 19; exact quietG (iLeadBetween_at _ _ ns ls a b (-1) _ (RP.grw _ xn) (RP.grw _ xl) AB4)))
            repeat (go_big_quiet_step (fail))
            refine wpQuiet_nil ?_
            clear hG
            rintro w7 ⟨⟨_, hb7⟩, rfl⟩
            try dsimp only
            have HST9 := Lib.hid (HST8.out.below hb7)
            clear HST8 HO8 HB8 HP8 HC8 x_0 x_1 y_0 y_1 z_0 z_1 hb7 xn xl yn yl zn zl
            go_wp2
            go_meet
            exact HST9.out
        case rest =>
          have HST := Lib.hid hcut
          clear hcut
          have hbx := HST.out.box
          (have x_0 := hbx.cell 0); (have x_1 := hbx.cell 1); simp only [List.getElem?_toArray, List.getElem?_cons_succ, List.getElem?_cons_zero] at x_0 x_1
          have hXl := hbx.lt
          go_upto_if 98 with (fail)
          go_cut [] from 19 (fun wx => LSt w X wx An cn Al cl ns ls)
          case first =>
            by_cases hl0 : ls.length = 0
            · have hlE : ls = [] := List.eq_nil_of_length_eq_zero hl0
              go_wp2
              go_meet
              exact HST.out
            · have hlp : (0 : Int) < (ls.length : Int) := by omega
              have hlE : ¬ ls = [] := fun h => hl0 (by rw [h]; rfl)
              go_wp2_with fail
              have hS20 : _ ∧ _ := And.intro x_0 x_1
              refine region_D (n := 6) (S := fun w' => w'.cell? ⟨X, 0, none⟩ = some (.slice An ns.length cn) ∧ w'.cell? ⟨X, 1, none⟩ = some (.slice Al ls.length cl)) (by kernel_rfl) hS20 (fun hS => ?_)
              (refine D_take (i := 0) (v := ?_) rfl rfl (by kernel_rfl) (by kernel_rfl) (by kernel_rfl) (by kernel_rfl) (fun _ _ _ h => h) (Or.inl ⟨by rfl, ?_⟩) (by assumption) ?_); rotate_left; (focus (intro w' hSw; (try dsimp only at hSw); go_simp; (try with_reducible rfl))); (try simp only [Act.put, List.setIfInBounds_toArray, List.set_cons_zero, List.set_cons_succ])
              (refine D_take (i := 2) (v := ?_) rfl rfl (by kernel_rfl) (by kernel_rfl) (by kernel_rfl) (by kernel_rfl) (fun _ _ _ h => h) (Or.inl ⟨by rfl, ?_⟩) (by assumption) ?_); rotate_left; (focus (intro w' hSw; (try dsimp only at hSw); go_simp; (try with_reducible rfl))); (try simp only [Act.put, List.setIfInBounds_toArray, List.set_cons_zero, List.set_cons_succ])
              (refine D_take (i := 3) (v := ?_) rfl rfl (by kernel_rfl) (by kernel_rfl) (by kernel_rfl) (by kernel_rfl) (fun _ _ _ h => h) (Or.inl ⟨by rfl, ?_⟩) (by assumption) ?_); rotate_left; (focus (intro w' hSw; (try dsimp only at hSw); go_simp; (try with_reducible rfl))); (try simp only [Act.put, List.setIfInBounds_toArray, List.set_cons_zero, List.set_cons_succ])
              (refine D_take (i := 4) (v := ?_) rfl rfl (by kernel_rfl) (by kernel_rfl) (by kernel_rfl) (by kernel_rfl) (fun _ _ _ h => h) (Or.inl ⟨by rfl, ?_⟩) (by assumption) ?_); rotate_left; (focus (intro w' hSw; (try dsimp only at hSw); go_simp; (try with_reducible rfl))); (try simp only [Act.put, List.setIfInBounds_toArray, List.set_cons_zero, List.set_cons_succ])
              (refine D_step (i := 1) rfl (by kernel_rfl) (fun K hK => ?_)); (rw [if_pos (by rfl)])
              go_simp
              go_at_call 15
              refine (at_any v zs 2 _ (HRB.out.below HST.out.drew.blw) hle (by omega) (by omega)).mono ?_
              rintro e w' ⟨y2, rfl, y20, y21, rfl⟩
              go_wp2_with fail
              refine hK _ _ (fun _ => hS) (fun _ => ?_)
              clear hK K
              (try simp only [Act.put, List.setIfInBounds_toArray, List.set_cons_zero, List.set_cons_succ])
              (refine D_take (i := 5) (v := ?_) rfl rfl (by kernel_rfl) (by kernel_rfl) (by kernel_rfl) (by kernel_rfl) (fun _ _ _ h => h) (Or.inl ⟨by rfl, ?_⟩) (by assumption) ?_); rotate_left; (focus (intro w' hSw; (try dsimp only at hSw); go_simp; (try with_reducible rfl))); (try simp only [Act.put, List.setIfInBounds_toArray, List.set_cons_zero, List.set_cons_succ])
              (refine D_step (i := 6) rfl (by kernel_rfl) (fun K hK => ?_)); (rw [if_pos (by rfl)])
              go_simp
              refine hK _ _ (fun h => absurd rfl h) (fun _ => ?_)
              clear hK K
              (try simp only [Act.put, List.setIfInBounds_toArray, List.set_cons_zero, List.set_cons_succ])
              refine D_done (by kernel_rfl) ?_ _
              have hq0 : 0 ≤ y2 % (ls.length : Int) := Int.emod_nonneg _ (by omega)
              have hq1 : y2 % (ls.length : Int) < (ls.length : Int) := Int.emod_lt_of_pos _ hlp
              have hq2 : y2.tmod (ls.length : Int) = y2 % (ls.length : Int) := Int.tmod_eq_emod_of_nonneg y20
              obtain ⟨k, hk⟩ : ∃ k : Nat, y2.tmod (ls.length : Int) = (k : Int) := ⟨(y2 % (ls.length : Int)).toNat, by rw [hq2, Int.toNat_of_nonneg hq0]⟩
              rw [hk]
              have hkl : k < ls.length := by rw [← hq2, hk] at hq1; omega
              clear hq0 hq1 hq2 hk y20 y21 hS
              obtain ⟨dr1, dr2, dr3, dr4⟩ := drop_back HW.out hkl
              have DR1 := Lib.hid dr1
              have DR2 := Lib.hid dr2
              have DR3 := Lib.hid dr3
              clear dr1 dr2 dr3
              have HT0 := HST
              clear HST
              obtain ⟨Aq, cq, eq, hcq, hmq, hcellq⟩ := HT0.out.own.2.1.reads.form
              obtain ⟨bq, oq, hAq, hbq, hccq⟩ := hcellq (by omega)
              obtain ⟨q0, q1⟩ := hccq k hkl
              cases eq
              subst hAq
              clear hcellq hccq
              have ek : ndI ls k = ls[k] := ndI_lt hkl
              rw [ek] at DR2 DR3
              obtain ⟨fr, hF⟩ : ∃ fr, ls[k].1 = fr := ⟨_, rfl⟩
              obtain ⟨gr, hTo⟩ : ∃ gr, ls[k].2 = gr := ⟨_, rfl⟩
              rw [hF, hTo] at DR2 DR3
              rw [hF] at q0
              rw [hTo] at q1
              clear hF hTo ek
              have k0 : (0 : Int) ≤ (k : Int) := by omega
              have k1 : (k : Int) < (ls.length : Int) := by omega
              go_upto_region 22 with (fail)
              obtain ⟨V1, hV1⟩ : ∃ V1, V1 = (wc.alloc (.cells #[.int .i64 fr, .int .i64 gr] 39)).drew := ⟨_, rfl⟩
              rw [← hV1]
              have HT1 : Hid (LSt w X V1 An cn (some ⟨bq, oq, none⟩) cl ns ls) := Lib.hid (hV1 ▸ (HT0.out.alloc _).drew)
              have HL1 : Hid (Blk V1 wc.heap.size 39 #[.int .i64 fr, .int .i64 gr]) := Lib.hid (hV1 ▸ (Blk.newAt rfl).drew)
              generalize wc.heap.size = Y at *
              clear hV1 HT0 q0 q1 hbq x_0 x_1 hbx hXl
              have hbx := HT1.out.box
              (have x_0 := hbx.cell 0); (have x_1 := hbx.cell 1); simp only [List.getElem?_toArray, List.getElem?_cons_succ, List.getElem?_cons_zero] at x_0 x_1
              go_wp2_with fail
              refine (iDrop_any _ _ ns ls k _ HT1.out.own.1.reads HT1.out.own.2.1.reads (by omega) (by omega)).mono ?_
              rw [DR1.out]
              generalize dropL ns ls k = ds at *
              rintro e V2 ⟨An6, cn6, Al6, cl6, rfl, ho6, hb6⟩
              have HT2 := Lib.hid (HT1.out.below hb6)
              have HL2 := Lib.hid (HL1.out.below hb6 HL1.out.lt)
              clear HT1 HL1 hbx x_0 x_1 hb6
              go_upto_region 23 with (fail)
              obtain ⟨V3, hV3⟩ : ∃ V3, V3 = V2.alloc (.cells #[.slice An6 ns.length cn6, .slice Al6 ds.length cl6] 27) := ⟨_, rfl⟩
              rw [← hV3]
              have HT3 : Hid (LSt w X V3 An cn (some ⟨bq, oq, none⟩) cl ns ls) := Lib.hid (hV3 ▸ HT2.out.alloc _)
              have HL3 : Hid (Blk V3 Y 39 #[.int .i64 fr, .int .i64 gr]) := Lib.hid (hV3 ▸ HL2.out.alloc _)
              have HY3 : Hid (Blk V3 V2.heap.size 27 #[.slice An6 ns.length cn6, .slice Al6 ds.length cl6]) := Lib.hid (hV3 ▸ Blk.newAt rfl)
              have HO3 := Lib.hid (hV3 ▸ ho6.alloc (.cells #[.slice An6 ns.length cn6, .slice Al6 ds.length cl6] 27))
              generalize V2.heap.size = Z at *
              clear hV3 HT2 HL2 ho6
              have hby := HL3.out
              have hbz := HY3.out
              (have y_0 := hby.cell 0); (have y_1 := hby.cell 1); simp only [List.getElem?_toArray, List.getElem?_cons_succ, List.getElem?_cons_zero] at y_0 y_1
              (have z_0 := hbz.cell 0); (have z_1 := hbz.cell 1); simp only [List.getElem?_toArray, List.getElem?_cons_succ, List.getElem?_cons_zero] at z_0 z_1
              have hdl : ds.length ≤ 1048576 := by omega
              go_wp2_with fail
              refine (iAdd_any _ _ ns ds fr gr _ HO3.out.1.reads HO3.out.2.1.reads (by omega) hdl).mono ?_
              rw [DR2.out]
              rintro e V4 ⟨An7, cn7, Al7, cl7, rfl, ho7, hb7⟩
              have HT4 := Lib.hid (HT3.out.below hb7)
              have HL4 := Lib.hid (HL3.out.below hb7 HL3.out.lt)
              clear HT3 HL3 HY3 HO3 hby hbz y_0 y_1 z_0 z_1 hb7
              go_upto_region 24 with (fail)
              obtain ⟨V5, hV5⟩ : ∃ V5, V5 = V4.alloc (.cells #[.slice An7 ns.length cn7, .slice Al7 (addL ns ds fr gr).length cl7] 27) := ⟨_, rfl⟩
              rw [← hV5]
              have HT5 : Hid (LSt w X V5 An cn (some ⟨bq, oq, none⟩) cl ns ls) := Lib.hid (hV5 ▸ HT4.out.alloc _)
              have HL5 : Hid (Blk V5 Y 39 #[.int .i64 fr, .int .i64 gr]) := Lib.hid (hV5 ▸ HL4.out.alloc _)
              clear hV5 HT4 HL4 ho7
              have hbx := HT5.out.box
              have hby := HL5.out
              (have x_0 := hbx.cell 0); (have x_1 := hbx.cell 1); simp only [List.getElem?_toArray, List.getElem?_cons_succ, List.getElem?_cons_zero] at x_0 x_1
              (have y_0 := hby.cell 0); (have y_1 := hby.cell 1); simp only [List.getElem?_toArray, List.getElem?_cons_succ, List.getElem?_cons_zero] at y_0 y_1
              go_wp2_with fail
              refine (iLeadBetween_at _ _ ns ls gr fr k _ HT5.out.own.1.reads HT5.out.own.2.1.reads DR3).mono ?_
              rintro e V6 ⟨rfl, hb8⟩
              have HT6 := Lib.hid (HT5.out.below hb8)
              clear HT5 HL5 hbx hby x_0 x_1 y_0 y_1 hb8
              go_wp2
              go_meet
              exact HT6.out
          case rest =>
            have HST := Lib.hid hcut
            clear hcut
            have hbx := HST.out.box
            (have x_0 := hbx.cell 0); (have x_1 := hbx.cell 1); simp only [List.getElem?_toArray, List.getElem?_cons_succ, List.getElem?_cons_zero] at x_0 x_1
            go_wp2_with fail
            refine (iWinOk_at _ _ ns ls true _ HST.out.own.1.reads HST.out.own.2.1.reads (winB_true.2 HW.out)).mono ?_
            rintro e f1 ⟨rfl, hf1⟩
            have HF1 := Lib.hid (HST.out.below hf1)
            clear hf1 hbx x_0 x_1 HST
            have hby := HF1.out.box
            (have x_0 := hby.cell 0); (have x_1 := hby.cell 1); simp only [List.getElem?_toArray, List.getElem?_cons_succ, List.getElem?_cons_zero] at x_0 x_1
            go_wp2_with fail
            refine (iSample_any _).mono ?_
            rintro e f2 ⟨AnS, cnS, AlS, clS, rfl, hoS, hf2⟩
            have HF2 := Lib.hid (HF1.out.below hf2)
            clear hf2 hby x_0 x_1 HF1
            go_wp2_with fail
            refine (iWinOk_at _ _ sampleN sampleL true _ hoS.1.reads hoS.2.1.reads sample_ok).mono ?_
            rintro e f3 ⟨rfl, hf3⟩
            have HF3 := Lib.hid (HF2.out.below hf3)
            clear hf3 hoS HF2
            go_wp2_with fail
            refine (iSample_any _).mono ?_
            rintro e f4 ⟨AnT, cnT, AlT, clT, rfl, hoT, hf4⟩
            have HF4 := Lib.hid (HF3.out.below hf4)
            clear hf4 hoT HF3
            go_wp2
            go_ret
            exact ⟨rfl, HF4.out.blw⟩

end Go.Proofs.Ytnpdincjekelaaa
