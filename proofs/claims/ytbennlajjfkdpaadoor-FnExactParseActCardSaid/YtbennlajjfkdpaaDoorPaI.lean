/-
  Acts read from texts: the program's side.
-/
import Derived.Test.YtbennlajjfkdpaaDoorPaM
import Derived.Test.YtbennlajjfkdpaaDoorFld
import Derived.Test.YtbennlajjfkdpaaDoorPu
import Derived.Test.YtbennlajjfkdpaaDoorFact
import Derived.BigRegion
import Derived.Deep.DeepCutAuto
set_option linter.unusedSimpArgs false
set_option linter.unusedVariables false
namespace Go.Proofs.YtbennlajjfkdpaaDoor
open Go.RowKit Go.Maps Go.WideMaps

def actV (o : Option (Int × Int × Int)) : Value := match o with
  | none => .agg #[.int .i64 0, .int .i64 0, .int .i64 0]
  | some (k, a, b) => .agg #[.int .i64 k, .int .i64 a, .int .i64 b]
/-- An act, and whether there is one. -/
def RetAc (o : Option (Int × Int × Int)) (w : World) (e : Ending) (w' : World) : Prop := e = .returned (.tuple #[actV o, .bool o.isSome]) ∧ Below w.heap.size w w'

theorem pa_no {s : ByteArray} (h : fldB s = false ∨ (fldL s).length = 0 ∨ 3 < (fldL s).length) : paO s = none := by
  unfold paO
  rw [if_neg]
  rintro ⟨h1, h2, h3⟩
  rcases h with h | h | h
  · rw [h] at h1; cases h1
  · omega
  · omega
theorem paF_miss {P : List ByteArray} {j : Nat} (hj : j = 1 ∨ j = 2) (h : numO P j = none) : paF P = none := by
  unfold paF
  rcases hj with rfl | rfl
  · rw [h]; rfl
  · cases numO P 1 with
    | none => rfl
    | some a => rw [h]; rfl

set_option maxHeartbeats 16000000 in
set_option maxRecDepth 100000 in
theorem iPa_any (s : ByteArray) (w : World) (ht : TabW w) (hs : s.size ≤ 1048576) : Calls Tryd.prog 6 #[.string s] w (RetAc (paO s) w) := by
  have hb0 : Below w.heap.size w (w.alloc (.cells #[.int .i64 0, .int .i64 0, .int .i64 0] 23)) := (Below.refl _ _).alloc (Nat.le_refl _) _
  have hR0 : Blk (w.alloc (.cells #[.int .i64 0, .int .i64 0, .int .i64 0] 23)) w.heap.size 23 #[.int .i64 0, .int .i64 0, .int .i64 0] := Blk.newAt rfl
  have hmm := @run_makeMap Tryd.prog
  go_enter Tryd.func6, Tryd.ntmps6
  go_wp2_with fail
  obtain ⟨w0, hw0⟩ : ∃ q, q = w.alloc (.cells #[.int .i64 0, .int .i64 0, .int .i64 0] 23) := ⟨_, rfl⟩
  rw [← hw0] at hb0 hR0 ⊢
  clear hw0
  refine (iFld_any s w0).mono ?_
  rintro e w1 ⟨v, rfl, ho, hb1⟩
  have hR1 := hR0.below hb1 hR0.lt
  have hbw1 := hb0.trans (hb1.mono hb0.size)
  have hlt := hR0.lt
  have hz1 := hb1.size
  clear hb0 hR0
  cases hB : fldB s
  · have HU := Lib.hid (pa_no (.inl hB))
    obtain ⟨r_0, r_1, r_2, r_f0, r_f1, r_f2⟩ := hR1.b3
    have hRl := hR1.lt
    have hbf : ∀ u0 u1 u2 : Value, Below w.heap.size w (((w1.setCell ⟨w.heap.size, 0, none⟩ u0).setCell ⟨w.heap.size, 1, none⟩ u1).setCell ⟨w.heap.size, 2, none⟩ u2) := fun u0 u1 u2 => ((hbw1.setCell (p := ⟨w.heap.size, 0, none⟩) (Nat.le_refl _) u0).setCell (p := ⟨w.heap.size, 1, none⟩) (Nat.le_refl _) u1).setCell (p := ⟨w.heap.size, 2, none⟩) (Nat.le_refl _) u2
    have HBF := Lib.hid hbf
    clear hbf hbw1 ho hR1 hb1
    go_wp2
    exact bodyPost_ret (v := .tuple #[.agg #[.int .i64 0, .int .i64 0, .int .i64 0], .bool false]) (by simp [results, Tryd.results6, go_sem, r_0, r_1, r_2, hRl]) rfl ⟨by rw [HU.out]; rfl, HBF.out _ _ _⟩
  · have HO := Lib.hid (ho hB)
    clear ho
    obtain ⟨P, hP⟩ : ∃ P, fldL s = P := ⟨_, rfl⟩
    have HPA : Hid (1 ≤ P.length → P.length ≤ 3 → paO s = paF P) := Lib.hid (fun h1 h2 => by unfold paO; rw [hP, if_pos ⟨hB, h1, h2⟩])
    have HN0 : Hid (P.length = 0 ∨ 3 < P.length → paO s = none) := Lib.hid (fun h => pa_no (.inr (by rw [hP]; exact h)))
    have HWS : Hid (WordsOk (P.map bsL)) := Lib.hid (by rw [← hP]; exact fldL_ok s)
    have HWD : Hid (∀ x, x ∈ P → x.size ≤ 1048576) := Lib.hid (fun x hx => by rw [← hP] at hx; exact Nat.le_trans (fld_word hx) hs)
    have HSP : Hid ((spcB (P.map bsL)).length ≤ 1048576) := Lib.hid (by rw [← hP]; exact Nat.le_trans (fld_spc s) hs)
    rw [hP] at HO
    clear hP
    obtain ⟨A, c, hv⟩ := HO.out.slice
    subst hv
    by_cases h0 : P.length = 0
    · have HU := Lib.hid (HN0.out (.inl h0))
      have e1 : ((P.length : Int) == 0) = true := by rw [beq_iff_eq]; omega
      obtain ⟨r_0, r_1, r_2, r_f0, r_f1, r_f2⟩ := hR1.b3
      have hRl := hR1.lt
      have hbf : ∀ u0 u1 u2 : Value, Below w.heap.size w (((w1.setCell ⟨w.heap.size, 0, none⟩ u0).setCell ⟨w.heap.size, 1, none⟩ u1).setCell ⟨w.heap.size, 2, none⟩ u2) := fun u0 u1 u2 => ((hbw1.setCell (p := ⟨w.heap.size, 0, none⟩) (Nat.le_refl _) u0).setCell (p := ⟨w.heap.size, 1, none⟩) (Nat.le_refl _) u1).setCell (p := ⟨w.heap.size, 2, none⟩) (Nat.le_refl _) u2
      have HBF := Lib.hid hbf
      clear hbf hbw1 HO hR1 hb1 h0
      generalize P.length = n at *
      go_wp2
      exact bodyPost_ret (v := .tuple #[.agg #[.int .i64 0, .int .i64 0, .int .i64 0], .bool false]) (by simp [results, Tryd.results6, go_sem, r_0, r_1, r_2, hRl]) rfl ⟨by rw [HU.out]; rfl, HBF.out _ _ _⟩
    · have e1 : ((P.length : Int) == 0) = false := by rw [beq_eq_false_iff_ne]; omega
      by_cases h3 : 3 < P.length
      · have HU := Lib.hid (HN0.out (.inr h3))
        have e2 : (3 : Int) < (P.length : Int) := by omega
        obtain ⟨r_0, r_1, r_2, r_f0, r_f1, r_f2⟩ := hR1.b3
        have hRl := hR1.lt
        have hbf : ∀ u0 u1 u2 : Value, Below w.heap.size w (((w1.setCell ⟨w.heap.size, 0, none⟩ u0).setCell ⟨w.heap.size, 1, none⟩ u1).setCell ⟨w.heap.size, 2, none⟩ u2) := fun u0 u1 u2 => ((hbw1.setCell (p := ⟨w.heap.size, 0, none⟩) (Nat.le_refl _) u0).setCell (p := ⟨w.heap.size, 1, none⟩) (Nat.le_refl _) u1).setCell (p := ⟨w.heap.size, 2, none⟩) (Nat.le_refl _) u2
        have HBF := Lib.hid hbf
        clear hbf hbw1 HO hR1 hb1 h0 h3
        generalize P.length = n at *
        go_wp2
        exact bodyPost_ret (v := .tuple #[.agg #[.int .i64 0, .int .i64 0, .int .i64 0], .bool false]) (by simp [results, Tryd.results6, go_sem, r_0, r_1, r_2, hRl]) rfl ⟨by rw [HU.out]; rfl, HBF.out _ _ _⟩
      · have e2 : ¬ (3 : Int) < (P.length : Int) := by omega
        have HPF := Lib.hid (HPA.out (by omega) (by omega))
        clear HPA HN0
        rcases HO.out.2 with ⟨hv, hn0⟩ | ⟨g, cap, cur, hv, hgb, hgh, hnc, hcm, hcs, htk⟩
        · exact absurd (by simpa using hn0) h0
        · have hca : A = some ⟨g, 0, none⟩ ∧ c = cap := by
            injection hv with q1 q2 q3
            exact ⟨q1, q3⟩
          obtain ⟨rfl, rfl⟩ := hca
          have HCL : Hid (∀ j x, P[j]? = some x → w1.cell? ⟨g, j, none⟩ = some (.string x)) := Lib.hid (fun j x hx => by
            have := World.ownsRow.cells HO.out (g := g) rfl j (.string x) (by rw [List.getElem?_map, hx]; rfl)
            rwa [Addr.add_lit, Nat.zero_add] at this)
          have hgl := (HO.out.lt g rfl).2
          have hnc' : P.length ≤ c := by simpa using hnc
          clear hv htk hcs hgh hnc
          have hsl0 : (c = 1 ∧ P.length = 1) ∨ (¬ c = 1) := by
            by_cases h9 : c = 1
            · exact .inl ⟨h9, by omega⟩
            · exact .inr h9
          have n1 : (1 : Int) ≤ (P.length : Int) := by omega
          have n2 : (P.length : Int) ≤ (c : Int) := by omega
          have hb2 : Below w1.heap.size w1 (w1.alloc (.cells #[.int .i64 0, .int .i64 0] 44)) := (Below.refl _ _).alloc (Nat.le_refl _) _
          have hN2 : Blk (w1.alloc (.cells #[.int .i64 0, .int .i64 0] 44)) w1.heap.size 44 #[.int .i64 0, .int .i64 0] := Blk.newAt rfl
          have HB2 := Lib.hid hb2
          have HN2 := Lib.hid hN2
          clear hb2 hN2
          have hRN : w.heap.size < w1.heap.size := hR1.lt
          rcases hsl0 with ⟨hc1, hn1⟩ | hc1
          · go_wp2
            go_loopw [36] (fun i wr => ∃ j a b : Nat, j ≤ P.length - 1 ∧ i = .int .i64 j ∧ Blk wr w1.heap.size 44 #[.int .i64 a, .int .i64 b] ∧ Hid ((if 1 ≤ j then uintN (P.getD 1 ⟨#[]⟩) else some 0) = some a ∧ (if 2 ≤ j then uintN (P.getD 2 ⟨#[]⟩) else some 0) = some b) ∧ Below w1.heap.size w1 wr) (fun i _ => P.length - (intOf i).toNat)
            case atStart => exact ⟨0, 0, 0, Nat.zero_le _, rfl, HN2.out, Lib.hid ⟨rfl, rfl⟩, HB2.out⟩
            case round =>
              clear HN2 HB2
              obtain ⟨j, a, b, hj, rfl, hN, hab, hbl⟩ := hrel
              have hsz := hbl.size
              have hbw := hbw1.trans (hbl.mono hbw1.size)
              have hR := hR1.below hbl hR1.lt
              by_cases hlt : j < P.length - 1
              · exfalso; omega
              · have c1 : ¬ (j : Int) < ((P.length - 1 : Nat) : Int) := by omega
                have HA1 : Hid (numO P 1 = some a ∧ numO P 2 = some b) := Lib.hid (by
                  have h9 := hab.out.1
                  have h8 := hab.out.2
                  unfold numO
                  constructor
                  · by_cases h7 : 1 < P.length
                    · rw [if_pos (by omega)] at h9; rw [if_pos h7]; exact h9
                    · rw [if_neg (by omega)] at h9; rw [if_neg h7]; exact h9
                  · by_cases h7 : 2 < P.length
                    · rw [if_pos (by omega)] at h8; rw [if_pos h7]; exact h8
                    · rw [if_neg (by omega)] at h8; rw [if_neg h7]; exact h8)
                obtain ⟨x, hx⟩ : ∃ x, P[0]? = some x := ⟨_, List.getElem?_eq_getElem (by omega)⟩
                have hgx : P.getD 0 ⟨#[]⟩ = x := by rw [List.getD_eq_getElem?_getD, hx]; rfl
                have HPV : Hid (paO s = paG P a b) := Lib.hid (by rw [HPF.out]; unfold paF; rw [HA1.out.1, HA1.out.2]; rfl)
                obtain ⟨kd, hkd⟩ : ∃ k, kindN (bsL x) = k := ⟨_, rfl⟩
                have HGV : Hid (paG P a b = if actB kd a b = true ∧ spcB (P.map bsL) = bsL (actS kd a b) then some (kd, (a : Int), (b : Int)) else none) := Lib.hid (by unfold paG; rw [hgx, hkd])
                have HKD := Lib.hid hkd
                have hgr : g < wr.heap.size := Nat.lt_of_lt_of_le hgl hsz
                have hown0 : (wr.alloc (.map #[] 0)).ownsMap Tryd.prog 9 (plainElem (H := Unit) Tryd.prog 3) wr.heap.size 0 (.map []) := World.ownsMap_made _ _ _ _
                have hNl := hN.lt
                have hM0 : (wr.alloc (.map #[] 0)).grownBy (wr.alloc (.map #[] 0)) (some wr.heap.size) := World.grownBy.refl _ _
                have HX := Lib.hid hx
                have hxm : x.size ≤ maxLen := by
                  have := HWD.out x (List.mem_of_getElem? hx)
                  unfold maxLen
                  omega
                clear hab hx hgx hkd
                obtain ⟨m1, hrun1, hown1, hg1⟩ := hown0.update lawS Tryd.underlying47 (by unfold maxLen; omega) (keyOf_string_mk Tryd.underlying9 (s := ⟨#[97, 100, 100]⟩) (by decide)) (plainElem_int Tryd.underlying3 (WalkArith.wf_i64 (n := 1) (by omega)))
                have hM1 := grownBy_trans hM0 hg1
                clear hown0 hM0 hg1
                obtain ⟨m2, hrun2, hown2, hg2⟩ := hown1.update lawS Tryd.underlying47 (by unfold maxLen; omega) (keyOf_string_mk Tryd.underlying9 (s := ⟨#[100, 114, 111, 112]⟩) (by decide)) (plainElem_int Tryd.underlying3 (WalkArith.wf_i64 (n := 2) (by omega)))
                have hM2 := grownBy_trans hM1 hg2
                clear hown1 hM1 hg2
                obtain ⟨m3, hrun3, hown3, hg3⟩ := hown2.update lawS Tryd.underlying47 (by unfold maxLen; omega) (keyOf_string_mk Tryd.underlying9 (s := ⟨#[106, 111, 105, 110]⟩) (by decide)) (plainElem_int Tryd.underlying3 (WalkArith.wf_i64 (n := 3) (by omega)))
                have hM3 := grownBy_trans hM2 hg3
                clear hown2 hM2 hg3
                obtain ⟨m4, hrun4, hown4, hg4⟩ := hown3.update lawS Tryd.underlying47 (by unfold maxLen; omega) (keyOf_string_mk Tryd.underlying9 (s := ⟨#[117, 110, 100, 111]⟩) (by decide)) (plainElem_int Tryd.underlying3 (WalkArith.wf_i64 (n := 4) (by omega)))
                have hM4 := grownBy_trans hM3 hg4
                clear hown3 hM3 hg4
                obtain ⟨m5, hrun5, hown5, hg5⟩ := hown4.update lawS Tryd.underlying47 (by unfold maxLen; omega) (keyOf_string_mk Tryd.underlying9 (s := ⟨#[99, 111, 108, 111, 114]⟩) (by decide)) (plainElem_int Tryd.underlying3 (WalkArith.wf_i64 (n := 5) (by omega)))
                have hM5 := grownBy_trans hM4 hg5
                clear hown4 hM4 hg5
                obtain ⟨m6, hrun6, hown6, hg6⟩ := hown5.update lawS Tryd.underlying47 (by unfold maxLen; omega) (keyOf_string_mk Tryd.underlying9 (s := ⟨#[115, 119, 97, 112]⟩) (by decide)) (plainElem_int Tryd.underlying3 (WalkArith.wf_i64 (n := 6) (by omega)))
                have hM6 := grownBy_trans hM5 hg6
                clear hown5 hM5 hg6
                obtain ⟨m7, hrun7, hown7, hg7⟩ := hown6.update lawS Tryd.underlying47 (by unfold maxLen; omega) (keyOf_string_mk Tryd.underlying9 (s := ⟨#[115, 116, 111, 114, 101]⟩) (by decide)) (plainElem_int Tryd.underlying3 (WalkArith.wf_i64 (n := 7) (by omega)))
                have hM7 := grownBy_trans hM6 hg7
                clear hown6 hM6 hg7
                obtain ⟨m8, hrun8, hown8, hg8⟩ := hown7.update lawS Tryd.underlying47 (by unfold maxLen; omega) (keyOf_string_mk Tryd.underlying9 (s := ⟨#[102, 101, 116, 99, 104]⟩) (by decide)) (plainElem_int Tryd.underlying3 (WalkArith.wf_i64 (n := 8) (by omega)))
                have hM8 := grownBy_trans hM7 hg8
                clear hown7 hM7 hg8
                obtain ⟨m9, hrun9, hown9, hg9⟩ := hown8.update lawS Tryd.underlying47 (by unfold maxLen; omega) (keyOf_string_mk Tryd.underlying9 (s := ⟨#[112, 97, 110, 101, 115]⟩) (by decide)) (plainElem_int Tryd.underlying3 (WalkArith.wf_i64 (n := 9) (by omega)))
                have hM9 := grownBy_trans hM8 hg9
                clear hown8 hM8 hg9
                have hbm : Below w1.heap.size w1 m9 := (hbl.alloc hsz (.map #[] 0)).grown hM9 (by simp; omega) (fun k hk => by cases hk; exact hsz)
                have hN9 := (hN.alloc (.map #[] 0)).grown hM9 (by omega)
                have q0 : m9.cell? ⟨g, 0, none⟩ = some (.string x) := (hbm.cell (p := ⟨g, 0, none⟩) hgl).trans (HCL.out 0 x HX.out)
                have hbd : Below m9.heap.size m9 m9.drew := (Below.refl _ _).drew
                have hbe : Below m9.heap.size m9 (m9.alloc (.cells #[.int .i64 0, .int .i64 0, .int .i64 0] 23)).drew := ((Below.refl _ _).alloc (Nat.le_refl _) _).drew
                obtain ⟨cc, hlk, hat, _⟩ := (ownsMap_below hown9 hbd).lookup_int lawS Tryd.underlying47 Tryd.underlying3 (zeroI _) (keyOf_string_mk Tryd.underlying9 (s := x) hxm)
                obtain ⟨ce, hle2, hae, _⟩ := (ownsMap_below hown9 hbe).lookup_int lawS Tryd.underlying47 Tryd.underlying3 (zeroI _) (keyOf_string_mk Tryd.underlying9 (s := x) hxm)
                have hcc : cc = kd := by
                  have h9 : kd9.atKey (.string (bsL x)) (.lit (.int .i64 0)) = .lit (.int .i64 cc) := hat
                  rw [kind_at, HKD.out] at h9
                  injection h9 with h9
                  injection h9 with h9 h8
                  exact h8.symm
                have hce : ce = kd := by
                  have h9 : kd9.atKey (.string (bsL x)) (.lit (.int .i64 0)) = .lit (.int .i64 ce) := hae
                  rw [kind_at, HKD.out] at h9
                  injection h9 with h9
                  injection h9 with h9 h8
                  exact h8.symm
                subst hcc
                subst hce
                have hgm : g < m9.heap.size := Nat.lt_of_lt_of_le hgl hbm.size
                clear hat hae hown9 hM9 hN hbl hbw hR hbd hbe
                obtain ⟨n_0, n_1⟩ := hN9.c2
                have nl := hN9.lt
                go_wp2_with fail
                go_cut [12] (fun sl wx => ∃ y : Nat, sl = .pointer (some ⟨y, 0, none⟩) ∧ Blk wx y 23 #[.int .i64 ce, .int .i64 (a : Int), .int .i64 (b : Int)] ∧ Below m9.heap.size m9 wx)
                case first =>
                  go_region
                  all_goals go_wp2
                  all_goals go_meet
                  all_goals exact ⟨_, rfl, (Blk.newAt rfl).drew, ((Below.refl _ _).alloc (Nat.le_refl _) _).drew⟩
                case rest =>
                  obtain ⟨y, rfl, hY, hby⟩ := hcut
                  obtain ⟨w2, hw2⟩ : ∃ u : World, u = wc := ⟨_, rfl⟩
                  subst hw2
                  have hbm2 : Below w1.heap.size w1 w2 := hbm.trans (hby.mono hbm.size)
                  have hbw2 := hbw1.trans (hbm2.mono hbw1.size)
                  have hR2 := hR1.below hbm2 hR1.lt
                  clear n_0 n_1 nl q0 hgm hby hbm hN9 hlk hle2
                  obtain ⟨y_0, y_1, y_2⟩ := hY.c3
                  have ylt := hY.lt
                  go_wp2_with fail
                  refine (iFact_any ce a b w2).mono ?_
                  rintro e w3 ⟨rfl, hb3⟩
                  have hR3 := hR2.below hb3 hR2.lt
                  have hY3 := hY.below hb3 hY.lt
                  have hbw3 := hbw2.trans (hb3.mono hbw2.size)
                  have HO3 : Hid (OwnS w0.heap.size w3 (.slice (some ⟨g, 0, none⟩) 1 1) P) := Lib.hid (by have h9 := HO.out.kept (hbm2.trans (hb3.mono hbm2.size)); rw [hn1, hc1] at h9; exact h9)
                  clear y_0 y_1 y_2 ylt hY hR2 hbw2
                  obtain ⟨T, hT⟩ : ∃ T, actS ce a b = T := ⟨_, rfl⟩
                  have HGT : Hid (paO s = if actB ce a b = true ∧ spcB (P.map bsL) = bsL T then some (ce, (a : Int), (b : Int)) else none) := Lib.hid (by rw [HPV.out, HGV.out, hT])
                  rw [hT]
                  clear hT HGV HPV
                  cases hac : actB ce a b
                  · have HU : Hid (paO s = none) := Lib.hid (by rw [HGT.out, if_neg (fun h => by rw [hac] at h; cases h.1)])
                    obtain ⟨r_0, r_1, r_2, r_f0, r_f1, r_f2⟩ := hR3.b3
                    have hRl := hR3.lt
                    have HBF := Lib.hid (fun u0 u1 u2 : Value => ((hbw3.setCell (p := ⟨w.heap.size, 0, none⟩) (Nat.le_refl _) u0).setCell (p := ⟨w.heap.size, 1, none⟩) (Nat.le_refl _) u1).setCell (p := ⟨w.heap.size, 2, none⟩) (Nat.le_refl _) u2)
                    clear hbw3 hb3 hR3 hY3 hac
                    go_wp2
                    exact bodyPost_ret (v := .tuple #[.agg #[.int .i64 0, .int .i64 0, .int .i64 0], .bool false]) (by simp [results, Tryd.results6, go_sem, r_0, r_1, r_2, hRl]) rfl ⟨by rw [HU.out]; rfl, HBF.out _ _ _⟩
                  · obtain ⟨J, hJ⟩ : ∃ J : ByteArray, (⟨(spcB (P.map bsL)).toArray⟩ : ByteArray) = J := ⟨_, rfl⟩
                    have HJ1 : Hid (bj P = J.data.toList) := Lib.hid (by rw [← hJ]; unfold bj; exact join_bj _)
                    have HJ2 : Hid (J.size ≤ 1048576) := Lib.hid (by have h9 := HSP.out; rw [← hJ]; simpa [ByteArray.size] using h9)
                    have HJ3 : Hid (((T.toList == J.toList) = true) ↔ spcB (P.map bsL) = bsL T) := Lib.hid (by rw [beq_iff_eq, ByteArray.toList_eq, ← hJ, ByteArray.toList_mk]; exact eq_comm)
                    clear hJ
                    have hpos : 0 < P.length := by omega
                    have hln : P.length ≤ 1048576 := by omega
                    go_wp2_with fail
                    refine (join_own J HO3.out hpos hln HJ1.out HJ2.out).mono ?_
                    rintro e w4 ⟨rfl, hb4⟩
                    have hR4 := hR3.below hb4 hR3.lt
                    have hY4 := hY3.below hb4 hY3.lt
                    have hbw4 := hbw3.trans (hb4.mono hbw3.size)
                    obtain ⟨r_0, r_1, r_2, r_f0, r_f1, r_f2⟩ := hR4.b3
                    have hRl := hR4.lt
                    obtain ⟨y_0, y_1, y_2⟩ := hY4.c3
                    have ylt := hY4.lt
                    have HBF := Lib.hid (fun u0 u1 u2 : Value => ((hbw4.setCell (p := ⟨w.heap.size, 0, none⟩) (Nat.le_refl _) u0).setCell (p := ⟨w.heap.size, 1, none⟩) (Nat.le_refl _) u1).setCell (p := ⟨w.heap.size, 2, none⟩) (Nat.le_refl _) u2)
                    clear hbw3 hb3 hR3 hY3 hb4 hR4 hY4 hbw4
                    by_cases hq : spcB (P.map bsL) = bsL T
                    · have HU : Hid (paO s = some (ce, (a : Int), (b : Int))) := Lib.hid (by rw [HGT.out, if_pos ⟨hac, hq⟩])
                      have e3 : (T.toList == J.toList) = true := HJ3.out.2 hq
                      clear hq hac
                      go_wp2
                      exact bodyPost_ret (v := .tuple #[.agg #[.int .i64 ce, .int .i64 (a : Int), .int .i64 (b : Int)], .bool true]) (by simp [results, Tryd.results6, go_sem, r_0, r_1, r_2, hRl]) rfl ⟨by rw [HU.out]; rfl, HBF.out _ _ _⟩
                    · have HU : Hid (paO s = none) := Lib.hid (by rw [HGT.out, if_neg (fun h => hq h.2)])
                      have e3 : (T.toList == J.toList) = false := by
                        cases h9 : (T.toList == J.toList)
                        · rfl
                        · exact absurd (HJ3.out.1 h9) hq
                      clear hq hac
                      go_wp2
                      exact bodyPost_ret (v := .tuple #[.agg #[.int .i64 0, .int .i64 0, .int .i64 0], .bool false]) (by simp [results, Tryd.results6, go_sem, r_0, r_1, r_2, hRl]) rfl ⟨by rw [HU.out]; rfl, HBF.out _ _ _⟩
          · go_wp2
            go_loopw [36] (fun i wr => ∃ j a b : Nat, j ≤ P.length - 1 ∧ i = .int .i64 j ∧ Blk wr w1.heap.size 44 #[.int .i64 a, .int .i64 b] ∧ Hid ((if 1 ≤ j then uintN (P.getD 1 ⟨#[]⟩) else some 0) = some a ∧ (if 2 ≤ j then uintN (P.getD 2 ⟨#[]⟩) else some 0) = some b) ∧ Below w1.heap.size w1 wr) (fun i _ => P.length - (intOf i).toNat)
            case atStart => exact ⟨0, 0, 0, Nat.zero_le _, rfl, HN2.out, Lib.hid ⟨rfl, rfl⟩, HB2.out⟩
            case round =>
              clear HN2 HB2
              obtain ⟨j, a, b, hj, rfl, hN, hab, hbl⟩ := hrel
              have hsz := hbl.size
              have hbw := hbw1.trans (hbl.mono hbw1.size)
              have hR := hR1.below hbl hR1.lt
              by_cases hlt : j < P.length - 1
              · obtain ⟨x, hx⟩ : ∃ x, P[j + 1]? = some x := ⟨_, List.getElem?_eq_getElem (by omega)⟩
                have hgr : g < wr.heap.size := Nat.lt_of_lt_of_le hgl hsz
                have HT := Lib.hid (TabW.below ht hbw)
                have hj1 : j = 0 ∨ j = 1 := by omega
                rcases hj1 with rfl | rfl
                · have q0 : wr.cell? ⟨g, 1, none⟩ = some (.string x) := (hbl.cell (p := ⟨g, 1, none⟩) hgl).trans (HCL.out 1 x hx)
                  have hgx : P.getD 1 ⟨#[]⟩ = x := by rw [List.getD_eq_getElem?_getD, hx]; rfl
                  have c1 : (0 : Int) < ((P.length - 1 : Nat) : Int) := by omega
                  have HC := Lib.hid (iPu_any x wr HT.out)
                  unfold RetU at HC
                  cases hq : uintN x with
                  | none =>
                    have HU : Hid (paO s = none) := Lib.hid (by
                      rw [HPF.out]
                      refine paF_miss (j := 1) (by omega) ?_
                      unfold numO
                      rw [if_pos (by omega), hgx, hq])
                    rw [hq] at HC
                    clear hq hgx hx hab hN
                    go_wp2_with fail
                    refine HC.out.mono ?_
                    rintro e w3 ⟨rfl, hb3⟩
                    have hR3 := hR.below hb3 hR.lt
                    have hbw3 := hbw.trans (hb3.mono hbw.size)
                    obtain ⟨r_0, r_1, r_2, r_f0, r_f1, r_f2⟩ := hR3.b3
                    have hRl := hR3.lt
                    have HBF := Lib.hid (fun u0 u1 u2 : Value => ((hbw3.setCell (p := ⟨w.heap.size, 0, none⟩) (Nat.le_refl _) u0).setCell (p := ⟨w.heap.size, 1, none⟩) (Nat.le_refl _) u1).setCell (p := ⟨w.heap.size, 2, none⟩) (Nat.le_refl _) u2)
                    clear hbw3 hb3 hR3 q0 hbl hbw hR
                    go_wp2
                    exact bodyPost_ret (v := .tuple #[.agg #[.int .i64 0, .int .i64 0, .int .i64 0], .bool false]) (by simp [results, Tryd.results6, go_sem, r_0, r_1, r_2, hRl]) rfl ⟨by rw [HU.out]; rfl, HBF.out _ _ _⟩
                  | some m =>
                    have HAB : Hid ((if 1 ≤ 1 then uintN (P.getD 1 ⟨#[]⟩) else some 0) = some m ∧ (if 2 ≤ 1 then uintN (P.getD 2 ⟨#[]⟩) else some 0) = some b) := Lib.hid ⟨(by rw [if_pos (by omega)]; exact hgx ▸ hq), by rw [if_neg (by omega)]; have h9 := hab.out.2; rw [if_neg (by omega)] at h9; exact h9⟩
                    rw [hq] at HC
                    clear hq hgx hx hab
                    go_wp2_with fail
                    refine HC.out.mono ?_
                    rintro e w3 ⟨rfl, hb3⟩
                    have hN3 := hN.below hb3 hN.lt
                    have hbl3 := hbl.trans (hb3.mono hbl.size)
                    have hNl := hN3.lt
                    have HNS := Lib.hid (hN3.set_ 0 (.int .i64 (m : Int)))
                    have HBS := Lib.hid (hbl3.setCell (p := ⟨w1.heap.size, 0, none⟩) (Nat.le_refl _) (.int .i64 (m : Int)))
                    obtain ⟨n_0, n_1, n_f0, n_f1⟩ := hN3.b2
                    clear hb3 hN hbl hbw hR hbl3 hN3 q0
                    go_wp2
                    go_roundw
                    case rel => exact ⟨1, m, b, by omega, by go_num, HNS.out, HAB, HBS.out⟩
                    case measure => simp [intOf]; omega
                · have q0 : wr.cell? ⟨g, 2, none⟩ = some (.string x) := (hbl.cell (p := ⟨g, 2, none⟩) hgl).trans (HCL.out 2 x hx)
                  have hgx : P.getD 2 ⟨#[]⟩ = x := by rw [List.getD_eq_getElem?_getD, hx]; rfl
                  have c1 : (1 : Int) < ((P.length - 1 : Nat) : Int) := by omega
                  have HC := Lib.hid (iPu_any x wr HT.out)
                  unfold RetU at HC
                  cases hq : uintN x with
                  | none =>
                    have HU : Hid (paO s = none) := Lib.hid (by
                      rw [HPF.out]
                      refine paF_miss (j := 2) (by omega) ?_
                      unfold numO
                      rw [if_pos (by omega), hgx, hq])
                    rw [hq] at HC
                    clear hq hgx hx hab hN
                    go_wp2_with fail
                    refine HC.out.mono ?_
                    rintro e w3 ⟨rfl, hb3⟩
                    have hR3 := hR.below hb3 hR.lt
                    have hbw3 := hbw.trans (hb3.mono hbw.size)
                    obtain ⟨r_0, r_1, r_2, r_f0, r_f1, r_f2⟩ := hR3.b3
                    have hRl := hR3.lt
                    have HBF := Lib.hid (fun u0 u1 u2 : Value => ((hbw3.setCell (p := ⟨w.heap.size, 0, none⟩) (Nat.le_refl _) u0).setCell (p := ⟨w.heap.size, 1, none⟩) (Nat.le_refl _) u1).setCell (p := ⟨w.heap.size, 2, none⟩) (Nat.le_refl _) u2)
                    clear hbw3 hb3 hR3 q0 hbl hbw hR
                    go_wp2
                    exact bodyPost_ret (v := .tuple #[.agg #[.int .i64 0, .int .i64 0, .int .i64 0], .bool false]) (by simp [results, Tryd.results6, go_sem, r_0, r_1, r_2, hRl]) rfl ⟨by rw [HU.out]; rfl, HBF.out _ _ _⟩
                  | some m =>
                    have HAB : Hid ((if 1 ≤ 2 then uintN (P.getD 1 ⟨#[]⟩) else some 0) = some a ∧ (if 2 ≤ 2 then uintN (P.getD 2 ⟨#[]⟩) else some 0) = some m) := Lib.hid ⟨(by have h9 := hab.out.1; rw [if_pos (by omega)] at h9 ⊢; exact h9), by rw [if_pos (by omega)]; exact hgx ▸ hq⟩
                    rw [hq] at HC
                    clear hq hgx hx hab
                    go_wp2_with fail
                    refine HC.out.mono ?_
                    rintro e w3 ⟨rfl, hb3⟩
                    have hN3 := hN.below hb3 hN.lt
                    have hbl3 := hbl.trans (hb3.mono hbl.size)
                    have hNl := hN3.lt
                    have HNS := Lib.hid (hN3.set_ 1 (.int .i64 (m : Int)))
                    have HBS := Lib.hid (hbl3.setCell (p := ⟨w1.heap.size, 1, none⟩) (Nat.le_refl _) (.int .i64 (m : Int)))
                    obtain ⟨n_0, n_1, n_f0, n_f1⟩ := hN3.b2
                    clear hb3 hN hbl hbw hR hbl3 hN3 q0
                    go_wp2
                    go_roundw
                    case rel => exact ⟨2, a, m, by omega, by go_num, HNS.out, HAB, HBS.out⟩
                    case measure => simp [intOf]; omega
              · have c1 : ¬ (j : Int) < ((P.length - 1 : Nat) : Int) := by omega
                have HA1 : Hid (numO P 1 = some a ∧ numO P 2 = some b) := Lib.hid (by
                  have h9 := hab.out.1
                  have h8 := hab.out.2
                  unfold numO
                  constructor
                  · by_cases h7 : 1 < P.length
                    · rw [if_pos (by omega)] at h9; rw [if_pos h7]; exact h9
                    · rw [if_neg (by omega)] at h9; rw [if_neg h7]; exact h9
                  · by_cases h7 : 2 < P.length
                    · rw [if_pos (by omega)] at h8; rw [if_pos h7]; exact h8
                    · rw [if_neg (by omega)] at h8; rw [if_neg h7]; exact h8)
                obtain ⟨x, hx⟩ : ∃ x, P[0]? = some x := ⟨_, List.getElem?_eq_getElem (by omega)⟩
                have hgx : P.getD 0 ⟨#[]⟩ = x := by rw [List.getD_eq_getElem?_getD, hx]; rfl
                have HPV : Hid (paO s = paG P a b) := Lib.hid (by rw [HPF.out]; unfold paF; rw [HA1.out.1, HA1.out.2]; rfl)
                obtain ⟨kd, hkd⟩ : ∃ k, kindN (bsL x) = k := ⟨_, rfl⟩
                have HGV : Hid (paG P a b = if actB kd a b = true ∧ spcB (P.map bsL) = bsL (actS kd a b) then some (kd, (a : Int), (b : Int)) else none) := Lib.hid (by unfold paG; rw [hgx, hkd])
                have HKD := Lib.hid hkd
                have hgr : g < wr.heap.size := Nat.lt_of_lt_of_le hgl hsz
                have hown0 : (wr.alloc (.map #[] 0)).ownsMap Tryd.prog 9 (plainElem (H := Unit) Tryd.prog 3) wr.heap.size 0 (.map []) := World.ownsMap_made _ _ _ _
                have hNl := hN.lt
                have hM0 : (wr.alloc (.map #[] 0)).grownBy (wr.alloc (.map #[] 0)) (some wr.heap.size) := World.grownBy.refl _ _
                have HX := Lib.hid hx
                have hxm : x.size ≤ maxLen := by
                  have := HWD.out x (List.mem_of_getElem? hx)
                  unfold maxLen
                  omega
                clear hab hx hgx hkd
                obtain ⟨m1, hrun1, hown1, hg1⟩ := hown0.update lawS Tryd.underlying47 (by unfold maxLen; omega) (keyOf_string_mk Tryd.underlying9 (s := ⟨#[97, 100, 100]⟩) (by decide)) (plainElem_int Tryd.underlying3 (WalkArith.wf_i64 (n := 1) (by omega)))
                have hM1 := grownBy_trans hM0 hg1
                clear hown0 hM0 hg1
                obtain ⟨m2, hrun2, hown2, hg2⟩ := hown1.update lawS Tryd.underlying47 (by unfold maxLen; omega) (keyOf_string_mk Tryd.underlying9 (s := ⟨#[100, 114, 111, 112]⟩) (by decide)) (plainElem_int Tryd.underlying3 (WalkArith.wf_i64 (n := 2) (by omega)))
                have hM2 := grownBy_trans hM1 hg2
                clear hown1 hM1 hg2
                obtain ⟨m3, hrun3, hown3, hg3⟩ := hown2.update lawS Tryd.underlying47 (by unfold maxLen; omega) (keyOf_string_mk Tryd.underlying9 (s := ⟨#[106, 111, 105, 110]⟩) (by decide)) (plainElem_int Tryd.underlying3 (WalkArith.wf_i64 (n := 3) (by omega)))
                have hM3 := grownBy_trans hM2 hg3
                clear hown2 hM2 hg3
                obtain ⟨m4, hrun4, hown4, hg4⟩ := hown3.update lawS Tryd.underlying47 (by unfold maxLen; omega) (keyOf_string_mk Tryd.underlying9 (s := ⟨#[117, 110, 100, 111]⟩) (by decide)) (plainElem_int Tryd.underlying3 (WalkArith.wf_i64 (n := 4) (by omega)))
                have hM4 := grownBy_trans hM3 hg4
                clear hown3 hM3 hg4
                obtain ⟨m5, hrun5, hown5, hg5⟩ := hown4.update lawS Tryd.underlying47 (by unfold maxLen; omega) (keyOf_string_mk Tryd.underlying9 (s := ⟨#[99, 111, 108, 111, 114]⟩) (by decide)) (plainElem_int Tryd.underlying3 (WalkArith.wf_i64 (n := 5) (by omega)))
                have hM5 := grownBy_trans hM4 hg5
                clear hown4 hM4 hg5
                obtain ⟨m6, hrun6, hown6, hg6⟩ := hown5.update lawS Tryd.underlying47 (by unfold maxLen; omega) (keyOf_string_mk Tryd.underlying9 (s := ⟨#[115, 119, 97, 112]⟩) (by decide)) (plainElem_int Tryd.underlying3 (WalkArith.wf_i64 (n := 6) (by omega)))
                have hM6 := grownBy_trans hM5 hg6
                clear hown5 hM5 hg6
                obtain ⟨m7, hrun7, hown7, hg7⟩ := hown6.update lawS Tryd.underlying47 (by unfold maxLen; omega) (keyOf_string_mk Tryd.underlying9 (s := ⟨#[115, 116, 111, 114, 101]⟩) (by decide)) (plainElem_int Tryd.underlying3 (WalkArith.wf_i64 (n := 7) (by omega)))
                have hM7 := grownBy_trans hM6 hg7
                clear hown6 hM6 hg7
                obtain ⟨m8, hrun8, hown8, hg8⟩ := hown7.update lawS Tryd.underlying47 (by unfold maxLen; omega) (keyOf_string_mk Tryd.underlying9 (s := ⟨#[102, 101, 116, 99, 104]⟩) (by decide)) (plainElem_int Tryd.underlying3 (WalkArith.wf_i64 (n := 8) (by omega)))
                have hM8 := grownBy_trans hM7 hg8
                clear hown7 hM7 hg8
                obtain ⟨m9, hrun9, hown9, hg9⟩ := hown8.update lawS Tryd.underlying47 (by unfold maxLen; omega) (keyOf_string_mk Tryd.underlying9 (s := ⟨#[112, 97, 110, 101, 115]⟩) (by decide)) (plainElem_int Tryd.underlying3 (WalkArith.wf_i64 (n := 9) (by omega)))
                have hM9 := grownBy_trans hM8 hg9
                clear hown8 hM8 hg9
                have hbm : Below w1.heap.size w1 m9 := (hbl.alloc hsz (.map #[] 0)).grown hM9 (by simp; omega) (fun k hk => by cases hk; exact hsz)
                have hN9 := (hN.alloc (.map #[] 0)).grown hM9 (by omega)
                have q0 : m9.cell? ⟨g, 0, none⟩ = some (.string x) := (hbm.cell (p := ⟨g, 0, none⟩) hgl).trans (HCL.out 0 x HX.out)
                have hbd : Below m9.heap.size m9 m9.drew := (Below.refl _ _).drew
                have hbe : Below m9.heap.size m9 (m9.alloc (.cells #[.int .i64 0, .int .i64 0, .int .i64 0] 23)).drew := ((Below.refl _ _).alloc (Nat.le_refl _) _).drew
                obtain ⟨cc, hlk, hat, _⟩ := (ownsMap_below hown9 hbd).lookup_int lawS Tryd.underlying47 Tryd.underlying3 (zeroI _) (keyOf_string_mk Tryd.underlying9 (s := x) hxm)
                obtain ⟨ce, hle2, hae, _⟩ := (ownsMap_below hown9 hbe).lookup_int lawS Tryd.underlying47 Tryd.underlying3 (zeroI _) (keyOf_string_mk Tryd.underlying9 (s := x) hxm)
                have hcc : cc = kd := by
                  have h9 : kd9.atKey (.string (bsL x)) (.lit (.int .i64 0)) = .lit (.int .i64 cc) := hat
                  rw [kind_at, HKD.out] at h9
                  injection h9 with h9
                  injection h9 with h9 h8
                  exact h8.symm
                have hce : ce = kd := by
                  have h9 : kd9.atKey (.string (bsL x)) (.lit (.int .i64 0)) = .lit (.int .i64 ce) := hae
                  rw [kind_at, HKD.out] at h9
                  injection h9 with h9
                  injection h9 with h9 h8
                  exact h8.symm
                subst hcc
                subst hce
                have hgm : g < m9.heap.size := Nat.lt_of_lt_of_le hgl hbm.size
                clear hat hae hown9 hM9 hN hbl hbw hR hbd hbe
                obtain ⟨n_0, n_1⟩ := hN9.c2
                have nl := hN9.lt
                go_wp2_with fail
                go_cut [12] (fun sl wx => ∃ y : Nat, sl = .pointer (some ⟨y, 0, none⟩) ∧ Blk wx y 23 #[.int .i64 ce, .int .i64 (a : Int), .int .i64 (b : Int)] ∧ Below m9.heap.size m9 wx)
                case first =>
                  go_region
                  all_goals go_wp2
                  all_goals go_meet
                  all_goals exact ⟨_, rfl, (Blk.newAt rfl).drew, ((Below.refl _ _).alloc (Nat.le_refl _) _).drew⟩
                case rest =>
                  obtain ⟨y, rfl, hY, hby⟩ := hcut
                  obtain ⟨w2, hw2⟩ : ∃ u : World, u = wc := ⟨_, rfl⟩
                  subst hw2
                  have hbm2 : Below w1.heap.size w1 w2 := hbm.trans (hby.mono hbm.size)
                  have hbw2 := hbw1.trans (hbm2.mono hbw1.size)
                  have hR2 := hR1.below hbm2 hR1.lt
                  clear n_0 n_1 nl q0 hgm hby hbm hN9 hlk hle2
                  obtain ⟨y_0, y_1, y_2⟩ := hY.c3
                  have ylt := hY.lt
                  go_wp2_with fail
                  refine (iFact_any ce a b w2).mono ?_
                  rintro e w3 ⟨rfl, hb3⟩
                  have hR3 := hR2.below hb3 hR2.lt
                  have hY3 := hY.below hb3 hY.lt
                  have hbw3 := hbw2.trans (hb3.mono hbw2.size)
                  have HO3 := Lib.hid (HO.out.kept (hbm2.trans (hb3.mono hbm2.size)))
                  clear y_0 y_1 y_2 ylt hY hR2 hbw2
                  obtain ⟨T, hT⟩ : ∃ T, actS ce a b = T := ⟨_, rfl⟩
                  have HGT : Hid (paO s = if actB ce a b = true ∧ spcB (P.map bsL) = bsL T then some (ce, (a : Int), (b : Int)) else none) := Lib.hid (by rw [HPV.out, HGV.out, hT])
                  rw [hT]
                  clear hT HGV HPV
                  cases hac : actB ce a b
                  · have HU : Hid (paO s = none) := Lib.hid (by rw [HGT.out, if_neg (fun h => by rw [hac] at h; cases h.1)])
                    obtain ⟨r_0, r_1, r_2, r_f0, r_f1, r_f2⟩ := hR3.b3
                    have hRl := hR3.lt
                    have HBF := Lib.hid (fun u0 u1 u2 : Value => ((hbw3.setCell (p := ⟨w.heap.size, 0, none⟩) (Nat.le_refl _) u0).setCell (p := ⟨w.heap.size, 1, none⟩) (Nat.le_refl _) u1).setCell (p := ⟨w.heap.size, 2, none⟩) (Nat.le_refl _) u2)
                    clear hbw3 hb3 hR3 hY3 hac
                    go_wp2
                    exact bodyPost_ret (v := .tuple #[.agg #[.int .i64 0, .int .i64 0, .int .i64 0], .bool false]) (by simp [results, Tryd.results6, go_sem, r_0, r_1, r_2, hRl]) rfl ⟨by rw [HU.out]; rfl, HBF.out _ _ _⟩
                  · obtain ⟨J, hJ⟩ : ∃ J : ByteArray, (⟨(spcB (P.map bsL)).toArray⟩ : ByteArray) = J := ⟨_, rfl⟩
                    have HJ1 : Hid (bj P = J.data.toList) := Lib.hid (by rw [← hJ]; unfold bj; exact join_bj _)
                    have HJ2 : Hid (J.size ≤ 1048576) := Lib.hid (by have h9 := HSP.out; rw [← hJ]; simpa [ByteArray.size] using h9)
                    have HJ3 : Hid (((T.toList == J.toList) = true) ↔ spcB (P.map bsL) = bsL T) := Lib.hid (by rw [beq_iff_eq, ByteArray.toList_eq, ← hJ, ByteArray.toList_mk]; exact eq_comm)
                    clear hJ
                    have hpos : 0 < P.length := by omega
                    have hln : P.length ≤ 1048576 := by omega
                    go_wp2_with fail
                    refine (join_own J HO3.out hpos hln HJ1.out HJ2.out).mono ?_
                    rintro e w4 ⟨rfl, hb4⟩
                    have hR4 := hR3.below hb4 hR3.lt
                    have hY4 := hY3.below hb4 hY3.lt
                    have hbw4 := hbw3.trans (hb4.mono hbw3.size)
                    obtain ⟨r_0, r_1, r_2, r_f0, r_f1, r_f2⟩ := hR4.b3
                    have hRl := hR4.lt
                    obtain ⟨y_0, y_1, y_2⟩ := hY4.c3
                    have ylt := hY4.lt
                    have HBF := Lib.hid (fun u0 u1 u2 : Value => ((hbw4.setCell (p := ⟨w.heap.size, 0, none⟩) (Nat.le_refl _) u0).setCell (p := ⟨w.heap.size, 1, none⟩) (Nat.le_refl _) u1).setCell (p := ⟨w.heap.size, 2, none⟩) (Nat.le_refl _) u2)
                    clear hbw3 hb3 hR3 hY3 hb4 hR4 hY4 hbw4
                    by_cases hq : spcB (P.map bsL) = bsL T
                    · have HU : Hid (paO s = some (ce, (a : Int), (b : Int))) := Lib.hid (by rw [HGT.out, if_pos ⟨hac, hq⟩])
                      have e3 : (T.toList == J.toList) = true := HJ3.out.2 hq
                      clear hq hac
                      go_wp2
                      exact bodyPost_ret (v := .tuple #[.agg #[.int .i64 ce, .int .i64 (a : Int), .int .i64 (b : Int)], .bool true]) (by simp [results, Tryd.results6, go_sem, r_0, r_1, r_2, hRl]) rfl ⟨by rw [HU.out]; rfl, HBF.out _ _ _⟩
                    · have HU : Hid (paO s = none) := Lib.hid (by rw [HGT.out, if_neg (fun h => hq h.2)])
                      have e3 : (T.toList == J.toList) = false := by
                        cases h9 : (T.toList == J.toList)
                        · rfl
                        · exact absurd (HJ3.out.1 h9) hq
                      clear hq hac
                      go_wp2
                      exact bodyPost_ret (v := .tuple #[.agg #[.int .i64 0, .int .i64 0, .int .i64 0], .bool false]) (by simp [results, Tryd.results6, go_sem, r_0, r_1, r_2, hRl]) rfl ⟨by rw [HU.out]; rfl, HBF.out _ _ _⟩

end Go.Proofs.YtbennlajjfkdpaaDoor
