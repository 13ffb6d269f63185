/-
  The groups of recipes: the reference's function.
-/
import Derived.Test.YtdladmmhmncpoaaGrp
import Derived.Test.YtdladmmhmncpoaaForg
import Derived.StillTailTactics
import Derived.Deep.RegionHeld3
set_option linter.unusedSimpArgs false
set_option linter.unusedVariables false
namespace Go.Proofs.Ytdladmmhmncpoaa
open Go.RowKit

def adjF (l : List Rc) (lim : Int) (i k : Nat) : Bool := decide ((l.getD i ⟨0, 0, 0, 0⟩).dist (l.getD k ⟨0, 0, 0, 0⟩) ≤ lim)

def stepS (l : List Rc) (lim : Int) (g : List Int) (i k : Nat) : List Int :=
  if adjF l lim i k then joinF g (min (g.getD i 0) (g.getD k 0)).toNat (max (g.getD i 0) (g.getD k 0)).toNat else g

def innerS (l : List Rc) (lim : Int) (k : Nat) (g : List Int) : Nat → List Int
  | 0 => g
  | i + 1 => stepS l lim (innerS l lim k g i) i k

def outerS (l : List Rc) (lim : Int) : Nat → List Int
  | 0 => runI 0 l.length
  | k + 1 => innerS l lim k (outerS l lim k) k

def groupsS (l : List Rc) (lim : Int) : List Int := if recipesB l && inB lim 0 2000 then outerS l lim l.length else []

/-- n numbers below n. -/
def InR (n : Nat) (g : List Int) : Prop := g.length = n ∧ ∀ i, i < n → 0 ≤ g.getD i 0 ∧ g.getD i 0 < n

theorem InR.run (n : Nat) : InR n (runI 0 n) := ⟨runI_length _ _, fun i hi => by rw [runI_get 0 n i hi]; omega⟩

theorem getD_map {g : List Int} {f : Int → Int} {i : Nat} (h : i < g.length) : (g.map f).getD i 0 = f (g.getD i 0) := by
  simp [List.getD, List.getElem?_eq_getElem h]

theorem InR.join {n : Nat} {g : List Int} (h : InR n g) {i j : Nat} (hi : i < n) (hj : j < n) : InR n (joinF g i j) := by
  unfold joinF
  simp only
  split
  · exact h
  · refine ⟨by simpa using h.1, fun q hq => ?_⟩
    rw [getD_map (by rw [h.1]; exact hq)]
    split
    · exact h.2 i hi
    · exact h.2 q hq

theorem InR.step {l : List Rc} {lim : Int} {g : List Int} (h : InR l.length g) {i k : Nat} (hi : i < l.length) (hk : k < l.length) : InR l.length (stepS l lim g i k) := by
  unfold stepS
  split
  · have h1 := h.2 i hi
    have h2 := h.2 k hk
    exact h.join (by omega) (by omega)
  · exact h

theorem InR.inner {l : List Rc} {lim : Int} {g : List Int} (h : InR l.length g) {k : Nat} (hk : k < l.length) : ∀ i, i ≤ l.length → InR l.length (innerS l lim k g i)
  | 0, _ => h
  | i + 1, hi => (InR.inner h hk i (by omega)).step (by omega) hk

theorem InR.outer (l : List Rc) (lim : Int) : ∀ k, k ≤ l.length → InR l.length (outerS l lim k)
  | 0, _ => InR.run _
  | k + 1, hk => (InR.outer l lim k (by omega)).inner (by omega) k (by omega)

theorem groupsS_no1 {l : List Rc} {lim : Int} (h : recipesB l = false) : groupsS l lim = [] := by simp [groupsS, h]

theorem groupsS_no2 {l : List Rc} {lim : Int} (h : inB lim 0 2000 = false) : groupsS l lim = [] := by simp [groupsS, h]

theorem groupsS_yes {l : List Rc} {lim : Int} (h : recipesB l = true) (h' : inB lim 0 2000 = true) : groupsS l lim = outerS l lim l.length := by simp [groupsS, h, h']

set_option maxHeartbeats 4000000 in
set_option maxRecDepth 100000 in
theorem sGroups_any (v : Value) (l : List Rc) (lim : Int) (w : World) (h : RR w v l) :
    Calls Try.prog 35 #[v, .int .i64 lim] w (RetI (groupsS l lim) w) := by
  obtain ⟨A, cp, rfl, hc, hm, hcell⟩ := h.form
  unfold maxLen at hm
  cases hr : recipesB l
  · rw [groupsS_no1 hr]
    have HR := Lib.hid hr
    clear hr hcell
    go_enter Try.func35, Try.ntmps35
    go_wp2_with fail
    refine (sRecipes_any _ l _ h).mono ?_
    rintro e w1 ⟨rfl, hb1⟩; (first | (with_reducible have hcf1 := bcell_drew hb1) | have hcf1 := bcell hb1); obtain ⟨hc1, hf1⟩ := hcf1; have hz1 := hb1.size; (try simp at hz1); (try have hp1_0 : w.heap.size < w1.heap.size := by omega); (try have hp1_1 : w.heap.size + 1 < w1.heap.size := by omega); (try have hp1_2 : w.heap.size + 2 < w1.heap.size := by omega)
    rw [HR.out]
    go_wp2
    go_ret
    exact ⟨_, rfl, World.ownsRow_made _ _ _ (by omega) (by simp [maxLen]) (by simp), by (repeat (first | exact Below.refl _ _ | assumption | refine Below.drew ?_ | refine below_drewN ?_ _ | refine Below.alloc ?_ (by first | omega | (simp; done) | (simp; omega)) _ | refine Below.setCell ?_ (by first | omega | (simp; done) | (simp; omega)) _ | refine Below.step (by assumption) ?_ (by first | omega | (simp; done) | (simp; omega)) | refine Below.mark (by assumption) (by assumption) ?_ (by first | omega | (simp; done) | (simp; omega)) (by first | omega | (simp; done) | (simp; omega))))⟩
  · cases hin : inB lim 0 2000
    · rw [groupsS_no2 hin]
      have HR := Lib.hid hr
      have HIN := Lib.hid hin
      clear hr hcell hin
      go_enter Try.func35, Try.ntmps35
      go_wp2_with fail
      refine (sRecipes_any _ l _ h).mono ?_
      rintro e w1 ⟨rfl, hb1⟩; (first | (with_reducible have hcf1 := bcell_drew hb1) | have hcf1 := bcell hb1); obtain ⟨hc1, hf1⟩ := hcf1; have hz1 := hb1.size; (try simp at hz1); (try have hp1_0 : w.heap.size < w1.heap.size := by omega); (try have hp1_1 : w.heap.size + 1 < w1.heap.size := by omega); (try have hp1_2 : w.heap.size + 2 < w1.heap.size := by omega)
      rw [HR.out]
      go_wp2_with fail
      refine (l01In_q _ _ _ _ _ HIN).mono ?_
      rintro e w' ⟨rfl, rfl⟩
      go_wp2
      go_ret
      exact ⟨_, rfl, World.ownsRow_made _ _ _ (by omega) (by simp [maxLen]) (by simp), by (repeat (first | exact Below.refl _ _ | assumption | refine Below.drew ?_ | refine below_drewN ?_ _ | refine Below.alloc ?_ (by first | omega | (simp; done) | (simp; omega)) _ | refine Below.setCell ?_ (by first | omega | (simp; done) | (simp; omega)) _ | refine Below.step (by assumption) ?_ (by first | omega | (simp; done) | (simp; omega)) | refine Below.mark (by assumption) (by assumption) ?_ (by first | omega | (simp; done) | (simp; omega)) (by first | omega | (simp; done) | (simp; omega))))⟩
    · rw [groupsS_yes hr hin]
      have h20 : l.length ≤ 20 := (recipes_bd hr).1
      have HR := Lib.hid hr
      have HIN := Lib.hid hin
      have blim := inB_true.1 hin
      clear hr hin
      go_enter Try.func35, Try.ntmps35
      go_wp2_with fail
      refine (sRecipes_any _ l _ h).mono ?_
      rintro e w1 ⟨rfl, hb1⟩; (first | (with_reducible have hcf1 := bcell_drew hb1) | have hcf1 := bcell hb1); obtain ⟨hc1, hf1⟩ := hcf1; have hz1 := hb1.size; (try simp at hz1); (try have hp1_0 : w.heap.size < w1.heap.size := by omega); (try have hp1_1 : w.heap.size + 1 < w1.heap.size := by omega); (try have hp1_2 : w.heap.size + 2 < w1.heap.size := by omega)
      rw [HR.out]
      go_wp2_with fail
      refine (l01In_q _ _ _ _ _ HIN).mono ?_
      rintro e w' ⟨rfl, rfl⟩
      go_wp2_with fail
      refine (groups_any l.length _ (by omega)).mono ?_
      rintro e w2 ⟨v2, rfl, ho2, hb2⟩; (first | (with_reducible have hcf2 := bcell_drew hb2) | have hcf2 := bcell hb2); obtain ⟨hc2, hf2⟩ := hcf2; have hz2 := hb2.size; (try simp at hz2); (try have hp2_0 : w.heap.size < w2.heap.size := by omega); (try have hp2_1 : w.heap.size + 1 < w2.heap.size := by omega); (try have hp2_2 : w.heap.size + 2 < w2.heap.size := by omega)
      have hb02 : Below w.heap.size w w2 := by (repeat (first | exact Below.refl _ _ | assumption | refine Below.drew ?_ | refine below_drewN ?_ _ | refine Below.alloc ?_ (by first | omega | (simp; done) | (simp; omega)) _ | refine Below.setCell ?_ (by first | omega | (simp; done) | (simp; omega)) _ | refine Below.step (by assumption) ?_ (by first | omega | (simp; done) | (simp; omega)) | refine Below.mark (by assumption) (by assumption) ?_ (by first | omega | (simp; done) | (simp; omega)) (by first | omega | (simp; done) | (simp; omega))))
      have ho2' := ho2.mono (show w.heap.size ≤ _ by omega)
      clear hb1 hc1 hf1 hb2 hc2 hf2 ho2 h HR HIN
      go_wp2
      go_loopw [6, 7] (fun i6 i7 wr => ∃ k : Nat, k ≤ l.length ∧ i6 = .int .i64 k ∧ OwnI w.heap.size wr v2 (outerS l lim k) ∧ Below w.heap.size w wr) (fun i6 _ _ => l.length - (intOf i6).toNat)
      case atStart => exact ⟨0, Nat.zero_le _, rfl, ho2', hb02⟩
      case round =>
        obtain ⟨k, hk, rfl, hown, hbl⟩ := hrel
        clear ho2' hb02
        by_cases hlt : k < l.length
        · obtain ⟨wo, hwo⟩ : ∃ wo : World, wo = wr := ⟨_, rfl⟩
          subst hwo
          obtain ⟨b, off, rfl, hb, hcl⟩ := hcell (by omega)
          obtain ⟨k0, k1, k2, k3⟩ := hcl k hlt
          go_wp2
          go_loopw [7] (fun i7 wr => ∃ i : Nat, i ≤ k ∧ i7 = .int .i64 i ∧ OwnI w.heap.size wr v2 (innerS l lim k (outerS l lim k) i) ∧ Below w.heap.size w wr) (fun i7 _ => k - (intOf i7).toNat)
          case atStart => exact ⟨0, Nat.zero_le _, rfl, hown, hbl⟩
          case round =>
            obtain ⟨i, hik, rfl, hown2, hbl2⟩ := hrel
            clear hown hbl
            have hsz2 := hbl2.size
            by_cases hlti : i < k
            · have hil : i < l.length := by omega
              obtain ⟨j0, j1, j2, j3⟩ := hcl i hil
              have q0 := (hbl2.cell (p := ⟨b, off + k * 4, none⟩) hb).trans k0
              have q1 := (hbl2.cell (p := ⟨b, off + k * 4 + 1, none⟩) hb).trans k1
              have q2 := (hbl2.cell (p := ⟨b, off + k * 4 + 2, none⟩) hb).trans k2
              have q3 := (hbl2.cell (p := ⟨b, off + k * 4 + 3, none⟩) hb).trans k3
              have p0 := (hbl2.cell (p := ⟨b, off + i * 4, none⟩) hb).trans j0
              have p1 := (hbl2.cell (p := ⟨b, off + i * 4 + 1, none⟩) hb).trans j1
              have p2 := (hbl2.cell (p := ⟨b, off + i * 4 + 2, none⟩) hb).trans j2
              have p3 := (hbl2.cell (p := ⟨b, off + i * 4 + 3, none⟩) hb).trans j3
              have hi1 : (0 : Int) ≤ (k : Int) := by omega
              have hi2 : (k : Int) < (l.length : Int) := by omega
              have hi3 : (0 : Int) ≤ (i : Int) := by omega
              have hi4 : (i : Int) < (l.length : Int) := by omega
              have hR := (InR.outer l lim k (by omega)).inner (lim := lim) hlt i (by omega)
              have hST : innerS l lim k (outerS l lim k) (i + 1) = stepS l lim (innerS l lim k (outerS l lim k) i) i k := rfl
              have HADJ : Hid (adjF l lim i k = decide (distB l[i].s l[i].a l[i].l l[i].m l[k].s l[k].a l[k].l l[k].m ≤ lim)) := Lib.hid (by
                unfold adjF
                simp only [List.getD, List.getElem?_eq_getElem hil, List.getElem?_eq_getElem hlt, Option.getD_some]
                rfl)
              clear j0 j1 j2 j3
              generalize innerS l lim k (outerS l lim k) i = G at *
              have HST := Lib.hid hST
              clear hST
              generalize l[k].s = ks at *
              generalize l[k].a = ka at *
              generalize l[k].l = kl at *
              generalize l[k].m = km at *
              generalize l[i].s = ms at *
              generalize l[i].a = ma at *
              generalize l[i].l = ml at *
              generalize l[i].m = mm at *
              clear k0 k1 k2 k3 hcl hcell
              have hbr : b < wr.heap.size := by omega
              go_wp2
              go_region_held3 (fun w' => w'.cell? ⟨b, off + k * 4, none⟩ = some (.int .i64 ks) ∧ w'.cell? ⟨b, off + k * 4 + 1, none⟩ = some (.int .i64 ka) ∧ w'.cell? ⟨b, off + k * 4 + 2, none⟩ = some (.int .i64 kl) ∧ w'.cell? ⟨b, off + k * 4 + 3, none⟩ = some (.int .i64 km) ∧
                  w'.cell? ⟨b, off + i * 4, none⟩ = some (.int .i64 ms) ∧ w'.cell? ⟨b, off + i * 4 + 1, none⟩ = some (.int .i64 ma) ∧ w'.cell? ⟨b, off + i * 4 + 2, none⟩ = some (.int .i64 ml) ∧ w'.cell? ⟨b, off + i * 4 + 3, none⟩ = some (.int .i64 mm))
                (go_keep)
                (first | (go_at_call 84; refine (sDist_any _ _ _ _ _ _ _ _ _).mono ?_; rintro e w3 ⟨rfl, hb3⟩; (first | (with_reducible have hcf3 := bcell_drew hb3) | have hcf3 := bcell hb3); obtain ⟨hc3, hf3⟩ := hcf3; have hz3 := hb3.size; (try simp at hz3); (try have hp3_0 : w.heap.size < w3.heap.size := by omega); (try have hp3_1 : w.heap.size + 1 < w3.heap.size := by omega); (try have hp3_2 : w.heap.size + 2 < w3.heap.size := by omega)))
              have hb3' : Below wr.heap.size wr w3 := ⟨hb3.os, hb3.tape, hb3.output, hb3.size, hb3.block⟩
              have hown3 := hown2.kept hb3'
              have hbl3 : Below w.heap.size w w3 := hbl2.trans (hb3'.mono hsz2)
              clear hb3 hb3' hown2 hbl2 q0 q1 q2 q3 p0 p1 p2 p3
              by_cases hd : distB ms ma ml mm ks ka kl km ≤ lim
              · rcases hcase : hown3.2 with ⟨rfl, hn⟩ | ⟨gb, cap, cur, rfl, hbg, hh, hnc, hcm, hsz, hxs⟩
                · exact absurd hn (by rw [hR.1]; omega)
                · clear hcase hh hxs hsz hcm
                  have gi := hR.2 i hil
                  have gk := hR.2 k hlt
                  have hGl := hR.1
                  have cellOf : ∀ q, q < G.length → w3.cell? ⟨gb, q, none⟩ = some (.int .i64 (G.getD q 0)) := by
                    intro q hq
                    have ho : w3.ownsRow w.heap.size 3 1 (.slice (some ⟨gb, 0, none⟩) G.length cap) G.length (G.map vI) := hown3
                    rw [ho.cellAt q (by omega), List.getElem?_map, List.getElem?_eq_getElem hq]
                    simp [vI, List.getD, List.getElem?_eq_getElem hq]
                  have ci := cellOf i (by omega)
                  have ck := cellOf k (by omega)
                  have hG1 : (i : Int) < (G.length : Int) := by omega
                  have hG2 : (k : Int) < (G.length : Int) := by omega
                  have HN : Hid (innerS l lim k (outerS l lim k) (i + 1) = joinF G (min (G.getD i 0) (G.getD k 0)).toNat (max (G.getD i 0) (G.getD k 0)).toNat) := Lib.hid (by
                    rw [HST.out]; unfold stepS; rw [HADJ.out, if_pos (by simpa using hd)])
                  have HGL := Lib.hid hGl
                  clear cellOf hGl
                  generalize G.getD i 0 = x at *
                  generalize G.getD k 0 = y at *
                  obtain ⟨xn, rfl⟩ := Int.eq_ofNat_of_zero_le gi.1
                  obtain ⟨yn, rfl⟩ := Int.eq_ofNat_of_zero_le gk.1
                  have hxl := gi.2
                  have hyl := gk.2
                  have hgl1 : l.length ≤ G.length := Nat.le_of_eq HGL.out.symm
                  have hgl2 : G.length ≤ 20 := by rw [HGL.out]; exact h20
                  clear gi gk hR
                  rcases Nat.lt_trichotomy xn yn with hxy | hxy | hxy
                  · have HJ : Hid (innerS l lim k (outerS l lim k) (i + 1) = joinF G xn yn) := Lib.hid (by
                      rw [HN.out, show (min (xn : Int) (yn : Int)).toNat = xn from by omega, show (max (xn : Int) (yn : Int)).toNat = yn from by omega])
                    go_wp2
                    go_still_tail 19, (by kernel_rfl)
                    go_wp2_with fail
                    refine (join_any w.heap.size _ G xn yn _ (by exact hown3) (by omega) (by omega) (by omega)).mono ?_
                    rintro e w4 ⟨rfl, ho4, hg4⟩
                    have hbl4 : Below w.heap.size w w4 := hbl3.drew.grown hg4 hbl3.size (fun q hq => by cases hq; exact hbg)
                    have HO := Lib.hid ho4
                    have HB := Lib.hid hbl4
                    clear ho4 hg4 hbl4 hown3 hbl3
                    go_wp2
                    go_roundw
                    case rel => exact ⟨i + 1, by omega, by go_num, by rw [HJ.out]; exact HO.out, HB.out⟩
                    case measure => simp [intOf]; omega
                  · subst hxy
                    have HJ : Hid (innerS l lim k (outerS l lim k) (i + 1) = joinF G xn xn) := Lib.hid (by
                      rw [HN.out, show (min (xn : Int) (xn : Int)).toNat = xn from by omega, show (max (xn : Int) (xn : Int)).toNat = xn from by omega])
                    go_wp2
                    go_still_tail 19, (by kernel_rfl)
                    go_wp2_with fail
                    refine (join_any w.heap.size _ G xn xn _ (by exact hown3) (by omega) (by omega) (by omega)).mono ?_
                    rintro e w4 ⟨rfl, ho4, hg4⟩
                    have hbl4 : Below w.heap.size w w4 := hbl3.drew.grown hg4 hbl3.size (fun q hq => by cases hq; exact hbg)
                    have HO := Lib.hid ho4
                    have HB := Lib.hid hbl4
                    clear ho4 hg4 hbl4 hown3 hbl3
                    go_wp2
                    go_roundw
                    case rel => exact ⟨i + 1, by omega, by go_num, by rw [HJ.out]; exact HO.out, HB.out⟩
                    case measure => simp [intOf]; omega
                  · have HJ : Hid (innerS l lim k (outerS l lim k) (i + 1) = joinF G yn xn) := Lib.hid (by
                      rw [HN.out, show (min (xn : Int) (yn : Int)).toNat = yn from by omega, show (max (xn : Int) (yn : Int)).toNat = xn from by omega])
                    go_wp2
                    go_still_tail 19, (by kernel_rfl)
                    go_wp2_with fail
                    refine (join_any w.heap.size _ G yn xn _ (by exact hown3) (by omega) (by omega) (by omega)).mono ?_
                    rintro e w4 ⟨rfl, ho4, hg4⟩
                    have hbl4 : Below w.heap.size w w4 := hbl3.drew.grown hg4 hbl3.size (fun q hq => by cases hq; exact hbg)
                    have HO := Lib.hid ho4
                    have HB := Lib.hid hbl4
                    clear ho4 hg4 hbl4 hown3 hbl3
                    go_wp2
                    go_roundw
                    case rel => exact ⟨i + 1, by omega, by go_num, by rw [HJ.out]; exact HO.out, HB.out⟩
                    case measure => simp [intOf]; omega
              · have HN : Hid (innerS l lim k (outerS l lim k) (i + 1) = G) := Lib.hid (by
                  rw [HST.out]; unfold stepS; rw [HADJ.out, if_neg (by simpa using hd)])
                have HO := Lib.hid hown3
                have HB := Lib.hid hbl3
                clear hown3 hbl3
                go_wp2
                go_roundw
                case rel => exact ⟨i + 1, by omega, by go_num, by rw [HN.out]; exact HO.out, HB.out⟩
                case measure => simp [intOf]; omega
            · have hkk : i = k := by omega
              subst hkk
              have HO := Lib.hid hown2
              have HB := Lib.hid hbl2
              clear hown2 hbl2 hcl hcell k0 k1 k2 k3
              go_wp2
              go_roundw
              case rel => exact ⟨i + 1, by omega, by go_num, HO.out, HB.out⟩
              case measure => simp [intOf]; omega
        · have hkk : k = l.length := by omega
          subst hkk
          have HO := Lib.hid hown
          have HB := Lib.hid hbl
          clear hcell hown hbl
          go_wp2
          go_ret
          exact ⟨_, rfl, HO.out, HB.out⟩

end Go.Proofs.Ytdladmmhmncpoaa
