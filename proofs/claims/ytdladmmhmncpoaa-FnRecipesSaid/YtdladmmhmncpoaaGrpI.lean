/-
  The program's groups, walked.
-/
import Derived.Test.YtdladmmhmncpoaaGrpQ
import Derived.BigRegion
set_option linter.unusedSimpArgs false
set_option linter.unusedVariables false
namespace Go.Proofs.Ytdladmmhmncpoaa
open Go.RowKit

theorem made1 (n : Nat) : (madeCells #[.int .i64 0] n).toList = (List.replicate n (0 : Int)).map vI := by
  apply List.ext_getElem?
  intro j
  by_cases hj : j < n
  · simp only [madeCells, Array.toList_map, List.getElem?_map, Array.toList_range, List.getElem?_range hj, List.getElem?_replicate, if_pos hj, Option.map_some]
    congr 1
    show #[Value.int .i64 0][j % 1]! = _
    rw [Nat.mod_one]; rfl
  · simp [madeCells, hj]

theorem groupsI_no1 {l : List Rc} {lim : Int} (h : recipesB l = false) : groupsI l lim = [] := by simp [groupsI, h]

theorem groupsI_no2 {l : List Rc} {lim : Int} (h : inB lim 0 2000 = false) : groupsI l lim = [] := by simp [groupsI, h]

theorem groupsI_yes {l : List Rc} {lim : Int} (h : recipesB l = true) (h' : inB lim 0 2000 = true) : groupsI l lim = roundsI l lim l.length := by simp [groupsI, h, h']

/-- Own cells of ints, one by one. -/
theorem OwnI.cell {base : Nat} {w : World} {g cap n : Nat} {G : List Int} (h : OwnI base w (.slice (some ⟨g, 0, none⟩) n cap) G) {q : Nat} (hq : q < G.length) : w.cell? ⟨g, q, none⟩ = some (.int .i64 (G.getD q 0)) := by
  have hn := h.1
  have ho : w.ownsRow base 3 1 (.slice (some ⟨g, 0, none⟩) n cap) G.length (G.map vI) := h
  have e : n = G.length := by
    rcases ho.2 with ⟨e, _⟩ | ⟨g', cap', cur, e, _⟩
    · cases e
    · injection e
  subst e
  rw [ho.cellAt q (by omega), List.getElem?_map, List.getElem?_eq_getElem hq]
  simp [vI, List.getD, List.getElem?_eq_getElem hq]

theorem OwnI.frz {base : Nat} {w : World} {g cap n : Nat} {G : List Int} (h : OwnI base w (.slice (some ⟨g, 0, none⟩) n cap) G) (q : Nat) : w.frozen? ⟨g, q, none⟩ = false := by
  have ho : w.ownsRow base 3 1 (.slice (some ⟨g, 0, none⟩) n cap) G.length (G.map vI) := h
  have e : n = G.length := by
    rcases ho.2 with ⟨e, _⟩ | ⟨g', cap', cur, e, _⟩
    · cases e
    · injection e
  subst e
  exact ho.frozenAt q

theorem OwnI.set_ {base : Nat} {w : World} {g cap n : Nat} {G : List Int} (h : OwnI base w (.slice (some ⟨g, 0, none⟩) n cap) G) (q : Nat) (x : Int) :
    OwnI base (w.setCell ⟨g, q, none⟩ (.int .i64 x)) (.slice (some ⟨g, 0, none⟩) n cap) (G.set q x) := by
  have ho : w.ownsRow base 3 1 (.slice (some ⟨g, 0, none⟩) n cap) G.length (G.map vI) := h
  have e : n = G.length := by
    rcases ho.2 with ⟨e, _⟩ | ⟨g', cap', cur, e, _⟩
    · cases e
    · injection e
  subst e
  have := (ho.stored q (.int .i64 x)).1
  unfold OwnI
  rw [List.length_set, List.map_set]
  exact this

set_option maxHeartbeats 4000000 in
set_option maxRecDepth 100000 in
theorem iGroups_any (v : Value) (l : List Rc) (lim : Int) (w : World) (h : RR w v l) :
    Calls Try.prog 25 #[v, .int .i64 lim] w (RetI (groupsI l lim) w) := by
  obtain ⟨A, cp, rfl, hc, hm, hcell⟩ := h.form
  unfold maxLen at hm
  cases hr : recipesB l
  · rw [groupsI_no1 hr]
    have HR := Lib.hid hr
    clear hr hcell
    go_enter Try.func25, Try.ntmps25
    go_wp2_with fail
    refine (iRecipes_any _ l _ h).mono ?_
    rintro e w1 ⟨rfl, hb1⟩; (first | (with_reducible have hcf1 := bcell_drew hb1) | have hcf1 := bcell hb1); obtain ⟨hc1, hf1⟩ := hcf1; have hz1 := hb1.size; (try simp at hz1); (try have hp1_0 : w.heap.size < w1.heap.size := by omega); (try have hp1_1 : w.heap.size + 1 < w1.heap.size := by omega); (try have hp1_2 : w.heap.size + 2 < w1.heap.size := by omega)
    rw [HR.out]
    go_wp2
    go_ret
    exact ⟨_, rfl, OwnI.nil _ _, by (repeat (first | exact Below.refl _ _ | assumption | refine Below.drew ?_ | refine below_drewN ?_ _ | refine Below.alloc ?_ (by first | omega | (simp; done) | (simp; omega)) _ | refine Below.setCell ?_ (by first | omega | (simp; done) | (simp; omega)) _ | refine Below.step (by assumption) ?_ (by first | omega | (simp; done) | (simp; omega)) | refine Below.mark (by assumption) (by assumption) ?_ (by first | omega | (simp; done) | (simp; omega)) (by first | omega | (simp; done) | (simp; omega))))⟩
  · cases hin : inB lim 0 2000
    · rw [groupsI_no2 hin]
      have HR := Lib.hid hr
      have HIN := Lib.hid hin
      clear hr hcell hin
      go_enter Try.func25, Try.ntmps25
      go_wp2_with fail
      refine (iRecipes_any _ l _ h).mono ?_
      rintro e w1 ⟨rfl, hb1⟩; (first | (with_reducible have hcf1 := bcell_drew hb1) | have hcf1 := bcell hb1); obtain ⟨hc1, hf1⟩ := hcf1; have hz1 := hb1.size; (try simp at hz1); (try have hp1_0 : w.heap.size < w1.heap.size := by omega); (try have hp1_1 : w.heap.size + 1 < w1.heap.size := by omega); (try have hp1_2 : w.heap.size + 2 < w1.heap.size := by omega)
      rw [HR.out]
      go_wp2_with fail
      refine (within_any _ _ _ _).mono ?_
      rintro e w' ⟨rfl, rfl⟩
      rw [HIN.out]
      go_wp2
      go_ret
      exact ⟨_, rfl, OwnI.nil _ _, by (repeat (first | exact Below.refl _ _ | assumption | refine Below.drew ?_ | refine below_drewN ?_ _ | refine Below.alloc ?_ (by first | omega | (simp; done) | (simp; omega)) _ | refine Below.setCell ?_ (by first | omega | (simp; done) | (simp; omega)) _ | refine Below.step (by assumption) ?_ (by first | omega | (simp; done) | (simp; omega)) | refine Below.mark (by assumption) (by assumption) ?_ (by first | omega | (simp; done) | (simp; omega)) (by first | omega | (simp; done) | (simp; omega))))⟩
    · rw [groupsI_yes hr hin]
      have h20 : l.length ≤ 20 := (recipes_bd hr).1
      have HR := Lib.hid hr
      have HIN := Lib.hid hin
      clear hr hin
      obtain ⟨i0, hi, iz0, iz1, iz2⟩ := info_parts infoInt
      go_enter Try.func25, Try.ntmps25
      go_wp2_with fail
      refine (iRecipes_any _ l _ h).mono ?_
      rintro e w1 ⟨rfl, hb1⟩; (first | (with_reducible have hcf1 := bcell_drew hb1) | have hcf1 := bcell hb1); obtain ⟨hc1, hf1⟩ := hcf1; have hz1 := hb1.size; (try simp at hz1); (try have hp1_0 : w.heap.size < w1.heap.size := by omega); (try have hp1_1 : w.heap.size + 1 < w1.heap.size := by omega); (try have hp1_2 : w.heap.size + 2 < w1.heap.size := by omega)
      rw [HR.out]
      go_wp2_with fail
      refine (within_any _ _ _ _).mono ?_
      rintro e w' ⟨rfl, rfl⟩
      rw [HIN.out]
      go_wp2_with (at_make; refine wpList_make_full _ rfl _ _ 30 rfl w.heap.size 3 i0 (.int .i64 0) 1 Try.underlying30 hi iz0 iz1 .i64 .i64 _ _ l.length rfl rfl rfl rfl (by rw [iz2]; omega) (by unfold maxLen; omega) (by omega) ?_)
      intro w2 hown1 hgr1
      have hb2 : Below w.heap.size w w2 := hb1.grown hgr1 (by omega) (by intro k hk; cases hk)
      have hz2 : w1.heap.size ≤ w2.heap.size := hgr1.size
      have hown : OwnI w.heap.size w2 (.slice (some ⟨w1.heap.size, 0, none⟩) l.length l.length) (List.replicate l.length 0) := by
        unfold OwnI
        rw [made1] at hown1
        simpa using hown1
      have hg : w.heap.size ≤ w1.heap.size := hz1
      generalize hgg : w1.heap.size = gb at *
      clear hown1 hgr1 iz0 iz1 iz2 hi hb1 hc1 hf1 hz1 hz2 HR HIN h hgg
      go_wp2
      go_loopw [22] (fun i wr => ∃ k : Nat, k ≤ l.length ∧ i = .int .i64 k ∧ OwnI w.heap.size wr (.slice (some ⟨gb, 0, none⟩) l.length l.length) (markI 0 (List.replicate l.length 0) k) ∧ Below w.heap.size w wr) (fun i _ => l.length - (intOf i).toNat)
      case atStart => exact ⟨0, Nat.zero_le _, rfl, by rw [markI_zero]; exact hown, hb2⟩
      case round =>
        obtain ⟨k, hk, rfl, ho, hbl⟩ := hrel
        clear hown hb2
        have hml := markI_length 0 (List.replicate l.length 0) k (by simpa using hk)
        rw [List.length_replicate] at hml
        by_cases hlt : k < l.length
        · have x1 := ho.cell (q := k) (by omega)
          have f1 := ho.frz k
          have HS := Lib.hid (ho.set_ k (k : Int))
          rw [show (k : Int) = 0 + (k : Int) by omega, ← markI_succ 0 (List.replicate l.length 0) k (by simpa using hlt)] at HS
          have HB := Lib.hid (hbl.setCell (p := ⟨gb, k, none⟩) hg (.int .i64 (k : Int)))
          generalize (markI 0 (List.replicate l.length 0) k).getD k 0 = x at *
          clear ho hml hbl
          simp only [Int.zero_add] at HS
          go_wp2
          go_roundw
          case rel => exact ⟨k + 1, by omega, by go_num, HS.out, HB.out⟩
          case measure => simp [intOf]; omega
        · have hkk : k = l.length := by omega
          subst hkk
          have e0 : markI 0 (List.replicate l.length 0) l.length = runI 0 l.length := by
            have := markI_all 0 (List.replicate l.length (0 : Int))
            rw [List.length_replicate] at this
            exact this
          rw [e0] at ho
          clear e0 hml
          go_wp2
          go_loopw [32] (fun i wr => ∃ r : Nat, r ≤ l.length ∧ i = .int .i64 r ∧ OwnI w.heap.size wr (.slice (some ⟨gb, 0, none⟩) l.length l.length) (roundsI l lim r) ∧ Below w.heap.size w wr) (fun i _ => l.length - (intOf i).toNat)
          case atStart => exact ⟨0, Nat.zero_le _, rfl, ho, hbl⟩
          case round =>
            obtain ⟨r, hr, rfl, ho1, hbl1⟩ := hrel
            clear ho hbl
            by_cases hltr : r < l.length
            · have HR0 : Hid (roundsI l lim r = sweepI l lim (roundsI l lim r) 0) := Lib.hid rfl
              have HI0 := IInv.rounds l lim r
              obtain ⟨w3, hw3⟩ : ∃ w3 : World, w3 = wr := ⟨_, rfl⟩
              subst hw3
              have HR1 : Hid (roundsI l lim (r + 1) = sweepI l lim (roundsI l lim r) l.length) := Lib.hid rfl
              generalize roundsI l lim r = g0 at *
              go_wp2
              go_loopw [36] (fun i wr => ∃ m : Nat, m ≤ l.length ∧ i = .int .i64 m ∧ OwnI w.heap.size wr (.slice (some ⟨gb, 0, none⟩) l.length l.length) (sweepI l lim g0 m) ∧ Below w.heap.size w wr) (fun i _ => l.length - (intOf i).toNat)
              case atStart => exact ⟨0, Nat.zero_le _, rfl, ho1, hbl1⟩
              case round =>
                obtain ⟨m, hm1, rfl, ho2, hbl2⟩ := hrel
                clear ho1 hbl1
                by_cases hltm : m < l.length
                · have HS1 : Hid (sweepI l lim g0 (m + 1) = rowI l lim m (sweepI l lim g0 m) l.length) := Lib.hid rfl
                  have HI1 := (HI0.sweep m (by omega)).1
                  obtain ⟨w4, hw4⟩ : ∃ w4 : World, w4 = wr := ⟨_, rfl⟩
                  subst hw4
                  generalize sweepI l lim g0 m = g1 at *
                  obtain ⟨b, off, rfl, hb, hcl⟩ := hcell (by omega)
                  obtain ⟨k0, k1, k2, k3⟩ := hcl m hltm
                  go_wp2
                  go_loopw [41] (fun i wr => ∃ k : Nat, k ≤ l.length ∧ i = .int .i64 k ∧ OwnI w.heap.size wr (.slice (some ⟨gb, 0, none⟩) l.length l.length) (rowI l lim m g1 k) ∧ Below w.heap.size w wr) (fun i _ => l.length - (intOf i).toNat)
                  case atStart => exact ⟨0, Nat.zero_le _, rfl, ho2, hbl2⟩
                  case round =>
                    obtain ⟨k, hk, rfl, ho3, hbl3⟩ := hrel
                    clear ho2 hbl2
                    have hsz := hbl3.size
                    by_cases hlt : k < l.length
                    · obtain ⟨j0, j1, j2, j3⟩ := hcl k hlt
                      have q0 := (hbl3.cell (p := ⟨b, off + m * 4, none⟩) hb).trans k0
                      have q1 := (hbl3.cell (p := ⟨b, off + m * 4 + 1, none⟩) hb).trans k1
                      have q2 := (hbl3.cell (p := ⟨b, off + m * 4 + 2, none⟩) hb).trans k2
                      have q3 := (hbl3.cell (p := ⟨b, off + m * 4 + 3, none⟩) hb).trans k3
                      have p0 := (hbl3.cell (p := ⟨b, off + k * 4, none⟩) hb).trans j0
                      have p1 := (hbl3.cell (p := ⟨b, off + k * 4 + 1, none⟩) hb).trans j1
                      have p2 := (hbl3.cell (p := ⟨b, off + k * 4 + 2, none⟩) hb).trans j2
                      have p3 := (hbl3.cell (p := ⟨b, off + k * 4 + 3, none⟩) hb).trans j3
                      have hi1 : (0 : Int) ≤ (k : Int) := by omega
                      have hi2 : (k : Int) < (l.length : Int) := by omega
                      have hi3 : (0 : Int) ≤ (m : Int) := by omega
                      have hi4 : (m : Int) < (l.length : Int) := by omega
                      have hR := (HI1.row (i := m) hltm k (by omega)).1
                      have HST : Hid (rowI l lim m g1 (k + 1) = stepI l lim (rowI l lim m g1 k) m k) := Lib.hid rfl
                      have HADJ : Hid (adjF l lim m k = decide (distB l[m].s l[m].a l[m].l l[m].m l[k].s l[k].a l[k].l l[k].m ≤ lim)) := Lib.hid (by
                        unfold adjF
                        simp only [List.getD, List.getElem?_eq_getElem hltm, List.getElem?_eq_getElem hlt, Option.getD_some]
                        rfl)
                      clear j0 j1 j2 j3
                      generalize rowI l lim m g1 k = G at *
                      have hGl := hR.1
                      have xm := ho3.cell (q := m) (by omega)
                      have xk := ho3.cell (q := k) (by omega)
                      clear hR
                      have HGL := Lib.hid hGl
                      clear hGl
                      generalize l[k].s = ks at *
                      generalize l[k].a = ka at *
                      generalize l[k].l = kl at *
                      generalize l[k].m = km at *
                      generalize l[m].s = ms at *
                      generalize l[m].a = ma at *
                      generalize l[m].l = ml at *
                      generalize l[m].m = mm at *
                      clear k0 k1 k2 k3 hcl hcell
                      have hbr : b < wr.heap.size := by omega
                      go_wp2
                      go_region_held3 (fun w' => w'.cell? ⟨b, off + k * 4, none⟩ = some (.int .i64 ks) ∧ w'.cell? ⟨b, off + k * 4 + 1, none⟩ = some (.int .i64 ka) ∧ w'.cell? ⟨b, off + k * 4 + 2, none⟩ = some (.int .i64 kl) ∧ w'.cell? ⟨b, off + k * 4 + 3, none⟩ = some (.int .i64 km) ∧
                          w'.cell? ⟨b, off + m * 4, none⟩ = some (.int .i64 ms) ∧ w'.cell? ⟨b, off + m * 4 + 1, none⟩ = some (.int .i64 ma) ∧ w'.cell? ⟨b, off + m * 4 + 2, none⟩ = some (.int .i64 ml) ∧ w'.cell? ⟨b, off + m * 4 + 3, none⟩ = some (.int .i64 mm))
                        (go_keep)
                        (first | (go_at_call 24; refine (iDist_any _ _ _ _ _ _ _ _ _).mono ?_; rintro e w5 ⟨rfl, hb5⟩; (first | (with_reducible have hcf5 := bcell_drew hb5) | have hcf5 := bcell hb5); obtain ⟨hc5, hf5⟩ := hcf5; have hz5 := hb5.size; (try simp at hz5); (try have hp5_0 : w.heap.size < w5.heap.size := by omega); (try have hp5_1 : w.heap.size + 1 < w5.heap.size := by omega); (try have hp5_2 : w.heap.size + 2 < w5.heap.size := by omega)))
                      have hb5' : Below wr.heap.size wr w5 := ⟨hb5.os, hb5.tape, hb5.output, hb5.size, hb5.block⟩
                      have ho5 := ho3.kept hb5'
                      have hbl5 : Below w.heap.size w w5 := hbl3.trans (hb5'.mono hsz)
                      clear hb5 hb5' ho3 hbl3 q0 q1 q2 q3 p0 p1 p2 p3 xm xk
                      by_cases hd : distB ms ma ml mm ks ka kl km ≤ lim
                      · have xm := ho5.cell (q := m) (by rw [HGL.out]; omega)
                        have xk := ho5.cell (q := k) (by rw [HGL.out]; omega)
                        have fm := ho5.frz m
                        have HN : Hid (rowI l lim m g1 (k + 1) = G.set m (if G.getD k 0 < G.getD m 0 then G.getD k 0 else G.getD m 0)) := Lib.hid (by
                          rw [HST.out]; unfold stepI; rw [HADJ.out, if_pos (by simpa using hd)]; congr 1; split <;> omega)
                        have HO := Lib.hid (ho5.set_ m (if G.getD k 0 < G.getD m 0 then G.getD k 0 else G.getD m 0))
                        have HB := Lib.hid (hbl5.setCell (p := ⟨gb, m, none⟩) hg (.int .i64 (if G.getD k 0 < G.getD m 0 then G.getD k 0 else G.getD m 0)))
                        generalize G.getD m 0 = x at *
                        generalize G.getD k 0 = y at *
                        clear ho5 hbl5
                        go_wp2
                        go_region
                        all_goals go_wp2
                        go_roundw
                        case rel => exact ⟨k + 1, by omega, by go_num, by rw [HN.out]; exact HO.out, HB.out.drew⟩
                        case measure => simp [intOf]; omega
                      · have HN : Hid (rowI l lim m g1 (k + 1) = G) := Lib.hid (by
                          rw [HST.out]; unfold stepI; rw [HADJ.out, if_neg (by simpa using hd)])
                        have HO := Lib.hid ho5
                        have HB := Lib.hid hbl5
                        clear ho5 hbl5
                        go_wp2
                        go_roundw
                        case rel => exact ⟨k + 1, by omega, by go_num, by rw [HN.out]; exact HO.out, HB.out⟩
                        case measure => simp [intOf]; omega
                    · have hkk : k = l.length := by omega
                      subst hkk
                      have HO := Lib.hid ho3
                      have HB := Lib.hid hbl3
                      clear ho3 hbl3 hcl hcell k0 k1 k2 k3
                      go_wp2
                      go_roundw
                      case rel => exact ⟨m + 1, by omega, by go_num, by rw [HS1.out]; exact HO.out, HB.out⟩
                      case measure => simp [intOf]; omega
                · have hmm : m = l.length := by omega
                  subst hmm
                  have HO := Lib.hid ho2
                  have HB := Lib.hid hbl2
                  clear ho2 hbl2 hcell
                  go_wp2
                  go_roundw
                  case rel => exact ⟨r + 1, by omega, by go_num, by rw [HR1.out]; exact HO.out, HB.out⟩
                  case measure => simp [intOf]; omega
            · have hrr : r = l.length := by omega
              subst hrr
              have HO := Lib.hid ho1
              have HB := Lib.hid hbl1
              clear ho1 hbl1 hcell
              go_wp2
              go_ret
              exact ⟨_, rfl, HO.out, HB.out⟩

end Go.Proofs.Ytdladmmhmncpoaa
