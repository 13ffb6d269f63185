/-
  The law of the recipes, walked.
-/
import Derived.Test.YtdladmmhmncpoaaRcpP
import Derived.Test.YtdladmmhmncpoaaGrpL
import Derived.Test.YtdladmmhmncpoaaMin
import Derived.IntWalk
import Derived.Deep.DeepCutAuto
set_option linter.unusedSimpArgs false
set_option linter.unusedVariables false
namespace Go.Proofs.Ytdladmmhmncpoaa
open Go.RowKit

theorem Blk.newAt {w : World} {g : Nat} {t : TypeId} {cs : Array Value} (h : g = w.heap.size) : Blk (w.alloc (.cells cs t)) g t cs := by
  subst h; exact Blk.new w t cs

theorem RI3 {w : World} {v : Value} {x y z : Int} (h : RI w v [x, y, z]) : ∃ b off c, v = .slice (some ⟨b, off, none⟩) 3 c ∧ b < w.heap.size ∧
    w.cell? ⟨b, off, none⟩ = some (.int .i64 x) ∧ w.cell? ⟨b, off + 1, none⟩ = some (.int .i64 y) ∧ w.cell? ⟨b, off + 2, none⟩ = some (.int .i64 z) := by
  obtain ⟨A, c, rfl, _, _, hc⟩ := h.form
  obtain ⟨b, off, rfl, hlt, hk⟩ := hc (by simp)
  exact ⟨b, off, c, rfl, hlt, hk 0 (by simp), hk 1 (by simp), hk 2 (by simp)⟩

theorem big_any (v : Value) (zs : List Int) (w : World) (h : RB w v zs) :
    Calls Try.prog 9 #[v] w fun e w' => e = .returned (.bool (decide ((1048576 : Int) < zs.length))) ∧ w = w' := by
  obtain ⟨A, c, rfl, hc, hm, hcell⟩ := h.form
  clear h hcell
  go_enter Try.func9, Try.ntmps9
  go_wp2
  go_ret
  exact ⟨rfl, rfl⟩

/-- A byte of the code. -/
def AtPost (w : World) (e : Ending) (w' : World) : Prop := ∃ x : Int, e = .returned (.int .i64 x) ∧ 0 ≤ x ∧ x ≤ 255 ∧ w = w'

theorem at_any (v : Value) (zs : List Int) (i : Nat) (w : World) (h : RB w v zs) (hle : zs.length ≤ 1048576) (hi : i ≤ 1000000) :
    Calls Try.prog 19 #[v, .int .i64 (i : Int)] w (AtPost w) := by
  obtain ⟨A, c, rfl, hc, hm, hcell⟩ := h.form
  clear h hm
  by_cases h0 : zs.length = 0
  · have h1 : ((zs.length : Int) == 0) = true := by rw [beq_iff_eq]; omega
    clear hcell
    go_enter Try.func19, Try.ntmps19
    go_wp2
    go_ret
    exact ⟨0, rfl, by omega, by omega, rfl⟩
  · have h1 : ((zs.length : Int) == 0) = false := by rw [beq_eq_false_iff_ne]; omega
    have hne : ¬ (zs.length : Int) = 0 := by omega
    obtain ⟨b, off, rfl, hb, hcl⟩ := hcell (by omega)
    have hlt : (i * 5 + 1) % zs.length < zs.length := Nat.mod_lt _ (by omega)
    have e : ((i : Int) * 5 + 1) % (zs.length : Int) = (((i * 5 + 1) % zs.length : Nat) : Int) := by simp
    obtain ⟨z, hz, hz0, hz1⟩ := hcl _ hlt
    have h0' : 0 ≤ ((i : Int) * 5 + 1) % (zs.length : Int) := by rw [e]; omega
    have h1' : ((i : Int) * 5 + 1) % (zs.length : Int) < (zs.length : Int) := by rw [e]; omega
    clear hcell hcl e
    go_enter Try.func19, Try.ntmps19
    go_wp2
    go_ret
    exact ⟨z, rfl, hz0, hz1, rfl⟩

theorem dist_at (a b c d a' b' c' d' x : Int) (w : World) (h : Hid (distB a b c d a' b' c' d' = x)) :
    Calls Try.prog 24 #[.agg #[.int .i64 a, .int .i64 b, .int .i64 c, .int .i64 d], .agg #[.int .i64 a', .int .i64 b', .int .i64 c', .int .i64 d']] w
      fun e w' => e = .returned (.int .i64 x) ∧ Below w.heap.size w w' :=
  (iDist_any a b c d a' b' c' d' w).mono fun e w' ⟨he, hw⟩ => ⟨he.trans (ret_int h.out), hw⟩

theorem recOk_at (a b c d : Int) (x : Bool) (w : World) (h : Hid (recipeB a b c d = x)) :
    Calls Try.prog 28 #[.agg #[.int .i64 a, .int .i64 b, .int .i64 c, .int .i64 d]] w fun e w' => e = .returned (.bool x) ∧ Below w.heap.size w w' :=
  (iRecipeOk_any a b c d w).mono fun e w' ⟨he, hw⟩ => ⟨he.trans (ret_bool h.out), hw⟩

theorem near_at (v : Value) (l : List Rc) (s a b c x : Int) (w : World) (h : RR w v l) (hx : Hid (nearF l ⟨s, a, b, c⟩ = x)) :
    Calls Try.prog 27 #[v, .agg #[.int .i64 s, .int .i64 a, .int .i64 b, .int .i64 c]] w fun e w' => e = .returned (.int .i64 x) ∧ Below w.heap.size w w' :=
  (iNear_any v l s a b c w h).mono fun e w' ⟨he, hw⟩ => ⟨he.trans (ret_int hx.out), hw⟩

theorem forg_at (v : Value) (l : List Rc) (s a b c lim : Int) (x : Bool) (w : World) (h : RR w v l) (hx : Hid (forgedF l ⟨s, a, b, c⟩ lim = x)) :
    Calls Try.prog 29 #[v, .agg #[.int .i64 s, .int .i64 a, .int .i64 b, .int .i64 c], .int .i64 lim] w fun e w' => e = .returned (.bool x) ∧ Below w.heap.size w w' :=
  (iForged_any v l s a b c lim w h).mono fun e w' ⟨he, hw⟩ => ⟨he.trans (ret_bool hx.out), hw⟩

theorem grp_at (v : Value) (l : List Rc) (lim : Int) (zs : List Int) (w : World) (h : RR w v l) (hx : Hid (groupsI l lim = zs)) :
    Calls Try.prog 25 #[v, .int .i64 lim] w (RetI zs w) := by
  rw [← hx.out]; exact iGroups_any v l lim w h

/-- A list of recipes just laid. -/
theorem RR_lit {w : World} {l : List Rc} {cs : Array Value} {t : TypeId} {g n c : Nat} (hg : g = w.heap.size) (hcs : cs.toList = l.flatMap Rc.cs) (hn : n = l.length) (hc : c = l.length) (hm : l.length ≤ maxLen) :
    RR (w.alloc (.cells cs t)) (.slice (some ⟨g, 0, none⟩) n c) l := by
  subst hg hn hc
  refine ⟨flat_len Rc.cs 4 (fun _ => rfl) l, _, _, rfl, by omega, hm, fun hn => ⟨w.heap.size, 0, rfl, by simp, fun j u hu => ?_⟩⟩
  rw [← hcs] at hu
  have hu' : cs[j]? = some u := by simpa using hu
  rw [Nat.zero_add, cell_of_row _ _ _ cs t (0, 0) (heap_alloc_new w _)]
  exact hu'

attribute [local go_sem ↓] run_mn2 run_mn3 run_mx2 run_mx3

set_option maxHeartbeats 4000000 in
set_option maxRecDepth 100000 in
theorem rcpLaw_any (v : Value) (zs : List Int) (w : World) (h : RB w v zs) :
    Calls Try.prog 4 #[v] w fun e w' => e = .returned (.bool true) ∧ Below w.heap.size w w' := by
  by_cases hbig : 1048576 < zs.length
  · have hb : decide ((1048576 : Int) < zs.length) = true := by simp; omega
    have HB := Lib.hid hb
    clear hb
    go_enter Try.func4, Try.ntmps4
    go_wp2_with fail
    refine (big_any v zs _ h).mono ?_
    rintro e w' ⟨rfl, rfl⟩
    rw [HB.out]
    go_wp2
    go_ret
    exact ⟨rfl, Below.refl _ _⟩
  · have hle : zs.length ≤ 1048576 := by omega
    have hb : decide ((1048576 : Int) < zs.length) = false := by simp; omega
    have HB := Lib.hid hb
    clear hb
    go_enter Try.func4, Try.ntmps4
    go_wp2_with fail
    refine (big_any v zs _ h).mono ?_
    rintro e w' ⟨rfl, rfl⟩
    rw [HB.out]
    go_wp2_with fail
    refine (drawRecipes_any v zs _ h hle).mono ?_
    rintro e w1 ⟨r0, r1, r2, r3, s0, s1, s2, s3, t0, t1, t2, t3, rfl, hr, hs, ht, hb1⟩
    have hz1 := hb1.size
    obtain ⟨d, hd⟩ : ∃ d, distB r0 r1 r2 r3 s0 s1 s2 s3 = d := ⟨_, rfl⟩
    obtain ⟨e, he⟩ : ∃ d, distB r0 r1 r2 r3 t0 t1 t2 t3 = d := ⟨_, rfl⟩
    obtain ⟨f, hf⟩ : ∃ d, distB s0 s1 s2 s3 t0 t1 t2 t3 = d := ⟨_, rfl⟩
    have hd' : distB s0 s1 s2 s3 r0 r1 r2 r3 = d := by rw [distB_comm]; exact hd
    have he' : distB t0 t1 t2 t3 r0 r1 r2 r3 = e := by rw [distB_comm]; exact he
    obtain ⟨d0, d1, d2, d3⟩ := dr_bd hr hs
    have qe := dr_bd hr ht
    have qf := dr_bd hs ht
    have e0 := qe.1
    have e1 := qe.2.1
    have f0 := qf.1
    have f1 := qf.2.1
    clear qe qf
    have tri := dr_tri hr hs ht
    rw [hd] at d0 d1 d2 d3 tri
    rw [he] at e0 e1 tri
    rw [hf] at f0 f1 tri
    have HD := Lib.hid hd
    have HE := Lib.hid he
    have HF := Lib.hid hf
    have HD' := Lib.hid hd'
    have HE' := Lib.hid he'
    have HD3 := Lib.hid d3
    clear hd he hf hd' he' d3
    have dd2 : (d % 2 != 0) = false := by simp [d2]
    have hN := near2 hr hs ht
    change nearF _ _ = if distB t0 t1 t2 t3 r0 r1 r2 r3 < distB s0 s1 s2 s3 r0 r1 r2 r3 then 1 else 0 at hN
    rw [HD'.out, HE'.out] at hN
    obtain ⟨x0, x1, x2, x3, hA, hM, hm1, hm2⟩ := avg3 hr hs ht
    have HA := Lib.hid hA
    have HM := Lib.hid hM
    have HN := Lib.hid hN
    have HR := Lib.hid hr
    have HS := Lib.hid hs
    have HT := Lib.hid ht
    clear hA hM hN hr hs ht d2
    go_wp2_with fail
    refine (dist_at _ _ _ _ _ _ _ _ _ _ HD).mono ?_
    rintro e w2 ⟨rfl, hb2⟩; (first | (with_reducible have hcf2 := bcell_drew hb2) | have hcf2 := bcell hb2); obtain ⟨hc2, hf2⟩ := hcf2; have hz2 := hb2.size; (try simp at hz2); (try have hp2_0 : w.heap.size < w2.heap.size := by omega); (try have hp2_1 : w.heap.size + 1 < w2.heap.size := by omega); (try have hp2_2 : w.heap.size + 2 < w2.heap.size := by omega)
    have hl : RR w2 (.slice (some ⟨w1.heap.size + 1 + 1 + 1, 0, none⟩) 3 3) [⟨r0, r1, r2, r3⟩, ⟨s0, s1, s2, s3⟩, ⟨t0, t1, t2, t3⟩] :=
      (RR_lit (by simp) rfl rfl rfl (by simp [maxLen])).below hb2
    have hbw2 : Below w.heap.size w w2 := by (repeat (first | exact Below.refl _ _ | assumption | refine Below.drew ?_ | refine below_drewN ?_ _ | refine Below.alloc ?_ (by first | omega | (simp; done) | (simp; omega)) _ | refine Below.setCell ?_ (by first | omega | (simp; done) | (simp; omega)) _ | refine Below.step (by assumption) ?_ (by first | omega | (simp; done) | (simp; omega)) | refine Below.mark (by assumption) (by assumption) ?_ (by first | omega | (simp; done) | (simp; omega)) (by first | omega | (simp; done) | (simp; omega))))
    have hBr : Blk w2 w1.heap.size 46 #[.int .i64 r0, .int .i64 r1, .int .i64 r2, .int .i64 r3] := Blk.below ((((Blk.newAt rfl).alloc _).alloc _).alloc _) hb2 (by first | omega | (simp; done) | (simp; omega))
    have hBs : Blk w2 (w1.heap.size + 1) 46 #[.int .i64 s0, .int .i64 s1, .int .i64 s2, .int .i64 s3] := Blk.below (((Blk.newAt (by simp)).alloc _).alloc _) hb2 (by first | omega | (simp; done) | (simp; omega))
    have hBt : Blk w2 (w1.heap.size + 1 + 1) 46 #[.int .i64 t0, .int .i64 t1, .int .i64 t2, .int .i64 t3] := Blk.below ((Blk.newAt (by simp)).alloc _) hb2 (by first | omega | (simp; done) | (simp; omega))
    have HL := Lib.hid hl
    clear hl hb2 hc2 hf2
    go_wp2_with fail
    refine (at_any v zs 0 _ (h.below hbw2) hle (by omega)).mono ?_
    rintro e3 w' ⟨lim, rfl, l0, l1, rfl⟩
    obtain ⟨x, y, hG, gx, gy⟩ := grp3 HR.out HS.out HT.out l0 l1
    change distB _ _ _ _ _ _ _ _ ≤ lim → _ at gx gy
    rw [HD.out] at gx
    rw [HE.out] at gy
    have HG := Lib.hid hG
    clear hG
    go_wp2_with fail
    refine (grp_at _ _ lim _ _ HL.out HG).mono ?_
    rintro e4 w4 ⟨v4, rfl, ho4, hb4⟩
    obtain ⟨b4, off4, c4, rfl, hlt4, q0, q1, q2⟩ := RI3 ho4.reads
    have hz4 := hb4.size
    go_wp2_with fail
    refine (iAvg_at _ _ _ _ _ _ _ _ (HL.out.below hb4) HA).mono ?_
    rintro e5 w5 ⟨rfl, hb5⟩
    have hz5 := hb5.size
    have hb25 : Below w2.heap.size w2 w5 := hb4.trans (hb5.mono hz4)
    have hBr5 := hBr.below hb25 hBr.lt
    have hBs5 := hBs.below hb25 hBs.lt
    have hBt5 := hBt.below hb25 hBt.lt
    (have cr_0 := hBr5.cell 0); (have cr_1 := hBr5.cell 1); (have cr_2 := hBr5.cell 2); (have cr_3 := hBr5.cell 3); simp only [List.getElem?_toArray, List.getElem?_cons_succ, List.getElem?_cons_zero] at cr_0 cr_1 cr_2 cr_3
    (have cs_0 := hBs5.cell 0); (have cs_1 := hBs5.cell 1); (have cs_2 := hBs5.cell 2); (have cs_3 := hBs5.cell 3); simp only [List.getElem?_toArray, List.getElem?_cons_succ, List.getElem?_cons_zero] at cs_0 cs_1 cs_2 cs_3
    (have ct_0 := hBt5.cell 0); (have ct_1 := hBt5.cell 1); (have ct_2 := hBt5.cell 2); (have ct_3 := hBt5.cell 3); simp only [List.getElem?_toArray, List.getElem?_cons_succ, List.getElem?_cons_zero] at ct_0 ct_1 ct_2 ct_3
    have lr := hBr5.lt
    have ls := hBs5.lt
    have lt := hBt5.lt
    have hbw5 : Below w.heap.size w w5 := hbw2.trans (hb25.mono hbw2.size)
    have q05 := (hb5.cell (p := ⟨b4, off4, none⟩) hlt4).trans q0
    have q15 := (hb5.cell (p := ⟨b4, off4 + 1, none⟩) hlt4).trans q1
    have q25 := (hb5.cell (p := ⟨b4, off4 + 2, none⟩) hlt4).trans q2
    have hlt45 : b4 < w5.heap.size := by omega
    have HL5 := Lib.hid (HL.out.below hb25)
    obtain ⟨k, hk⟩ : ∃ k : Int, (if e < d then 1 else 0) = k := ⟨_, rfl⟩
    have HK : Hid (k = if e < d then 1 else 0) := Lib.hid hk.symm
    have HN' := HN.out
    rw [hk] at HN'
    have HNK := Lib.hid HN'
    clear hBr hBs hBt hb4 hb5 hb25 ho4 hbw2 q0 q1 q2 HN' HN hk
    go_wp2_with fail
    refine (near_at _ [⟨s0, s1, s2, s3⟩, ⟨t0, t1, t2, t3⟩] _ _ _ _ k _ (RR_lit (by simp) rfl rfl rfl (by simp [maxLen])) HNK).mono ?_
    rintro e6 w6 ⟨rfl, hb6⟩
    have hz6 := hb6.size
    simp at hz6
    have hb56 : Below w5.heap.size w5 w6 := by
      refine Below.trans ?_ (hb6.mono (by first | omega | (simp; done) | (simp; omega)))
      exact ((Below.refl _ _).alloc (Nat.le_refl _) _).alloc (by first | omega | (simp; done) | (simp; omega)) _
    have hBm6 : Blk w6 w5.heap.size 46 #[.int .i64 x0, .int .i64 x1, .int .i64 x2, .int .i64 x3] := Blk.below ((Blk.newAt rfl).alloc _) hb6 (by first | omega | (simp; done) | (simp; omega))
    have hBr6 := hBr5.below hb56 lr
    have hBs6 := hBs5.below hb56 ls
    have hBt6 := hBt5.below hb56 lt
    have q06 := (hb56.cell (p := ⟨b4, off4, none⟩) hlt45).trans q05
    have q16 := (hb56.cell (p := ⟨b4, off4 + 1, none⟩) hlt45).trans q15
    have q26 := (hb56.cell (p := ⟨b4, off4 + 2, none⟩) hlt45).trans q25
    have hq6 : b4 < w6.heap.size := by omega
    have hbw6 : Below w.heap.size w w6 := hbw5.trans (hb56.mono hbw5.size)
    have HL6 := Lib.hid (HL5.out.below hb56)
    clear hb6 hb56 hBr5 hBs5 hBt5 q05 q15 q25 HL5 hbw5 cr_0 cr_1 cr_2 cr_3 cs_0 cs_1 cs_2 cs_3 ct_0 ct_1 ct_2 ct_3 HL
    (have cr_0 := hBr6.cell 0); (have cr_1 := hBr6.cell 1); (have cr_2 := hBr6.cell 2); (have cr_3 := hBr6.cell 3); simp only [List.getElem?_toArray, List.getElem?_cons_succ, List.getElem?_cons_zero] at cr_0 cr_1 cr_2 cr_3
    (have cs_0 := hBs6.cell 0); (have cs_1 := hBs6.cell 1); (have cs_2 := hBs6.cell 2); (have cs_3 := hBs6.cell 3); simp only [List.getElem?_toArray, List.getElem?_cons_succ, List.getElem?_cons_zero] at cs_0 cs_1 cs_2 cs_3
    (have ct_0 := hBt6.cell 0); (have ct_1 := hBt6.cell 1); (have ct_2 := hBt6.cell 2); (have ct_3 := hBt6.cell 3); simp only [List.getElem?_toArray, List.getElem?_cons_succ, List.getElem?_cons_zero] at ct_0 ct_1 ct_2 ct_3
    (have cm_0 := hBm6.cell 0); (have cm_1 := hBm6.cell 1); (have cm_2 := hBm6.cell 2); (have cm_3 := hBm6.cell 3); simp only [List.getElem?_toArray, List.getElem?_cons_succ, List.getElem?_cons_zero] at cm_0 cm_1 cm_2 cm_3
    have lr6 := hBr6.lt
    have ls6 := hBs6.lt
    have lt6 := hBt6.lt
    have lm6 := hBm6.lt
    clear lr ls lt hz4 hz5 hlt4 hlt45
    go_wp2_with fail
    have gd0 : decide (d < 0) = false := by simp; omega
    have gtri : decide (IntKind.i64.wrap (d + f) < e) = false := by rw [IntWalk.i64_in _ (by omega)]; simp; omega
    have gmod : (d.tmod 2 != 0) = false := by rw [Int.tmod_eq_emod_of_nonneg d0]; exact dd2
    have gk0 : decide (k < 0) = false := by have := HK.out; split at this <;> simp <;> omega
    have gk1 : decide (1 < k) = false := by have := HK.out; split at this <;> simp <;> omega
    have hse : ∀ W : World, (Op.equalIn 10000 46 (.agg #[.int .i64 r0, .int .i64 r1, .int .i64 r2, .int .i64 r3]) (.agg #[.int .i64 s0, .int .i64 s1, .int .i64 s2, .int .i64 s3])).run Try.prog W = .ok (d == 0) W := by
      intro W
      have h3 := HD3.out
      by_cases hd0 : d = 0
      · obtain ⟨rfl, rfl, rfl, rfl⟩ := h3.1 hd0
        subst hd0
        go_simp
      · have hbd : (d == 0) = false := by simpa using hd0
        rw [hbd]
        go_simp
        have hn := fun hh => hd0 (h3.2 hh)
        by_cases a0 : r0 = s0
        · by_cases a1 : r1 = s1
          · by_cases a2 : r2 = s2
            · by_cases a3 : r3 = s3
              · exact absurd ⟨a0, a1, a2, a3⟩ hn
              · simp [a0, a1, a2, a3]
            · simp [a0, a1, a2]
          · simp [a0, a1]
        · simp [a0]
    generalize w1.heap.size = B1 at *
    generalize w5.heap.size = B5 at *
    go_cut [98] (fun s98 wx => s98 = .bool false ∧ Below w6.heap.size w6 wx)
    case first =>
      go_region_held3 (fun w' => w'.cell? ⟨B1, 0, none⟩ = some (.int .i64 r0) ∧ w'.cell? ⟨B1, 1, none⟩ = some (.int .i64 r1) ∧ w'.cell? ⟨B1, 2, none⟩ = some (.int .i64 r2) ∧ w'.cell? ⟨B1, 3, none⟩ = some (.int .i64 r3) ∧
          w'.cell? ⟨B1 + 1, 0, none⟩ = some (.int .i64 s0) ∧ w'.cell? ⟨B1 + 1, 1, none⟩ = some (.int .i64 s1) ∧ w'.cell? ⟨B1 + 1, 2, none⟩ = some (.int .i64 s2) ∧ w'.cell? ⟨B1 + 1, 3, none⟩ = some (.int .i64 s3) ∧
          w'.cell? ⟨B1 + 1 + 1, 0, none⟩ = some (.int .i64 t0) ∧ w'.cell? ⟨B1 + 1 + 1, 1, none⟩ = some (.int .i64 t1) ∧ w'.cell? ⟨B1 + 1 + 1, 2, none⟩ = some (.int .i64 t2) ∧ w'.cell? ⟨B1 + 1 + 1, 3, none⟩ = some (.int .i64 t3) ∧
          w'.cell? ⟨B5, 0, none⟩ = some (.int .i64 x0) ∧ w'.cell? ⟨B5, 1, none⟩ = some (.int .i64 x1) ∧ w'.cell? ⟨B5, 2, none⟩ = some (.int .i64 x2) ∧ w'.cell? ⟨B5, 3, none⟩ = some (.int .i64 x3))
        (go_keep)
        (first | (go_at_call 24; (first | (with_reducible refine Calls.mono (dist_at _ _ _ _ _ _ _ _ _ _ HD') ?_) | (with_reducible refine Calls.mono (dist_at _ _ _ _ _ _ _ _ _ _ HE) ?_) | (with_reducible refine Calls.mono (dist_at _ _ _ _ _ _ _ _ _ _ HF) ?_)); rintro e w7 ⟨rfl, hb7⟩; (first | (with_reducible have hcf7 := bcell_drew hb7) | have hcf7 := bcell hb7); obtain ⟨hc7, hf7⟩ := hcf7; have hz7 := hb7.size; (try simp at hz7); (try have hp7_0 : w.heap.size < w7.heap.size := by omega); (try have hp7_1 : w.heap.size + 1 < w7.heap.size := by omega); (try have hp7_2 : w.heap.size + 2 < w7.heap.size := by omega); (have lr7 : B1 < w7.heap.size := by omega); (have ls7 : B1 + 1 < w7.heap.size := by omega); (have lt7 : B1 + 1 + 1 < w7.heap.size := by omega); (have lm7 : B5 < w7.heap.size := by omega)) | (go_at_call 28; refine Calls.mono (recOk_at _ _ _ _ _ _ HM) ?_; rintro e w7 ⟨rfl, hb7⟩; (first | (with_reducible have hcf7 := bcell_drew hb7) | have hcf7 := bcell hb7); obtain ⟨hc7, hf7⟩ := hcf7; have hz7 := hb7.size; (try simp at hz7); (try have hp7_0 : w.heap.size < w7.heap.size := by omega); (try have hp7_1 : w.heap.size + 1 < w7.heap.size := by omega); (try have hp7_2 : w.heap.size + 2 < w7.heap.size := by omega); (have lr7 : B1 < w7.heap.size := by omega); (have ls7 : B1 + 1 < w7.heap.size := by omega); (have lt7 : B1 + 1 + 1 < w7.heap.size := by omega); (have lm7 : B5 < w7.heap.size := by omega)))
      all_goals go_wp2_with fail
      all_goals go_meet
      all_goals exact ⟨rfl, by (repeat (first | exact Below.refl _ _ | assumption | refine Below.drew ?_ | refine below_drewN ?_ _ | refine Below.alloc ?_ (by first | omega | (simp; done) | (simp; omega)) _ | refine Below.setCell ?_ (by first | omega | (simp; done) | (simp; omega)) _ | refine Below.step (by assumption) ?_ (by first | omega | (simp; done) | (simp; omega)) | refine Below.mark (by assumption) (by assumption) ?_ (by first | omega | (simp; done) | (simp; omega)) (by first | omega | (simp; done) | (simp; omega))))⟩
    case rest =>
      obtain ⟨rfl, hb7⟩ := hcut
      obtain ⟨w7, hw7⟩ : ∃ w7 : World, w7 = wc := ⟨_, rfl⟩
      subst hw7
      have hk0 : (k == 0) = decide (d ≤ e) := by
        have := HK.out
        split at this
        · subst this; simp; omega
        · subst this; simp; omega
      have HF0 := Lib.hid (forg3 HR.out HS.out HT.out)
      have hF2 := forg2 HR.out HS.out HT.out l0 l1
      change forgedF _ _ _ = decide (lim < if distB t0 t1 t2 t3 r0 r1 r2 r3 < distB s0 s1 s2 s3 r0 r1 r2 r3 then distB t0 t1 t2 t3 r0 r1 r2 r3 else distB s0 s1 s2 s3 r0 r1 r2 r3) at hF2
      rw [HD'.out, HE'.out] at hF2
      change forgedF _ _ _ = decide (lim < mn2 d e) at hF2
      have HF2 := Lib.hid hF2
      clear hF2 hse gd0 gtri gmod gk0 gk1 dd2
      (have hBr7 := hBr6.below hb7 lr6); (have hBs7 := hBs6.below hb7 ls6); (have hBt7 := hBt6.below hb7 lt6); (have hBm7 := hBm6.below hb7 lm6); (have hz7 := hb7.size); (have q07 := (hb7.cell (p := ⟨b4, off4, none⟩) hq6).trans q06); (have q17 := (hb7.cell (p := ⟨b4, off4 + 1, none⟩) hq6).trans q16); (have q27 := (hb7.cell (p := ⟨b4, off4 + 2, none⟩) hq6).trans q26); (have hq7 : b4 < w7.heap.size := by omega); (have hbw7 : Below w.heap.size w w7 := hbw6.trans (hb7.mono hbw6.size)); (have HL7 := Lib.hid (HL6.out.below hb7)); clear hb7 hBr6 hBs6 hBt6 hBm6 q06 q16 q26 hq6 hbw6 HL6 cr_0 cr_1 cr_2 cr_3 cs_0 cs_1 cs_2 cs_3 ct_0 ct_1 ct_2 ct_3 cm_0 cm_1 cm_2 cm_3 lr6 ls6 lt6 lm6; (have cr_0 := hBr7.cell 0); (have cr_1 := hBr7.cell 1); (have cr_2 := hBr7.cell 2); (have cr_3 := hBr7.cell 3); simp only [List.getElem?_toArray, List.getElem?_cons_succ, List.getElem?_cons_zero] at cr_0 cr_1 cr_2 cr_3; (have cs_0 := hBs7.cell 0); (have cs_1 := hBs7.cell 1); (have cs_2 := hBs7.cell 2); (have cs_3 := hBs7.cell 3); simp only [List.getElem?_toArray, List.getElem?_cons_succ, List.getElem?_cons_zero] at cs_0 cs_1 cs_2 cs_3; (have ct_0 := hBt7.cell 0); (have ct_1 := hBt7.cell 1); (have ct_2 := hBt7.cell 2); (have ct_3 := hBt7.cell 3); simp only [List.getElem?_toArray, List.getElem?_cons_succ, List.getElem?_cons_zero] at ct_0 ct_1 ct_2 ct_3; (have cm_0 := hBm7.cell 0); (have cm_1 := hBm7.cell 1); (have cm_2 := hBm7.cell 2); (have cm_3 := hBm7.cell 3); simp only [List.getElem?_toArray, List.getElem?_cons_succ, List.getElem?_cons_zero] at cm_0 cm_1 cm_2 cm_3; (have lr7 := hBr7.lt); (have ls7 := hBs7.lt); (have lt7 := hBt7.lt); (have lm7 := hBm7.lt)
      by_cases hdl : d ≤ lim
      · have hx0 := gx hdl
        subst hx0
        clear gx
        go_wp2_with fail
        refine (dist_at _ _ _ _ _ _ _ _ _ _ HE').mono ?_
        rintro e8 w8 ⟨rfl, hb8⟩
        (have hBr8 := hBr7.below hb8 lr7); (have hBs8 := hBs7.below hb8 ls7); (have hBt8 := hBt7.below hb8 lt7); (have hBm8 := hBm7.below hb8 lm7); (have hz8 := hb8.size); (have q08 := (hb8.cell (p := ⟨b4, off4, none⟩) hq7).trans q07); (have q18 := (hb8.cell (p := ⟨b4, off4 + 1, none⟩) hq7).trans q17); (have q28 := (hb8.cell (p := ⟨b4, off4 + 2, none⟩) hq7).trans q27); (have hq8 : b4 < w8.heap.size := by omega); (have hbw8 : Below w.heap.size w w8 := hbw7.trans (hb8.mono hbw7.size)); (have HL8 := Lib.hid (HL7.out.below hb8)); clear hb8 hBr7 hBs7 hBt7 hBm7 q07 q17 q27 hq7 hbw7 HL7 cr_0 cr_1 cr_2 cr_3 cs_0 cs_1 cs_2 cs_3 ct_0 ct_1 ct_2 ct_3 cm_0 cm_1 cm_2 cm_3 lr7 ls7 lt7 lm7; (have cr_0 := hBr8.cell 0); (have cr_1 := hBr8.cell 1); (have cr_2 := hBr8.cell 2); (have cr_3 := hBr8.cell 3); simp only [List.getElem?_toArray, List.getElem?_cons_succ, List.getElem?_cons_zero] at cr_0 cr_1 cr_2 cr_3; (have cs_0 := hBs8.cell 0); (have cs_1 := hBs8.cell 1); (have cs_2 := hBs8.cell 2); (have cs_3 := hBs8.cell 3); simp only [List.getElem?_toArray, List.getElem?_cons_succ, List.getElem?_cons_zero] at cs_0 cs_1 cs_2 cs_3; (have ct_0 := hBt8.cell 0); (have ct_1 := hBt8.cell 1); (have ct_2 := hBt8.cell 2); (have ct_3 := hBt8.cell 3); simp only [List.getElem?_toArray, List.getElem?_cons_succ, List.getElem?_cons_zero] at ct_0 ct_1 ct_2 ct_3; (have cm_0 := hBm8.cell 0); (have cm_1 := hBm8.cell 1); (have cm_2 := hBm8.cell 2); (have cm_3 := hBm8.cell 3); simp only [List.getElem?_toArray, List.getElem?_cons_succ, List.getElem?_cons_zero] at cm_0 cm_1 cm_2 cm_3; (have lr8 := hBr8.lt); (have ls8 := hBs8.lt); (have lt8 := hBt8.lt); (have lm8 := hBm8.lt)
        go_wp2_with fail
        refine (forg_at _ _ _ _ _ _ _ _ _ HL8.out HF0).mono ?_
        rintro e9 w9 ⟨rfl, hb9⟩
        (have hBr9 := hBr8.below hb9 lr8); (have hBs9 := hBs8.below hb9 ls8); (have hBt9 := hBt8.below hb9 lt8); (have hBm9 := hBm8.below hb9 lm8); (have hz9 := hb9.size); (have q09 := (hb9.cell (p := ⟨b4, off4, none⟩) hq8).trans q08); (have q19 := (hb9.cell (p := ⟨b4, off4 + 1, none⟩) hq8).trans q18); (have q29 := (hb9.cell (p := ⟨b4, off4 + 2, none⟩) hq8).trans q28); (have hq9 : b4 < w9.heap.size := by omega); (have hbw9 : Below w.heap.size w w9 := hbw8.trans (hb9.mono hbw8.size)); (have HL9 := Lib.hid (HL8.out.below hb9)); clear hb9 hBr8 hBs8 hBt8 hBm8 q08 q18 q28 hq8 hbw8 HL8 cr_0 cr_1 cr_2 cr_3 cs_0 cs_1 cs_2 cs_3 ct_0 ct_1 ct_2 ct_3 cm_0 cm_1 cm_2 cm_3 lr8 ls8 lt8 lm8; (have cr_0 := hBr9.cell 0); (have cr_1 := hBr9.cell 1); (have cr_2 := hBr9.cell 2); (have cr_3 := hBr9.cell 3); simp only [List.getElem?_toArray, List.getElem?_cons_succ, List.getElem?_cons_zero] at cr_0 cr_1 cr_2 cr_3; (have cs_0 := hBs9.cell 0); (have cs_1 := hBs9.cell 1); (have cs_2 := hBs9.cell 2); (have cs_3 := hBs9.cell 3); simp only [List.getElem?_toArray, List.getElem?_cons_succ, List.getElem?_cons_zero] at cs_0 cs_1 cs_2 cs_3; (have ct_0 := hBt9.cell 0); (have ct_1 := hBt9.cell 1); (have ct_2 := hBt9.cell 2); (have ct_3 := hBt9.cell 3); simp only [List.getElem?_toArray, List.getElem?_cons_succ, List.getElem?_cons_zero] at ct_0 ct_1 ct_2 ct_3; (have cm_0 := hBm9.cell 0); (have cm_1 := hBm9.cell 1); (have cm_2 := hBm9.cell 2); (have cm_3 := hBm9.cell 3); simp only [List.getElem?_toArray, List.getElem?_cons_succ, List.getElem?_cons_zero] at cm_0 cm_1 cm_2 cm_3; (have lr9 := hBr9.lt); (have ls9 := hBs9.lt); (have lt9 := hBt9.lt); (have lm9 := hBm9.lt)
        go_wp2_with fail
        refine (dist_at _ _ _ _ _ _ _ _ _ _ HE).mono ?_
        rintro e10 w10 ⟨rfl, hb10⟩
        (have hBr10 := hBr9.below hb10 lr9); (have hBs10 := hBs9.below hb10 ls9); (have hBt10 := hBt9.below hb10 lt9); (have hBm10 := hBm9.below hb10 lm9); (have hz10 := hb10.size); (have q010 := (hb10.cell (p := ⟨b4, off4, none⟩) hq9).trans q09); (have q110 := (hb10.cell (p := ⟨b4, off4 + 1, none⟩) hq9).trans q19); (have q210 := (hb10.cell (p := ⟨b4, off4 + 2, none⟩) hq9).trans q29); (have hq10 : b4 < w10.heap.size := by omega); (have hbw10 : Below w.heap.size w w10 := hbw9.trans (hb10.mono hbw9.size)); (have HL10 := Lib.hid (HL9.out.below hb10)); clear hb10 hBr9 hBs9 hBt9 hBm9 q09 q19 q29 hq9 hbw9 HL9 cr_0 cr_1 cr_2 cr_3 cs_0 cs_1 cs_2 cs_3 ct_0 ct_1 ct_2 ct_3 cm_0 cm_1 cm_2 cm_3 lr9 ls9 lt9 lm9; (have cr_0 := hBr10.cell 0); (have cr_1 := hBr10.cell 1); (have cr_2 := hBr10.cell 2); (have cr_3 := hBr10.cell 3); simp only [List.getElem?_toArray, List.getElem?_cons_succ, List.getElem?_cons_zero] at cr_0 cr_1 cr_2 cr_3; (have cs_0 := hBs10.cell 0); (have cs_1 := hBs10.cell 1); (have cs_2 := hBs10.cell 2); (have cs_3 := hBs10.cell 3); simp only [List.getElem?_toArray, List.getElem?_cons_succ, List.getElem?_cons_zero] at cs_0 cs_1 cs_2 cs_3; (have ct_0 := hBt10.cell 0); (have ct_1 := hBt10.cell 1); (have ct_2 := hBt10.cell 2); (have ct_3 := hBt10.cell 3); simp only [List.getElem?_toArray, List.getElem?_cons_succ, List.getElem?_cons_zero] at ct_0 ct_1 ct_2 ct_3; (have cm_0 := hBm10.cell 0); (have cm_1 := hBm10.cell 1); (have cm_2 := hBm10.cell 2); (have cm_3 := hBm10.cell 3); simp only [List.getElem?_toArray, List.getElem?_cons_succ, List.getElem?_cons_zero] at cm_0 cm_1 cm_2 cm_3; (have lr10 := hBr10.lt); (have ls10 := hBs10.lt); (have lt10 := hBt10.lt); (have lm10 := hBm10.lt)
        have gmin : decide (mn3 r1 s1 t1 ≤ x1) = true := by rw [mn3_eq]; simpa using hm1
        have gmax : decide (x1 ≤ mx3 r1 s1 t1) = true := by rw [mx3_eq]; simpa using hm2
        go_wp2_with fail
        refine (forg_at _ [⟨s0, s1, s2, s3⟩, ⟨t0, t1, t2, t3⟩] _ _ _ _ _ _ _ (RR_lit (by simp) rfl rfl rfl (by simp [maxLen])) HF2).mono ?_
        rintro e11 w11 ⟨rfl, hb11'⟩
        have hb11 : Below w10.heap.size w10 w11 := ((Below.refl _ _).alloc (Nat.le_refl _) _).trans (hb11'.mono (by first | omega | (simp; done) | (simp; omega)))
        clear hb11'
        (have hBr11 := hBr10.below hb11 lr10); (have hBs11 := hBs10.below hb11 ls10); (have hBt11 := hBt10.below hb11 lt10); (have hBm11 := hBm10.below hb11 lm10); (have hz11 := hb11.size); (have q011 := (hb11.cell (p := ⟨b4, off4, none⟩) hq10).trans q010); (have q111 := (hb11.cell (p := ⟨b4, off4 + 1, none⟩) hq10).trans q110); (have q211 := (hb11.cell (p := ⟨b4, off4 + 2, none⟩) hq10).trans q210); (have hq11 : b4 < w11.heap.size := by omega); (have hbw11 : Below w.heap.size w w11 := hbw10.trans (hb11.mono hbw10.size)); (have HL11 := Lib.hid (HL10.out.below hb11)); clear hb11 hBr10 hBs10 hBt10 hBm10 q010 q110 q210 hq10 hbw10 HL10 cr_0 cr_1 cr_2 cr_3 cs_0 cs_1 cs_2 cs_3 ct_0 ct_1 ct_2 ct_3 cm_0 cm_1 cm_2 cm_3 lr10 ls10 lt10 lm10; (have cr_0 := hBr11.cell 0); (have cr_1 := hBr11.cell 1); (have cr_2 := hBr11.cell 2); (have cr_3 := hBr11.cell 3); simp only [List.getElem?_toArray, List.getElem?_cons_succ, List.getElem?_cons_zero] at cr_0 cr_1 cr_2 cr_3; (have cs_0 := hBs11.cell 0); (have cs_1 := hBs11.cell 1); (have cs_2 := hBs11.cell 2); (have cs_3 := hBs11.cell 3); simp only [List.getElem?_toArray, List.getElem?_cons_succ, List.getElem?_cons_zero] at cs_0 cs_1 cs_2 cs_3; (have ct_0 := hBt11.cell 0); (have ct_1 := hBt11.cell 1); (have ct_2 := hBt11.cell 2); (have ct_3 := hBt11.cell 3); simp only [List.getElem?_toArray, List.getElem?_cons_succ, List.getElem?_cons_zero] at ct_0 ct_1 ct_2 ct_3; (have cm_0 := hBm11.cell 0); (have cm_1 := hBm11.cell 1); (have cm_2 := hBm11.cell 2); (have cm_3 := hBm11.cell 3); simp only [List.getElem?_toArray, List.getElem?_cons_succ, List.getElem?_cons_zero] at cm_0 cm_1 cm_2 cm_3; (have lr11 := hBr11.lt); (have ls11 := hBs11.lt); (have lt11 := hBt11.lt); (have lm11 := hBm11.lt)
        by_cases hy : y = 0
        · subst hy
          go_wp2_with fail
          go_ret
          exact ⟨rfl, hbw11⟩
        · have hy1 : (y == 0) = false := by simpa using hy
          have hye : lim < e := by
            by_cases hh : e ≤ lim
            · exact absurd (gy hh) hy
            · omega
          clear gy
          go_wp2_with fail
          refine (dist_at _ _ _ _ _ _ _ _ _ _ HE).mono ?_
          rintro e12 w12 ⟨rfl, hb12⟩
          go_wp2_with fail
          go_ret
          exact ⟨rfl, hbw11.trans (hb12.mono hbw11.size)⟩
      · clear gx
        go_wp2_with fail
        refine (dist_at _ _ _ _ _ _ _ _ _ _ HE').mono ?_
        rintro e8 w8 ⟨rfl, hb8⟩
        (have hBr8 := hBr7.below hb8 lr7); (have hBs8 := hBs7.below hb8 ls7); (have hBt8 := hBt7.below hb8 lt7); (have hBm8 := hBm7.below hb8 lm7); (have hz8 := hb8.size); (have q08 := (hb8.cell (p := ⟨b4, off4, none⟩) hq7).trans q07); (have q18 := (hb8.cell (p := ⟨b4, off4 + 1, none⟩) hq7).trans q17); (have q28 := (hb8.cell (p := ⟨b4, off4 + 2, none⟩) hq7).trans q27); (have hq8 : b4 < w8.heap.size := by omega); (have hbw8 : Below w.heap.size w w8 := hbw7.trans (hb8.mono hbw7.size)); (have HL8 := Lib.hid (HL7.out.below hb8)); clear hb8 hBr7 hBs7 hBt7 hBm7 q07 q17 q27 hq7 hbw7 HL7 cr_0 cr_1 cr_2 cr_3 cs_0 cs_1 cs_2 cs_3 ct_0 ct_1 ct_2 ct_3 cm_0 cm_1 cm_2 cm_3 lr7 ls7 lt7 lm7; (have cr_0 := hBr8.cell 0); (have cr_1 := hBr8.cell 1); (have cr_2 := hBr8.cell 2); (have cr_3 := hBr8.cell 3); simp only [List.getElem?_toArray, List.getElem?_cons_succ, List.getElem?_cons_zero] at cr_0 cr_1 cr_2 cr_3; (have cs_0 := hBs8.cell 0); (have cs_1 := hBs8.cell 1); (have cs_2 := hBs8.cell 2); (have cs_3 := hBs8.cell 3); simp only [List.getElem?_toArray, List.getElem?_cons_succ, List.getElem?_cons_zero] at cs_0 cs_1 cs_2 cs_3; (have ct_0 := hBt8.cell 0); (have ct_1 := hBt8.cell 1); (have ct_2 := hBt8.cell 2); (have ct_3 := hBt8.cell 3); simp only [List.getElem?_toArray, List.getElem?_cons_succ, List.getElem?_cons_zero] at ct_0 ct_1 ct_2 ct_3; (have cm_0 := hBm8.cell 0); (have cm_1 := hBm8.cell 1); (have cm_2 := hBm8.cell 2); (have cm_3 := hBm8.cell 3); simp only [List.getElem?_toArray, List.getElem?_cons_succ, List.getElem?_cons_zero] at cm_0 cm_1 cm_2 cm_3; (have lr8 := hBr8.lt); (have ls8 := hBs8.lt); (have lt8 := hBt8.lt); (have lm8 := hBm8.lt)
        go_wp2_with fail
        refine (forg_at _ _ _ _ _ _ _ _ _ HL8.out HF0).mono ?_
        rintro e9 w9 ⟨rfl, hb9⟩
        (have hBr9 := hBr8.below hb9 lr8); (have hBs9 := hBs8.below hb9 ls8); (have hBt9 := hBt8.below hb9 lt8); (have hBm9 := hBm8.below hb9 lm8); (have hz9 := hb9.size); (have q09 := (hb9.cell (p := ⟨b4, off4, none⟩) hq8).trans q08); (have q19 := (hb9.cell (p := ⟨b4, off4 + 1, none⟩) hq8).trans q18); (have q29 := (hb9.cell (p := ⟨b4, off4 + 2, none⟩) hq8).trans q28); (have hq9 : b4 < w9.heap.size := by omega); (have hbw9 : Below w.heap.size w w9 := hbw8.trans (hb9.mono hbw8.size)); (have HL9 := Lib.hid (HL8.out.below hb9)); clear hb9 hBr8 hBs8 hBt8 hBm8 q08 q18 q28 hq8 hbw8 HL8 cr_0 cr_1 cr_2 cr_3 cs_0 cs_1 cs_2 cs_3 ct_0 ct_1 ct_2 ct_3 cm_0 cm_1 cm_2 cm_3 lr8 ls8 lt8 lm8; (have cr_0 := hBr9.cell 0); (have cr_1 := hBr9.cell 1); (have cr_2 := hBr9.cell 2); (have cr_3 := hBr9.cell 3); simp only [List.getElem?_toArray, List.getElem?_cons_succ, List.getElem?_cons_zero] at cr_0 cr_1 cr_2 cr_3; (have cs_0 := hBs9.cell 0); (have cs_1 := hBs9.cell 1); (have cs_2 := hBs9.cell 2); (have cs_3 := hBs9.cell 3); simp only [List.getElem?_toArray, List.getElem?_cons_succ, List.getElem?_cons_zero] at cs_0 cs_1 cs_2 cs_3; (have ct_0 := hBt9.cell 0); (have ct_1 := hBt9.cell 1); (have ct_2 := hBt9.cell 2); (have ct_3 := hBt9.cell 3); simp only [List.getElem?_toArray, List.getElem?_cons_succ, List.getElem?_cons_zero] at ct_0 ct_1 ct_2 ct_3; (have cm_0 := hBm9.cell 0); (have cm_1 := hBm9.cell 1); (have cm_2 := hBm9.cell 2); (have cm_3 := hBm9.cell 3); simp only [List.getElem?_toArray, List.getElem?_cons_succ, List.getElem?_cons_zero] at cm_0 cm_1 cm_2 cm_3; (have lr9 := hBr9.lt); (have ls9 := hBs9.lt); (have lt9 := hBt9.lt); (have lm9 := hBm9.lt)
        go_wp2_with fail
        refine (dist_at _ _ _ _ _ _ _ _ _ _ HE).mono ?_
        rintro e10 w10 ⟨rfl, hb10⟩
        (have hBr10 := hBr9.below hb10 lr9); (have hBs10 := hBs9.below hb10 ls9); (have hBt10 := hBt9.below hb10 lt9); (have hBm10 := hBm9.below hb10 lm9); (have hz10 := hb10.size); (have q010 := (hb10.cell (p := ⟨b4, off4, none⟩) hq9).trans q09); (have q110 := (hb10.cell (p := ⟨b4, off4 + 1, none⟩) hq9).trans q19); (have q210 := (hb10.cell (p := ⟨b4, off4 + 2, none⟩) hq9).trans q29); (have hq10 : b4 < w10.heap.size := by omega); (have hbw10 : Below w.heap.size w w10 := hbw9.trans (hb10.mono hbw9.size)); (have HL10 := Lib.hid (HL9.out.below hb10)); clear hb10 hBr9 hBs9 hBt9 hBm9 q09 q19 q29 hq9 hbw9 HL9 cr_0 cr_1 cr_2 cr_3 cs_0 cs_1 cs_2 cs_3 ct_0 ct_1 ct_2 ct_3 cm_0 cm_1 cm_2 cm_3 lr9 ls9 lt9 lm9; (have cr_0 := hBr10.cell 0); (have cr_1 := hBr10.cell 1); (have cr_2 := hBr10.cell 2); (have cr_3 := hBr10.cell 3); simp only [List.getElem?_toArray, List.getElem?_cons_succ, List.getElem?_cons_zero] at cr_0 cr_1 cr_2 cr_3; (have cs_0 := hBs10.cell 0); (have cs_1 := hBs10.cell 1); (have cs_2 := hBs10.cell 2); (have cs_3 := hBs10.cell 3); simp only [List.getElem?_toArray, List.getElem?_cons_succ, List.getElem?_cons_zero] at cs_0 cs_1 cs_2 cs_3; (have ct_0 := hBt10.cell 0); (have ct_1 := hBt10.cell 1); (have ct_2 := hBt10.cell 2); (have ct_3 := hBt10.cell 3); simp only [List.getElem?_toArray, List.getElem?_cons_succ, List.getElem?_cons_zero] at ct_0 ct_1 ct_2 ct_3; (have cm_0 := hBm10.cell 0); (have cm_1 := hBm10.cell 1); (have cm_2 := hBm10.cell 2); (have cm_3 := hBm10.cell 3); simp only [List.getElem?_toArray, List.getElem?_cons_succ, List.getElem?_cons_zero] at cm_0 cm_1 cm_2 cm_3; (have lr10 := hBr10.lt); (have ls10 := hBs10.lt); (have lt10 := hBt10.lt); (have lm10 := hBm10.lt)
        have gmin : decide (mn3 r1 s1 t1 ≤ x1) = true := by rw [mn3_eq]; simpa using hm1
        have gmax : decide (x1 ≤ mx3 r1 s1 t1) = true := by rw [mx3_eq]; simpa using hm2
        go_wp2_with fail
        refine (forg_at _ [⟨s0, s1, s2, s3⟩, ⟨t0, t1, t2, t3⟩] _ _ _ _ _ _ _ (RR_lit (by simp) rfl rfl rfl (by simp [maxLen])) HF2).mono ?_
        rintro e11 w11 ⟨rfl, hb11'⟩
        have hb11 : Below w10.heap.size w10 w11 := ((Below.refl _ _).alloc (Nat.le_refl _) _).trans (hb11'.mono (by first | omega | (simp; done) | (simp; omega)))
        clear hb11'
        (have hBr11 := hBr10.below hb11 lr10); (have hBs11 := hBs10.below hb11 ls10); (have hBt11 := hBt10.below hb11 lt10); (have hBm11 := hBm10.below hb11 lm10); (have hz11 := hb11.size); (have q011 := (hb11.cell (p := ⟨b4, off4, none⟩) hq10).trans q010); (have q111 := (hb11.cell (p := ⟨b4, off4 + 1, none⟩) hq10).trans q110); (have q211 := (hb11.cell (p := ⟨b4, off4 + 2, none⟩) hq10).trans q210); (have hq11 : b4 < w11.heap.size := by omega); (have hbw11 : Below w.heap.size w w11 := hbw10.trans (hb11.mono hbw10.size)); (have HL11 := Lib.hid (HL10.out.below hb11)); clear hb11 hBr10 hBs10 hBt10 hBm10 q010 q110 q210 hq10 hbw10 HL10 cr_0 cr_1 cr_2 cr_3 cs_0 cs_1 cs_2 cs_3 ct_0 ct_1 ct_2 ct_3 cm_0 cm_1 cm_2 cm_3 lr10 ls10 lt10 lm10; (have cr_0 := hBr11.cell 0); (have cr_1 := hBr11.cell 1); (have cr_2 := hBr11.cell 2); (have cr_3 := hBr11.cell 3); simp only [List.getElem?_toArray, List.getElem?_cons_succ, List.getElem?_cons_zero] at cr_0 cr_1 cr_2 cr_3; (have cs_0 := hBs11.cell 0); (have cs_1 := hBs11.cell 1); (have cs_2 := hBs11.cell 2); (have cs_3 := hBs11.cell 3); simp only [List.getElem?_toArray, List.getElem?_cons_succ, List.getElem?_cons_zero] at cs_0 cs_1 cs_2 cs_3; (have ct_0 := hBt11.cell 0); (have ct_1 := hBt11.cell 1); (have ct_2 := hBt11.cell 2); (have ct_3 := hBt11.cell 3); simp only [List.getElem?_toArray, List.getElem?_cons_succ, List.getElem?_cons_zero] at ct_0 ct_1 ct_2 ct_3; (have cm_0 := hBm11.cell 0); (have cm_1 := hBm11.cell 1); (have cm_2 := hBm11.cell 2); (have cm_3 := hBm11.cell 3); simp only [List.getElem?_toArray, List.getElem?_cons_succ, List.getElem?_cons_zero] at cm_0 cm_1 cm_2 cm_3; (have lr11 := hBr11.lt); (have ls11 := hBs11.lt); (have lt11 := hBt11.lt); (have lm11 := hBm11.lt)
        by_cases hy : y = 0
        · subst hy
          go_wp2_with fail
          go_ret
          exact ⟨rfl, hbw11⟩
        · have hy1 : (y == 0) = false := by simpa using hy
          have hye : lim < e := by
            by_cases hh : e ≤ lim
            · exact absurd (gy hh) hy
            · omega
          clear gy
          go_wp2_with fail
          refine (dist_at _ _ _ _ _ _ _ _ _ _ HE).mono ?_
          rintro e12 w12 ⟨rfl, hb12⟩
          go_wp2_with fail
          go_ret
          exact ⟨rfl, hbw11.trans (hb12.mono hbw11.size)⟩

end Go.Proofs.Ytdladmmhmncpoaa
