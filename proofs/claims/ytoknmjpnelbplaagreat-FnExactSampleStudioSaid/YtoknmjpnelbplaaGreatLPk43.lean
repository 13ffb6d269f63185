/- part 43 -/
import Derived.Test.YtoknmjpnelbplaaGreatLPk42
import Derived.Deep.RegionHeld3
set_option linter.unusedSimpArgs false
set_option linter.unusedVariables false
namespace Go.Proofs.YtoknmjpnelbplaaGreat
open Go.RowKit
theorem open_cnt (ns ls : List Pr) (fund : Int) (h1 : ns.length ≤ 1048576) (h2 : ls.length ≤ 1048576) : cntSt (openS ns ls fund) ≤ 30000000 := by
  unfold openS
  split
  · show 2 * ns.length + 2 * ls.length + 2 * ns.length + 2 * ls.length + cntS [] + 0 + 3 * 0 ≤ _
    have : cntS [] = 0 := rfl
    omega
  · show 0 + cntS [] + 0 + 3 * 0 ≤ _
    have : cntS [] = 0 := rfl
    omega
set_option maxHeartbeats 60000000 in
set_option maxRecDepth 100000 in
theorem openLaw_any (vn vl : Value) (ns ls : List Pr) (fund : Int) (w : World) (hn : RP w vn ns) (hl : RP w vl ls) :
    Calls Tryz.prog 6 #[.agg #[vn, vl], .int .i64 fund] w fun e w' => e = .returned (.bool true) ∧ Below w.heap.size w w' := by
  obtain ⟨x, hx⟩ : ∃ x, szW 1048576 ns.length ls.length = x := ⟨_, rfl⟩
  have HX := Lib.hid hx
  by_cases hx0 : x < 0
  · clear hx
    go_enter Tryz.func6, Tryz.ntmps6
    go_wp2_with fail
    refine (szWindow_at _ _ ns ls _ x _ (hn.below (by exact bel_)) (hl.below (by exact bel_)) (by omega) (by omega) HX).mono ?_
    rintro e w1 ⟨rfl, hb1⟩; (first | (with_reducible have hcf1 := bcell_drew hb1) | have hcf1 := bcell hb1); obtain ⟨hc1, hf1⟩ := hcf1; have hz1 := hb1.size; (try simp at hz1); (try have hp1_0 : w.heap.size < w1.heap.size := by omega); (try have hp1_1 : w.heap.size + 1 < w1.heap.size := by omega); (try have hp1_2 : w.heap.size + 1 + 1 < w1.heap.size := by omega); (try have hp1_3 : w.heap.size + 1 + 1 + 1 < w1.heap.size := by omega)
    go_wp2
    go_ret
    exact ⟨rfl, by exact bel_⟩
  · obtain ⟨s1, s2, s3, s4⟩ := szW_le (by rw [hx]; exact hx0)
    clear s3 s4 hx
    obtain ⟨E, hE⟩ : ∃ E, openS ns ls fund = E := ⟨_, rfl⟩
    have HE := Lib.hid hE
    obtain ⟨bb, hB⟩ : ∃ bb, openB ns ls fund = bb := ⟨_, rfl⟩
    have HB := Lib.hid hB
    have hcE : cntSt E ≤ 30000000 := by rw [← hE]; exact open_cnt ns ls fund s1 s2
    clear hE hB
    have m1 : ¬ (1 : Int) + 2 * (ns.length : Int) + 2 * (ls.length : Int) < 0 := by omega
    have m2 : ¬ (1 : Int) + (cntSt E : Int) < 0 := by omega
    go_enter Tryz.func6, Tryz.ntmps6
    go_wp2_with fail
    refine (szWindow_at _ _ ns ls _ x _ (hn.below (by exact bel_)) (hl.below (by exact bel_)) (by omega) (by omega) HX).mono ?_
    rintro e w1 ⟨rfl, hb1⟩
    have hz1 := hb1.size
    simp at hz1
    have hbw1 : Below w.heap.size w w1 := by exact bel_
    have hV1 : Blk w1 w.heap.size 25 #[vn, vl] := Blk.below (Blk.newAt rfl) hb1 sz_
    have e0 : w.heap.size < w1.heap.size := hV1.lt
    clear hb1 HX hz1
    obtain ⟨vb_0, vb_1⟩ := hV1.c2
    have vlt := hV1.lt
    go_wp2_with fail
    refine (toWindow_any vn vl ns ls _ (hn.below hbw1) (hl.below hbw1) s1 s2).mono ?_
    rintro e w2 ⟨Tn, tn, Tl, tl, rfl, hoT, hb2⟩
    have hz2 := hb2.size
    have hV2 := hV1.below hb2 hV1.lt
    have hbw2 := hbw1.trans (hb2.mono hbw1.size)
    clear hV1  hbw1 hb2 vb_0 vb_1 vlt
    go_wp2_with fail
    refine (sOpen_at _ _ ns ls fund _ (hoT.1.reads) (hoT.2.1.reads) s1 s2).mono ?_
    rw [HE.out, HB.out]
    rintro e w3 ⟨W0, wc0, W1, wc1, W2, wc2, W3, wc3, W4, wc4, W5, wc5, W6, wc6, wfs, rfl, hoW3, hb3⟩
    have hltW := hoW3.lt
    have hz3 := hb3.size
    have hV3 := hV2.below hb3 hV2.lt
    have hbw3 := hbw2.trans (hb3.mono hbw2.size)
    clear hV2  hbw2 hb3 hoT
    obtain ⟨vb_0, vb_1⟩ := hV3.c2
    have vlt := hV3.lt
    go_wp2_with fail
    obtain ⟨u3, hu3⟩ : ∃ v, v = w3.alloc (.cells #[.slice W0 E.D.fn.length wc0, .slice W1 E.D.fl.length wc1, .slice W2 E.D.nn.length wc2, .slice W3 E.D.nl.length wc3, .slice W4 E.D.ss.length wc4, .slice W5 E.cs.length wc5, .slice W6 E.ds.length wc6, .int .i64 E.fund] 44) := ⟨_, rfl⟩
    have hux3 : Below w3.heap.size w3 u3 := hu3 ▸ (Below.refl _ _).alloc (Nat.le_refl _) _
    have hNW : Blk u3 w3.heap.size 44 #[.slice W0 E.D.fn.length wc0, .slice W1 E.D.fl.length wc1, .slice W2 E.D.nn.length wc2, .slice W3 E.D.nl.length wc3, .slice W4 E.D.ss.length wc4, .slice W5 E.cs.length wc5, .slice W6 E.ds.length wc6, .int .i64 E.fund] := hu3 ▸ Blk.newAt rfl
    have huz3 : u3.heap.size = w3.heap.size + 1 := by rw [hu3]; simp
    rw [← hu3]
    clear hu3
    refine (toWindow_any vn vl ns ls _ (hn.below (hbw3.trans (hux3.mono hbw3.size))) (hl.below (hbw3.trans (hux3.mono hbw3.size))) s1 s2).mono ?_
    rintro e w4 ⟨Xn, xn, Xl, xl, rfl, hoX4, hb4⟩
    have hltX := hoX4.lt
    have hs4 := hb4.size
    have hby := hux3.trans (hb4.mono hux3.size)
    have hW4 := hNW.below hb4 hNW.lt
    have hz4 := hby.size
    have hV4 := hV3.below hby hV3.lt
    have hoW4 := hoW3.kept hby
    have hbw4 := hbw3.trans (hby.mono hbw3.size)
    clear hV3 hoW3 hbw3 hby hux3 hNW vb_0 vb_1 vlt
    clear hb4
    obtain ⟨vb_0, vb_1⟩ := hV4.c2
    obtain ⟨wb_0, wb_1, wb_2, wb_3, wb_4, wb_5, wb_6, wb_7⟩ := hW4.c8
    have vlt := hV4.lt
    have wlt := hW4.lt
    go_wp2_with fail
    obtain ⟨u4, hu4⟩ : ∃ v, v = w4.alloc (.cells #[.slice Xn ns.length xn, .slice Xl ls.length xl] 38) := ⟨_, rfl⟩
    have hux4 : Below w4.heap.size w4 u4 := hu4 ▸ (Below.refl _ _).alloc (Nat.le_refl _) _
    have hNX : Blk u4 w4.heap.size 38 #[.slice Xn ns.length xn, .slice Xl ls.length xl] := hu4 ▸ Blk.newAt rfl
    have huz4 : u4.heap.size = w4.heap.size + 1 := by rw [hu4]; simp
    rw [← hu4]
    clear hu4
    have hoX4' := hoX4.kept hux4
    refine (iOpen_at _ _ ns ls fund _ (hoX4'.1.reads) (hoX4'.2.1.reads) s1 s2).mono ?_
    rw [HE.out, HB.out]
    rintro e w5 ⟨G0, gc0, G1, gc1, G2, gc2, G3, gc3, G4, gc4, G5, gc5, G6, gc6, gfs, rfl, hoG5, hb5⟩
    have hltG := hoG5.lt
    have hs5 := hb5.size
    have hby := hux4.trans (hb5.mono hux4.size)
    have hX5 := hNX.below hb5 hNX.lt
    have hz5 := hby.size
    have hV5 := hV4.below hby hV4.lt
    have hW5 := hW4.below hby hW4.lt
    have hoW5 := hoW4.kept hby
    have hoX5 := hoX4.kept hby
    have hbw5 := hbw4.trans (hby.mono hbw4.size)
    clear hV4 hW4 hoW4 hoX4 hbw4 hby hux4 hNX hoX4' vb_0 vb_1 wb_0 wb_1 wb_2 wb_3 wb_4 wb_5 wb_6 wb_7 vlt wlt
    clear hb5
    obtain ⟨vb_0, vb_1⟩ := hV5.c2
    obtain ⟨wb_0, wb_1, wb_2, wb_3, wb_4, wb_5, wb_6, wb_7⟩ := hW5.c8
    obtain ⟨xb_0, xb_1⟩ := hX5.c2
    have vlt := hV5.lt
    have wlt := hW5.lt
    have xlt := hX5.lt
    go_wp2_with fail
    obtain ⟨u5, hu5⟩ : ∃ v, v = w5.alloc (.cells #[.slice G0 E.D.fn.length gc0, .slice G1 E.D.fl.length gc1, .slice G2 E.D.nn.length gc2, .slice G3 E.D.nl.length gc3, .slice G4 E.D.ss.length gc4, .slice G5 E.cs.length gc5, .slice G6 E.ds.length gc6, .int .i64 E.fund] 44) := ⟨_, rfl⟩
    have hux5 : Below w5.heap.size w5 u5 := hu5 ▸ (Below.refl _ _).alloc (Nat.le_refl _) _
    have hNG : Blk u5 w5.heap.size 44 #[.slice G0 E.D.fn.length gc0, .slice G1 E.D.fl.length gc1, .slice G2 E.D.nn.length gc2, .slice G3 E.D.nl.length gc3, .slice G4 E.D.ss.length gc4, .slice G5 E.cs.length gc5, .slice G6 E.ds.length gc6, .int .i64 E.fund] := hu5 ▸ Blk.newAt rfl
    have huz5 : u5.heap.size = w5.heap.size + 1 := by rw [hu5]; simp
    rw [← hu5]
    clear hu5
    refine (eqStudio_any _ _ _ _ _ _ _ _ _ _ _ _ _ _ E _ (hoG5.reads.below hux5) (hoW5.reads.below hux5)).mono ?_
    rintro e w6 ⟨rfl, hb6⟩
    have hby := hux5.trans (hb6.mono hux5.size)
    have hG6 := hNG.below hb6 hNG.lt
    have hz6 := hby.size
    have hV6 := hV5.below hby hV5.lt
    have hW6 := hW5.below hby hW5.lt
    have hX6 := hX5.below hby hX5.lt
    have hoW6 := hoW5.kept hby
    have hoX6 := hoX5.kept hby
    have hoG6 := hoG5.kept hby
    have hbw6 := hbw5.trans (hby.mono hbw5.size)
    clear hV5 hW5 hX5 hoW5 hoX5 hoG5 hbw5 hby hux5 hNG vb_0 vb_1 wb_0 wb_1 wb_2 wb_3 wb_4 wb_5 wb_6 wb_7 xb_0 xb_1 vlt wlt xlt
    clear hb6
    have ad1 := hV6.lt
    have adW := hW6.lt
    have adX := hX6.lt
    have adG := hG6.lt
    have lW : ∀ k, blksSt (.slice W0 E.D.fn.length wc0) (.slice W1 E.D.fl.length wc1) (.slice W2 E.D.nn.length wc2) (.slice W3 E.D.nl.length wc3) (.slice W4 E.D.ss.length wc4) (.slice W5 E.cs.length wc5) (.slice W6 E.ds.length wc6) wfs k → w.heap.size < k ∧ k < w3.heap.size := fun k hk => by have := hltW k hk; omega
    have lX : ∀ k, blksW (.slice Xn ns.length xn) (.slice Xl ls.length xl) k → w3.heap.size < k ∧ k < w4.heap.size := fun k hk => by have := hltX k hk; omega
    have lG : ∀ k, blksSt (.slice G0 E.D.fn.length gc0) (.slice G1 E.D.fl.length gc1) (.slice G2 E.D.nn.length gc2) (.slice G3 E.D.nl.length gc3) (.slice G4 E.D.ss.length gc4) (.slice G5 E.cs.length gc5) (.slice G6 E.ds.length gc6) gfs k → w4.heap.size < k ∧ k < w5.heap.size := fun k hk => by have := hltG k hk; omega
    have o1 : w.heap.size < w3.heap.size := by omega
    have o2 : w3.heap.size < w4.heap.size := by omega
    have o3 : w4.heap.size < w5.heap.size := by omega
    clear hltW hltX hltG huz3 huz4 huz5 hz2 hz3 hz4 hz5 e0 hs4 hs5
    generalize w3.heap.size = BW at *
    generalize w4.heap.size = BX at *
    generalize w5.heap.size = BG at *
    clear hz6 ad1 adW adX adG
    obtain ⟨vb_0, vb_1⟩ := hV6.c2
    obtain ⟨xb_0, xb_1⟩ := hX6.c2
    have vlt := hV6.lt
    have xlt := hX6.lt
    have hdn := Lib.hid (hn.below hbw6)
    have hdl := Lib.hid (hl.below hbw6)
    have hxn := Lib.hid hoX6.1.reads
    have hxl := Lib.hid hoX6.2.1.reads
    go_wp2_with fail
    go_region_held3 (fun w' => w'.cell? ⟨w.heap.size, 0, none⟩ = some vn ∧ w'.cell? ⟨w.heap.size, 1, none⟩ = some vl ∧ w'.cell? ⟨BX, 0, none⟩ = some (.slice Xn ns.length xn) ∧ w'.cell? ⟨BX, 1, none⟩ = some (.slice Xl ls.length xl))
      (go_keep)
      (first | (go_at_call 28; refine Calls.mono (toWindow_any vn vl ns ls _ (hdn.out.below ?c1) (hdl.out.below ?c1) s1 s2) ?_; (case c1 => exact bel_); rintro e w7 ⟨Qn, qn, Ql, ql, rfl, hoQ, hb7⟩; (first | (with_reducible have hcf7 := bcell_drew hb7) | have hcf7 := bcell hb7); obtain ⟨hc7, hf7⟩ := hcf7; have hz7 := hb7.size; (try simp at hz7); (try have hp7_0 : w.heap.size < w7.heap.size := by omega); (try have hp7_1 : w.heap.size + 1 < w7.heap.size := by omega); (try have hp7_2 : w.heap.size + 1 + 1 < w7.heap.size := by omega); (try have hp7_3 : w.heap.size + 1 + 1 + 1 < w7.heap.size := by omega); (have mm7 : BX < w7.heap.size := by omega)) | (go_at_call 30; refine (eqWindow_any _ _ _ _ ns ls _ (hxn.out.below ?c2) (hxl.out.below ?c2) (hoQ.1.reads) (hoQ.2.1.reads)).mono ?_; (case c2 => exact bel_); rintro e w8 ⟨rfl, hb8⟩; (first | (with_reducible have hcf8 := bcell_drew hb8) | have hcf8 := bcell hb8); obtain ⟨hc8, hf8⟩ := hcf8; have hz8 := hb8.size; (try simp at hz8); (try have hp8_0 : w.heap.size < w8.heap.size := by omega); (try have hp8_1 : w.heap.size + 1 < w8.heap.size := by omega); (try have hp8_2 : w.heap.size + 1 + 1 < w8.heap.size := by omega); (try have hp8_3 : w.heap.size + 1 + 1 + 1 < w8.heap.size := by omega)))
    have hby : Below w6.heap.size w6 w8 := by exact bel_
    clear hoQ hb7 hb8 hc7 hf7 hc8 hf8
    have hz8' := hby.size
    have hV8 := hV6.below hby hV6.lt
    have hW8 := hW6.below hby hW6.lt
    have hX8 := hX6.below hby hX6.lt
    have hG8 := hG6.below hby hG6.lt
    have hoW8 := hoW6.kept hby
    have hoX8 := hoX6.kept hby
    have hoG8 := hoG6.kept hby
    have hbw8 := hbw6.trans (hby.mono hbw6.size)
    clear hV6 hW6 hX6 hG6 hoW6 hoX6 hoG6 hbw6 hby hdn hdl hxn hxl vb_0 vb_1 xb_0 xb_1 vlt xlt
    obtain ⟨xb_0, xb_1⟩ := hX8.c2
    have xlt := hX8.lt
    go_wp2_with fail
    refine (markWindow_any _ _ _ ns ls 1 _ hoX8 (by omega) (by omega)).mono ?_
    rintro e w9 ⟨rfl, _, ht9⟩
    have hV9 := hV8.turned ht9 (fun hk => by have := lX _ hk; omega)
    have hW9 := hW8.turned ht9 (fun hk => by have := lX _ hk; omega)
    have hX9 := hX8.turned ht9 (fun hk => by have := lX _ hk; omega)
    have hG9 := hG8.turned ht9 (fun hk => by have := lX _ hk; omega)
    have hoW9 := hoW8.turned ht9 (fun k hk hk' => by have := lW k hk; have := lX k hk'; omega)
    have hoG9 := hoG8.turned ht9 (fun k hk hk' => by have := lG k hk; have := lX k hk'; omega)
    have hbw9 := hbw8.trans (ht9.below (fun k hk => by have := lX k hk; omega) hbw8.size)
    clear hV8 hW8 hX8 hG8 hoW8 hoX8 hoG8 hbw8 ht9 xb_0 xb_1 xlt
    clear hX9
    obtain ⟨wb_0, wb_1, wb_2, wb_3, wb_4, wb_5, wb_6, wb_7⟩ := hW9.c8
    obtain ⟨gb_0, gb_1, gb_2, gb_3, gb_4, gb_5, gb_6, gb_7⟩ := hG9.c8
    have wlt := hW9.lt
    have glt := hG9.lt
    go_wp2_with fail
    refine (eqStudio_any _ _ _ _ _ _ _ _ _ _ _ _ _ _ E _ hoG9.reads hoW9.reads).mono ?_
    rintro e w10 ⟨rfl, hb10⟩
    have hz10 := hb10.size
    have hV10 := hV9.below hb10 hV9.lt
    have hW10 := hW9.below hb10 hW9.lt
    have hG10 := hG9.below hb10 hG9.lt
    have hoW10 := hoW9.kept hb10
    have hoG10 := hoG9.kept hb10
    have hbw10 := hbw9.trans (hb10.mono hbw9.size)
    clear hV9 hW9 hG9 hoW9 hoG9 hbw9 hb10 wb_0 wb_1 wb_2 wb_3 wb_4 wb_5 wb_6 wb_7 gb_0 gb_1 gb_2 gb_3 gb_4 gb_5 gb_6 gb_7 wlt glt
    obtain ⟨gb_0, gb_1, gb_2, gb_3, gb_4, gb_5, gb_6, gb_7⟩ := hG10.c8
    have glt := hG10.lt
    go_wp2_with fail
    refine (markStudio_any _ _ _ _ _ _ _ _ E gfs 1 _ hoG10 (by omega) (by omega)).mono ?_
    rintro e w11 ⟨rfl, hoM11, ht11⟩
    have hV11 := hV10.turned ht11 (fun hk => by have := lG _ hk; omega)
    have hW11 := hW10.turned ht11 (fun hk => by have := lG _ hk; omega)
    have hG11 := hG10.turned ht11 (fun hk => by have := lG _ hk; omega)
    have hoW11 := hoW10.turned ht11 (fun k hk hk' => by have := lW k hk; have := lG k hk'; omega)
    have hbw11 := hbw10.trans (ht11.below (fun k hk => by have := lG k hk; omega) hbw10.size)
    clear hV10 hW10 hG10 hoW10 hoG10 hbw10 ht11 gb_0 gb_1 gb_2 gb_3 gb_4 gb_5 gb_6 gb_7 glt
    obtain ⟨gb_0, gb_1, gb_2, gb_3, gb_4, gb_5, gb_6, gb_7⟩ := hG11.c8
    have glt := hG11.lt
    go_wp2_with fail
    refine (heldStudio_ok _ _ _ _ _ _ _ E 1 _ hoM11.reads (by omega) (by omega)).mono ?_
    rintro e w12 ⟨rfl, hb12⟩
    have hz12 := hb12.size
    have hV12 := hV11.below hb12 hV11.lt
    have hW12 := hW11.below hb12 hW11.lt
    have hG12 := hG11.below hb12 hG11.lt
    have hoW12 := hoW11.kept hb12
    have hoM12 := hoM11.kept hb12
    have hbw12 := hbw11.trans (hb12.mono hbw11.size)
    clear hV11 hW11 hG11 hoW11 hoM11 hbw11 hb12 gb_0 gb_1 gb_2 gb_3 gb_4 gb_5 gb_6 gb_7 glt
    obtain ⟨vb_0, vb_1⟩ := hV12.c2
    have vlt := hV12.lt
    go_wp2_with fail
    refine (toWindow_any vn vl ns ls _ (hn.below hbw12) (hl.below hbw12) s1 s2).mono ?_
    rintro e w13 ⟨Tn, tn, Tl, tl, rfl, hoT, hb13⟩
    have hz13 := hb13.size
    have hV13 := hV12.below hb13 hV12.lt
    have hW13 := hW12.below hb13 hW12.lt
    have hG13 := hG12.below hb13 hG12.lt
    have hoW13 := hoW12.kept hb13
    have hoM13 := hoM12.kept hb13
    have hbw13 := hbw12.trans (hb13.mono hbw12.size)
    clear hV12 hW12 hG12 hoW12 hoM12 hbw12 hb13 vb_0 vb_1 vlt
    go_wp2_with fail
    refine (iOpen_at _ _ ns ls fund _ (hoT.1.reads) (hoT.2.1.reads) s1 s2).mono ?_
    rw [HE.out, HB.out]
    rintro e w14 ⟨H0, hc0, H1, hc1, H2, hc2, H3, hc3, H4, hc4, H5, hc5, H6, hc6, hfs, rfl, hoH, hb14⟩
    have hz14 := hb14.size
    have hV14 := hV13.below hb14 hV13.lt
    have hW14 := hW13.below hb14 hW13.lt
    have hG14 := hG13.below hb14 hG13.lt
    have hoW14 := hoW13.kept hb14
    have hoM14 := hoM13.kept hb14
    have hbw14 := hbw13.trans (hb14.mono hbw13.size)
    clear hV13 hW13 hG13 hoW13 hoM13 hbw13 hb14 hoT
    obtain ⟨wb_0, wb_1, wb_2, wb_3, wb_4, wb_5, wb_6, wb_7⟩ := hW14.c8
    have wlt := hW14.lt
    go_wp2_with fail
    have hbx : Below w14.heap.size w14 (w14.alloc (.cells #[.slice H0 E.D.fn.length hc0, .slice H1 E.D.fl.length hc1, .slice H2 E.D.nn.length hc2, .slice H3 E.D.nl.length hc3, .slice H4 E.D.ss.length hc4, .slice H5 E.cs.length hc5, .slice H6 E.ds.length hc6, .int .i64 E.fund] 44)) := by exact bel_
    refine (eqStudio_any _ _ _ _ _ _ _ _ _ _ _ _ _ _ E _ (hoH.reads.below hbx) (hoW14.reads.below hbx)).mono ?_
    rintro e w15 ⟨rfl, hb15⟩
    have hby := hbx.trans (hb15.mono hbx.size)
    have hz15 := hby.size
    have hV15 := hV14.below hby hV14.lt
    have hW15 := hW14.below hby hW14.lt
    have hG15 := hG14.below hby hG14.lt
    have hoW15 := hoW14.kept hby
    have hoM15 := hoM14.kept hby
    have hbw15 := hbw14.trans (hby.mono hbw14.size)
    clear hV14 hW14 hG14 hoW14 hoM14 hbw14 hby wb_0 wb_1 wb_2 wb_3 wb_4 wb_5 wb_6 wb_7 wlt hb15 hbx hoH
    obtain ⟨gb_0, gb_1, gb_2, gb_3, gb_4, gb_5, gb_6, gb_7⟩ := hG15.c8
    have glt := hG15.lt
    go_wp2_with fail
    refine (heldStudio_ok _ _ _ _ _ _ _ E 1 _ hoM15.reads (by omega) (by omega)).mono ?_
    rintro e w16 ⟨rfl, hb16⟩
    have hbwZ := hbw15.trans (hb16.mono hbw15.size)
    clear hb16 hV15 hW15 hG15 hoW15 hoM15 hbw15 gb_0 gb_1 gb_2 gb_3 gb_4 gb_5 gb_6 gb_7 glt
    go_wp2
    go_ret
    exact ⟨rfl, hbwZ⟩
noncomputable def sampS : St := openS sampleN sampleL 200
set_option maxHeartbeats 16000000 in
set_option maxRecDepth 100000 in
theorem iSampleSt_any (w : World) : Calls Tryz.prog 23 #[] w (RetStu sampS w) := by
  obtain ⟨E, hE⟩ : ∃ E, openS sampleN sampleL 200 = E := ⟨_, rfl⟩
  have HE := Lib.hid hE
  obtain ⟨bb, hB⟩ : ∃ bb, openB sampleN sampleL 200 = bb := ⟨_, rfl⟩
  have HB := Lib.hid hB
  rw [show sampS = E from hE]
  clear hE hB
  go_enter Tryz.func23, Tryz.ntmps23
  go_wp2_with fail
  refine (iSample_any _).mono ?_
  rintro e w1 ⟨Tn, tn, Tl, tl, rfl, hoT, hb1⟩
  have hz1 := hb1.size
  simp at hz1
  have hbw1 : Below w.heap.size w w1 := by exact bel_
  have hR1 : Blk w1 w.heap.size 44 #[.slice none 0 0, .slice none 0 0, .slice none 0 0, .slice none 0 0, .slice none 0 0, .slice none 0 0, .slice none 0 0, .int .i64 0] := Blk.below (Blk.newAt rfl) hb1 sz_
  clear hb1
  go_wp2_with fail
  refine (iOpen_at _ _ sampleN sampleL 200 _ hoT.1.reads hoT.2.1.reads (by simp [sampleN]) (by simp [sampleL])).mono ?_
  rw [HE.out, HB.out]
  rintro e w2 ⟨W0, wc0, W1, wc1, W2, wc2, W3, wc3, W4, wc4, W5, wc5, W6, wc6, wfs, rfl, hoW, hb2⟩
  have hR2 := hR1.below hb2 hR1.lt
  have hbw2 := hbw1.trans (hb2.mono hbw1.size)
  have hlt : w.heap.size + 1 ≤ w1.heap.size := hR1.lt
  clear hb2 hR1 hbw1 hoT
  have HO := Lib.hid hoW
  have HBW := Lib.hid hbw2
  obtain ⟨r_0, r_1, r_2, r_3, r_4, r_5, r_6, r_7, r_f0, r_f1, r_f2, r_f3, r_f4, r_f5, r_f6, r_f7⟩ := hR2.b8
  have hRlt := hR2.lt
  clear hoW hbw2 hR2
  go_wp2
  refine bodyPost_ret (v := .agg #[.slice W0 E.D.fn.length wc0, .slice W1 E.D.fl.length wc1, .slice W2 E.D.nn.length wc2, .slice W3 E.D.nl.length wc3, .slice W4 E.D.ss.length wc4, .slice W5 E.cs.length wc5, .slice W6 E.ds.length wc6, .int .i64 E.fund]) (by simp [results, Tryz.results23, go_sem, r_0, r_1, r_2, r_3, r_4, r_5, r_6, r_7, hRlt]) rfl ?_
  refine ⟨W0, wc0, W1, wc1, W2, wc2, W3, wc3, W4, wc4, W5, wc5, W6, wc6, wfs, rfl, ?_, ?_⟩
  · refine OwnSt.mono (base := w.heap.size + 1) ?_ (by omega)
    iterate 12 (try first | (with_reducible refine OwnSt.alloc ?_ _) | (with_reducible refine OwnSt.setLow ?_ ?_ _))
    exact HO.out.mono hlt
    all_goals exact sz_
  · have hbw3 := HBW.out
    exact bel_
set_option maxHeartbeats 16000000 in
set_option maxRecDepth 100000 in
theorem sSampleSt_any (w : World) : Calls Tryz.prog 22 #[] w (RetStu sampS w) := by
  obtain ⟨E, hE⟩ : ∃ E, openS sampleN sampleL 200 = E := ⟨_, rfl⟩
  have HE := Lib.hid hE
  obtain ⟨bb, hB⟩ : ∃ bb, openB sampleN sampleL 200 = bb := ⟨_, rfl⟩
  have HB := Lib.hid hB
  rw [show sampS = E from hE]
  clear hE hB
  go_enter Tryz.func22, Tryz.ntmps22
  go_wp2_with fail
  refine (sSample_any _).mono ?_
  rintro e w1 ⟨Tn, tn, Tl, tl, rfl, hoT, hb1⟩
  have hz1 := hb1.size
  simp at hz1
  have hbw1 : Below w.heap.size w w1 := by exact bel_
  have hR1 : Blk w1 w.heap.size 44 #[.slice none 0 0, .slice none 0 0, .slice none 0 0, .slice none 0 0, .slice none 0 0, .slice none 0 0, .slice none 0 0, .int .i64 0] := Blk.below (Blk.newAt rfl) hb1 sz_
  clear hb1
  go_wp2_with fail
  refine (sOpen_at _ _ sampleN sampleL 200 _ hoT.1.reads hoT.2.1.reads (by simp [sampleN]) (by simp [sampleL])).mono ?_
  rw [HE.out, HB.out]
  rintro e w2 ⟨W0, wc0, W1, wc1, W2, wc2, W3, wc3, W4, wc4, W5, wc5, W6, wc6, wfs, rfl, hoW, hb2⟩
  have hR2 := hR1.below hb2 hR1.lt
  have hbw2 := hbw1.trans (hb2.mono hbw1.size)
  have hlt : w.heap.size + 1 ≤ w1.heap.size := hR1.lt
  clear hb2 hR1 hbw1 hoT
  have HO := Lib.hid hoW
  have HBW := Lib.hid hbw2
  obtain ⟨r_0, r_1, r_2, r_3, r_4, r_5, r_6, r_7, r_f0, r_f1, r_f2, r_f3, r_f4, r_f5, r_f6, r_f7⟩ := hR2.b8
  have hRlt := hR2.lt
  clear hoW hbw2 hR2
  go_wp2
  refine bodyPost_ret (v := .agg #[.slice W0 E.D.fn.length wc0, .slice W1 E.D.fl.length wc1, .slice W2 E.D.nn.length wc2, .slice W3 E.D.nl.length wc3, .slice W4 E.D.ss.length wc4, .slice W5 E.cs.length wc5, .slice W6 E.ds.length wc6, .int .i64 E.fund]) (by simp [results, Tryz.results22, go_sem, r_0, r_1, r_2, r_3, r_4, r_5, r_6, r_7, hRlt]) rfl ?_
  refine ⟨W0, wc0, W1, wc1, W2, wc2, W3, wc3, W4, wc4, W5, wc5, W6, wc6, wfs, rfl, ?_, ?_⟩
  · refine OwnSt.mono (base := w.heap.size + 1) ?_ (by omega)
    iterate 12 (try first | (with_reducible refine OwnSt.alloc ?_ _) | (with_reducible refine OwnSt.setLow ?_ ?_ _))
    exact HO.out.mono hlt
    all_goals exact sz_
  · have hbw3 := HBW.out
    exact bel_
set_option maxHeartbeats 60000000 in
set_option maxRecDepth 100000 in
theorem sampleLaw_any (w : World) :
    Calls Tryz.prog 5 #[] w fun e w' => e = .returned (.bool true) ∧ Below w.heap.size w w' := by
  obtain ⟨E, hE⟩ : ∃ E, sampS = E := ⟨_, rfl⟩
  have HE := Lib.hid hE
  have hcE : cntSt E ≤ 30000000 := by rw [← hE]; exact open_cnt sampleN sampleL 200 (by simp [sampleN]) (by simp [sampleL])
  clear hE
  have m2 : ¬ (1 : Int) + (cntSt E : Int) < 0 := by omega
  go_enter Tryz.func5, Tryz.ntmps5
  go_wp2_with fail
  refine (sSampleSt_any _).mono ?_
  rw [HE.out]
  rintro e w1 ⟨W0, wc0, W1, wc1, W2, wc2, W3, wc3, W4, wc4, W5, wc5, W6, wc6, wfs, rfl, hoW1, hbw1⟩
  have hltW := hoW1.lt
  have o1 : w.heap.size ≤ w1.heap.size := hbw1.size
  go_wp2_with fail
  obtain ⟨u1, hu1⟩ : ∃ v, v = w1.alloc (.cells #[.slice W0 E.D.fn.length wc0, .slice W1 E.D.fl.length wc1, .slice W2 E.D.nn.length wc2, .slice W3 E.D.nl.length wc3, .slice W4 E.D.ss.length wc4, .slice W5 E.cs.length wc5, .slice W6 E.ds.length wc6, .int .i64 E.fund] 44) := ⟨_, rfl⟩
  have hux1 : Below w1.heap.size w1 u1 := hu1 ▸ (Below.refl _ _).alloc (Nat.le_refl _) _
  have hNW : Blk u1 w1.heap.size 44 #[.slice W0 E.D.fn.length wc0, .slice W1 E.D.fl.length wc1, .slice W2 E.D.nn.length wc2, .slice W3 E.D.nl.length wc3, .slice W4 E.D.ss.length wc4, .slice W5 E.cs.length wc5, .slice W6 E.ds.length wc6, .int .i64 E.fund] := hu1 ▸ Blk.newAt rfl
  have huz1 : u1.heap.size = w1.heap.size + 1 := by rw [hu1]; simp
  rw [← hu1]
  clear hu1
  refine (iSampleSt_any _).mono ?_
  rw [HE.out]
  rintro e w2 ⟨G0, gc0, G1, gc1, G2, gc2, G3, gc3, G4, gc4, G5, gc5, G6, gc6, gfs, rfl, hoG2, hb2⟩
  have hltG := hoG2.lt
  have hs2 := hb2.size
  have hby := hux1.trans (hb2.mono hux1.size)
  have hW2 := hNW.below hb2 hNW.lt
  have hz2 := hby.size
  have hoW2 := hoW1.kept hby
  have hbw2 := hbw1.trans (hby.mono hbw1.size)
  clear  hoW1 hbw1 hby hux1 hNW
  clear hb2
  obtain ⟨wb_0, wb_1, wb_2, wb_3, wb_4, wb_5, wb_6, wb_7⟩ := hW2.c8
  have wlt := hW2.lt
  go_wp2_with fail
  obtain ⟨u2, hu2⟩ : ∃ v, v = w2.alloc (.cells #[.slice G0 E.D.fn.length gc0, .slice G1 E.D.fl.length gc1, .slice G2 E.D.nn.length gc2, .slice G3 E.D.nl.length gc3, .slice G4 E.D.ss.length gc4, .slice G5 E.cs.length gc5, .slice G6 E.ds.length gc6, .int .i64 E.fund] 44) := ⟨_, rfl⟩
  have hux2 : Below w2.heap.size w2 u2 := hu2 ▸ (Below.refl _ _).alloc (Nat.le_refl _) _
  have hNG : Blk u2 w2.heap.size 44 #[.slice G0 E.D.fn.length gc0, .slice G1 E.D.fl.length gc1, .slice G2 E.D.nn.length gc2, .slice G3 E.D.nl.length gc3, .slice G4 E.D.ss.length gc4, .slice G5 E.cs.length gc5, .slice G6 E.ds.length gc6, .int .i64 E.fund] := hu2 ▸ Blk.newAt rfl
  have huz2 : u2.heap.size = w2.heap.size + 1 := by rw [hu2]; simp
  rw [← hu2]
  clear hu2
  refine (eqStudio_any _ _ _ _ _ _ _ _ _ _ _ _ _ _ E _ (hoG2.reads.below hux2) (hoW2.reads.below hux2)).mono ?_
  rintro e w3 ⟨rfl, hb3⟩
  have hby := hux2.trans (hb3.mono hux2.size)
  have hG3 := hNG.below hb3 hNG.lt
  have hz3 := hby.size
  have hW3 := hW2.below hby hW2.lt
  have hoW3 := hoW2.kept hby
  have hoG3 := hoG2.kept hby
  have hbw3 := hbw2.trans (hby.mono hbw2.size)
  clear hW2 hoW2 hoG2 hbw2 hby hux2 hNG wb_0 wb_1 wb_2 wb_3 wb_4 wb_5 wb_6 wb_7 wlt
  clear hb3
  have adW := hW3.lt
  have adG := hG3.lt
  have lW : ∀ k, blksSt (.slice W0 E.D.fn.length wc0) (.slice W1 E.D.fl.length wc1) (.slice W2 E.D.nn.length wc2) (.slice W3 E.D.nl.length wc3) (.slice W4 E.D.ss.length wc4) (.slice W5 E.cs.length wc5) (.slice W6 E.ds.length wc6) wfs k → w.heap.size ≤ k ∧ k < w1.heap.size := fun k hk => by have := hltW k hk; omega
  have lG : ∀ k, blksSt (.slice G0 E.D.fn.length gc0) (.slice G1 E.D.fl.length gc1) (.slice G2 E.D.nn.length gc2) (.slice G3 E.D.nl.length gc3) (.slice G4 E.D.ss.length gc4) (.slice G5 E.cs.length gc5) (.slice G6 E.ds.length gc6) gfs k → w1.heap.size < k ∧ k < w2.heap.size := fun k hk => by have := hltG k hk; omega
  have o2 : w1.heap.size < w2.heap.size := by omega
  clear hltW hltG huz1 huz2 hz2 hs2
  generalize w1.heap.size = BW at *
  generalize w2.heap.size = BG at *
  clear hz3 adW adG
  obtain ⟨gb_0, gb_1, gb_2, gb_3, gb_4, gb_5, gb_6, gb_7⟩ := hG3.c8
  have glt := hG3.lt
  go_wp2_with fail
  refine (markStudio_any _ _ _ _ _ _ _ _ E gfs 1 _ hoG3 (by omega) (by omega)).mono ?_
  rintro e w4 ⟨rfl, hoM4, ht4⟩
  have hW4 := hW3.turned ht4 (fun hk => by have := lG _ hk; omega)
  have hG4 := hG3.turned ht4 (fun hk => by have := lG _ hk; omega)
  have hoW4 := hoW3.turned ht4 (fun k hk hk' => by have := lW k hk; have := lG k hk'; omega)
  have hbw4 := hbw3.trans (ht4.below (fun k hk => by have := lG k hk; omega) hbw3.size)
  clear hW3 hG3 hoW3 hoG3 hbw3 ht4 gb_0 gb_1 gb_2 gb_3 gb_4 gb_5 gb_6 gb_7 glt
  obtain ⟨gb_0, gb_1, gb_2, gb_3, gb_4, gb_5, gb_6, gb_7⟩ := hG4.c8
  have glt := hG4.lt
  go_wp2_with fail
  refine (heldStudio_ok _ _ _ _ _ _ _ E 1 _ hoM4.reads (by omega) (by omega)).mono ?_
  rintro e w5 ⟨rfl, hb5⟩
  have hz5 := hb5.size
  have hW5 := hW4.below hb5 hW4.lt
  have hG5 := hG4.below hb5 hG4.lt
  have hoW5 := hoW4.kept hb5
  have hoM5 := hoM4.kept hb5
  have hbw5 := hbw4.trans (hb5.mono hbw4.size)
  clear hW4 hG4 hoW4 hoM4 hbw4 hb5 gb_0 gb_1 gb_2 gb_3 gb_4 gb_5 gb_6 gb_7 glt
  go_wp2_with fail
  refine (iSampleSt_any _).mono ?_
  rw [HE.out]
  rintro e w6 ⟨H0, hc0, H1, hc1, H2, hc2, H3, hc3, H4, hc4, H5, hc5, H6, hc6, hfs, rfl, hoH, hb6⟩
  have hz6 := hb6.size
  have hW6 := hW5.below hb6 hW5.lt
  have hG6 := hG5.below hb6 hG5.lt
  have hoW6 := hoW5.kept hb6
  have hoM6 := hoM5.kept hb6
  have hbw6 := hbw5.trans (hb6.mono hbw5.size)
  clear hW5 hG5 hoW5 hoM5 hbw5 hb6 
  obtain ⟨wb_0, wb_1, wb_2, wb_3, wb_4, wb_5, wb_6, wb_7⟩ := hW6.c8
  have wlt := hW6.lt
  go_wp2_with fail
  have hbx : Below w6.heap.size w6 (w6.alloc (.cells #[.slice H0 E.D.fn.length hc0, .slice H1 E.D.fl.length hc1, .slice H2 E.D.nn.length hc2, .slice H3 E.D.nl.length hc3, .slice H4 E.D.ss.length hc4, .slice H5 E.cs.length hc5, .slice H6 E.ds.length hc6, .int .i64 E.fund] 44)) := by exact bel_
  refine (eqStudio_any _ _ _ _ _ _ _ _ _ _ _ _ _ _ E _ (hoH.reads.below hbx) (hoW6.reads.below hbx)).mono ?_
  rintro e w7 ⟨rfl, hb7⟩
  have hby := hbx.trans (hb7.mono hbx.size)
  have hz7 := hby.size
  have hW7 := hW6.below hby hW6.lt
  have hG7 := hG6.below hby hG6.lt
  have hoW7 := hoW6.kept hby
  have hoM7 := hoM6.kept hby
  have hbw7 := hbw6.trans (hby.mono hbw6.size)
  clear hW6 hG6 hoW6 hoM6 hbw6 hby wb_0 wb_1 wb_2 wb_3 wb_4 wb_5 wb_6 wb_7 wlt hb7 hbx hoH
  obtain ⟨gb_0, gb_1, gb_2, gb_3, gb_4, gb_5, gb_6, gb_7⟩ := hG7.c8
  have glt := hG7.lt
  go_wp2_with fail
  refine (heldStudio_ok _ _ _ _ _ _ _ E 1 _ hoM7.reads (by omega) (by omega)).mono ?_
  rintro e w8 ⟨rfl, hb8⟩
  have hbwZ := hbw7.trans (hb8.mono hbw7.size)
  clear hb8 hW7 hG7 hoW7 hoM7 hbw7 gb_0 gb_1 gb_2 gb_3 gb_4 gb_5 gb_6 gb_7 glt
  go_wp2
  go_ret
  exact ⟨rfl, hbwZ⟩
end Go.Proofs.YtoknmjpnelbplaaGreat
