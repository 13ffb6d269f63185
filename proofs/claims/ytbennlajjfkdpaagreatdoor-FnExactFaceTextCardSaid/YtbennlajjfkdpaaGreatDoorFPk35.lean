/- part 35 -/
import Derived.Test.YtbennlajjfkdpaaGreatDoorFPk33
import Derived.Test.YtbennlajjfkdpaaGreatDoorFPk34
import Derived.Deep.RegionHeld3
set_option linter.unusedSimpArgs false
set_option linter.unusedVariables false
namespace Go.Proofs.YtbennlajjfkdpaaGreatDoor
open Go.RowKit
theorem iFmtV_any (x : Int) (h0 : 0 ≤ x) (h1 : x < 100) (w : World) :
    Calls Tryz.prog 25 #[.int .i64 x] w fun e w' => e = .returned (.string (dS x)) ∧ w = w' := by
  obtain ⟨n, rfl⟩ : ∃ n : Nat, x = (n : Int) := ⟨x.toNat, by omega⟩
  exact iFmt_any n (by omega) w
theorem join_ownm {base : Nat} {w : World} {v : Value} {xs : List ByteArray} (s : ByteArray) (h : OwnS base w v xs) (hpos : 0 < xs.length) (hlen : xs.length ≤ 1048576) (hs : bjm xs = s.data.toList) (hsz : s.size ≤ 1048576) :
    Calls Tryz.prog 26 #[v, .string ⟨#[45]⟩] w fun e w' => e = .returned (.string s) ∧ Below w.heap.size w w' := by
  have hcell := fun (g : Nat) (n c : Nat) (hv : v = .slice (some ⟨g, 0, none⟩) n c) => World.ownsRow.cells h (g := g) (by rw [hv]; rfl)
  have hlt := h.lt
  rcases h.2 with ⟨rfl, h0⟩ | ⟨g, cap, cur, rfl, hbg, hg, hnc, hcm, hcs, htake⟩
  · omega
  · have hg' := (hlt g rfl).2
    refine (Tryz.strings_Join g 0 cap xs ⟨#[45]⟩ w (fun j x hj => ?_) hg' (by omega) hnc ?_).mono fun e w' ⟨he, hb⟩ => ⟨he.trans ?_, hb⟩
    · have := hcell g _ _ rfl j (.string x) (by rw [List.getElem?_map, hj]; rfl)
      rw [Addr.add_lit] at this
      exact this
    · show (bjm xs).length ≤ _
      rw [hs, Array.length_toList]
      have : s.data.size = s.size := rfl
      omega
    · show Ending.returned (Value.string ⟨(bjm xs).toArray⟩) = _
      rw [hs]
set_option maxHeartbeats 8000000 in
set_option maxRecDepth 100000 in
theorem iFtxt_any (vn vl : Value) (ns ls : List Pr) (f : Int) (w : World) (hn : RP w vn ns) (hl : RP w vl ls) :
    Calls Tryz.prog 8 #[.agg #[vn, vl], .int .i64 f] w fun e w' => e = .returned (.string (faceS ns ls f)) ∧ Below w.heap.size w w' := by
  have HB : Hid (∀ j, j < (paneN ns ls f).length → 0 ≤ (paneN ns ls f).getD j 0 ∧ (paneN ns ls f).getD j 0 < 12) := Lib.hid (fun j hj => paneN_bd hj)
  have hlen := paneN_len ns ls f
  have HP := Lib.hid (fun (v : World) (hb : Below w.heap.size w v) => iPaneN_any vn vl ns ls f v (hn.below hb) (hl.below hb))
  obtain ⟨J, hJ⟩ : ∃ J, faceS ns ls f = J := ⟨_, rfl⟩
  have HJ0 : fT (paneN ns ls f) (paneN ns ls f).length = J := hJ
  rw [hJ]
  generalize paneN ns ls f = G at *
  have HJ : Hid (bjm (fP G G.length) = J.data.toList ∧ J.size ≤ 1048576) := Lib.hid (by
    rw [← HJ0]
    refine ⟨bjm_all G _, ?_⟩
    have := fT_size G (fun j hj => by have := HB.out j hj; omega) G.length (Nat.le_refl _)
    omega)
  have HZ : Hid (G.length = 0 → J = ⟨#[]⟩) := Lib.hid (fun h => by rw [← HJ0, h]; rfl)
  clear HJ0 hJ
  obtain ⟨i0, hi, iz0, iz1, iz2⟩ := info_parts infoStr
  go_enter Tryz.func8, Tryz.ntmps8
  go_wp2_with fail
  refine (HP.out _ (by exact bel_)).mono ?_
  rintro e w1 ⟨v1, rfl, ho1, hz1, hb1⟩
  have hsz1 := hb1.size
  simp at hsz1
  have hbw1 : Below w.heap.size w w1 := by exact bel_
  obtain ⟨A, c, rfl, hc, hm, hat⟩ := ho1.reads.form
  unfold maxLen at hm
  have HAT := Lib.hid hat
  clear hat hb1 hz1 ho1
  go_wp2
  go_loopw [5, 12] (fun v i wr => ∃ j : Nat, j ≤ G.length ∧ i = .int .i64 j ∧ OwnS w1.heap.size wr v (fP G j) ∧ (j = 0 → v = .slice none 0 0) ∧ Below w1.heap.size w1 wr) (fun _ i _ => G.length - (intOf i).toNat)
  case atStart => exact ⟨0, Nat.zero_le _, rfl, World.ownsRow_nil _ _ _ _, fun _ => rfl, Below.refl _ _⟩
  case round =>
    obtain ⟨j, hj, rfl, ho, hnil, hbl⟩ := hrel
    have hsz := hbl.size
    have hpl := fP_len G j
    by_cases hlt : j < G.length
    · obtain ⟨b, off, rfl, hb, hcl⟩ := HAT.out (by omega)
      have q0 := (hbl.cell (p := ⟨b, off + j, none⟩) hb).trans (hcl j hlt)
      obtain ⟨f0, f1⟩ := HB.out j hlt
      have HSC : Hid (fP G (j + 1) = fP G j ++ [dS (G.getD j 0)]) := Lib.hid rfl
      have hpl' : (fP G j).length ≤ 1048576 := by omega
      have hlo := ho.lt
      have c1 : (0 : Int) ≤ (j : Int) := by omega
      have c2 : (j : Int) < (G.length : Int) := by omega
      have g4 : b < wr.heap.size := Nat.lt_of_lt_of_le hb hsz
      clear hcl hnil hpl
      generalize fP G j = xs at *
      generalize G.getD j 0 = x at *
      go_wp2_with fail
      refine (iFmtV_any x f0 (by omega) _).mono ?_
      rintro e w2 ⟨rfl, rfl⟩
      go_wp2_with (at_builtin; refine wpList_append_s1 rfl _ _ rfl w1.heap.size i0 hi iz0 iz1 iz2 _ xs (dS x) rfl wr.heap.size rfl (by simp [go_sem]) (ho.alloc _) hpl' (by simp; omega) ?_)
      intro v3 w3 ho3 hg3
      have hz3 := hg3.size
      simp at hz3
      have hbw3 : Below w1.heap.size w1 w3 := (hbl.alloc hsz (.cells #[.string (dS x)] 9)).grown hg3 (by simp; omega) (fun k hk => by have := (hlo k hk).1; omega)
      have HO3 := Lib.hid ho3
      clear hbl ho hg3 ho3 q0
      go_wp2
      go_roundw
      case rel => exact ⟨j + 1, by omega, by go_num, by rw [HSC.out]; exact HO3.out, fun h => by omega, hbw3⟩
      case measure => simp [intOf]; omega
    · have hjj : j = G.length := by omega
      subst hjj
      have c2 : ¬ (G.length : Int) < (G.length : Int) := by omega
      have hbr := hbw1.trans (hbl.mono hbw1.size)
      by_cases h0 : G.length = 0
      · have hv := hnil h0
        subst hv
        have HZ2 := Lib.hid (HZ.out h0)
        clear ho hnil hpl hbl
        go_wp2_with fail
        refine (Tryz.strings_Join_none none 0 ⟨#[45]⟩ _).mono ?_
        rintro e w4 ⟨rfl, rfl⟩
        go_wp2
        go_ret
        exact ⟨by rw [HZ2.out]; rfl, hbr⟩
      · have hpos : 0 < (fP G G.length).length := by omega
        have hln : (fP G G.length).length ≤ 1048576 := by omega
        clear hpl hnil
        go_wp2_with fail
        refine (join_ownm J ho hpos hln HJ.out.1 HJ.out.2).mono ?_
        rintro e w4 ⟨rfl, hb4⟩
        have hbw4 := hbr.trans (hb4.mono hbr.size)
        clear hb4 ho hbl hbr
        go_wp2
        go_ret
        exact ⟨rfl, hbw4⟩
set_option maxHeartbeats 8000000 in
set_option maxRecDepth 100000 in
theorem sFtxt_any (vn vl : Value) (ns ls : List Pr) (f : Int) (w : World) (hn : RP w vn ns) (hl : RP w vl ls) :
    Calls Tryz.prog 6 #[.agg #[vn, vl], .int .i64 f] w fun e w' => e = .returned (.string (faceS ns ls f)) ∧ Below w.heap.size w w' := by
  have HB : Hid (∀ j, j < (paneN ns ls f).length → 0 ≤ (paneN ns ls f).getD j 0 ∧ (paneN ns ls f).getD j 0 < 12) := Lib.hid (fun j hj => paneN_bd hj)
  have hlen := paneN_len ns ls f
  have HP := Lib.hid (fun (v : World) (hb : Below w.heap.size w v) => sPaneN_any vn vl ns ls f v (hn.below hb) (hl.below hb))
  have HJ : Hid (faceS ns ls f = fT (paneN ns ls f) (paneN ns ls f).length) := Lib.hid rfl
  generalize faceS ns ls f = J at *
  generalize paneN ns ls f = G at *
  have HSZ : Hid (∀ j, j ≤ G.length → (fT G j).size ≤ 3 * j) := Lib.hid (fT_size G (fun j hj => by have := HB.out j hj; omega))
  go_enter Tryz.func6, Tryz.ntmps6
  go_wp2_with fail
  refine (HP.out _ (by exact bel_)).mono ?_
  rintro e w1 ⟨v1, rfl, ho1, hb1⟩
  have hsz1 := hb1.size
  simp at hsz1
  have hbw1 : Below w.heap.size w w1 := by exact bel_
  obtain ⟨A, c, rfl, hc, hm, hat⟩ := ho1.reads.form
  unfold maxLen at hm
  have HAT := Lib.hid hat
  clear hat hb1 ho1
  go_wp2
  go_loopw [5, 7] (fun s i wr => ∃ j : Nat, j ≤ G.length ∧ i = .int .i64 j ∧ s = .string (fT G j) ∧ Below w1.heap.size w1 wr) (fun _ i _ => G.length - (intOf i).toNat)
  case atStart => exact ⟨0, Nat.zero_le _, rfl, rfl, Below.refl _ _⟩
  case round =>
    obtain ⟨j, hj, rfl, rfl, hbl⟩ := hrel
    have hsz := hbl.size
    have hss := HSZ.out j hj
    by_cases hlt : j < G.length
    · obtain ⟨b, off, rfl, hb, hcl⟩ := HAT.out (by omega)
      have q0 := (hbl.cell (p := ⟨b, off + j, none⟩) hb).trans (hcl j hlt)
      obtain ⟨f0, f1⟩ := HB.out j hlt
      have hts := dS_size (G.getD j 0) (by omega)
      have HSC : Hid (fT G (j + 1) = (if j = 0 then ⟨#[]⟩ else fT G j ++ ⟨#[45]⟩) ++ dS (G.getD j 0)) := Lib.hid rfl
      have c1 : (0 : Int) ≤ (j : Int) := by omega
      have c2 : (j : Int) < (G.length : Int) := by omega
      have g4 : b < wr.heap.size := Nat.lt_of_lt_of_le hb hsz
      clear hcl
      generalize G.getD j 0 = x at *
      by_cases hj0 : j = 0
      · subst hj0
        have HS0 : Hid (fT G 0 = ⟨#[]⟩) := Lib.hid rfl
        rw [HS0.out]
        obtain ⟨T, hT⟩ : ∃ T, dS x = T := ⟨_, rfl⟩
        rw [hT] at HSC hts
        have HT := Lib.hid hT
        clear hT
        have z3 : 0 + T.size ≤ 9223372036854775807 := by omega
        have z4 : T.size ≤ 9223372036854775807 := by omega
        have c3 : ¬ (0 : Int) < 0 := by omega
        have q1 : wr.cell? ⟨b, off, none⟩ = some (.int .i64 x) := by simpa using q0
        clear q0
        go_wp2_with fail
        refine (sFmtI_any x f0 (by omega) _).mono ?_
        rw [HT.out]
        rintro e w2 ⟨rfl, hb2⟩
        have hbw2 := hbl.trans (hb2.mono hsz)
        clear hb2 hbl q1
        go_wp2
        go_roundw
        case rel => exact ⟨1, by omega, by go_num, by rw [HSC.out]; simp, hbw2⟩
        case measure => simp [intOf]; omega
      · rw [if_neg hj0] at HSC
        obtain ⟨T, hT⟩ : ∃ T, dS x = T := ⟨_, rfl⟩
        rw [hT] at HSC hts
        have HT := Lib.hid hT
        clear hT
        generalize fT G j = S at *
        have c3 : (0 : Int) < (j : Int) := by omega
        have z1 : S.size + 1 ≤ 9223372036854775807 := by omega
        have z2 : S.size + 1 + T.size ≤ 9223372036854775807 := by omega
        go_wp2_with fail
        refine (sFmtI_any x f0 (by omega) _).mono ?_
        rw [HT.out]
        rintro e w2 ⟨rfl, hb2⟩
        have hbw2 := hbl.trans (hb2.mono hsz)
        clear hb2 hbl q0
        go_wp2
        go_roundw
        case rel => exact ⟨j + 1, by omega, by go_num, by rw [HSC.out], hbw2⟩
        case measure => simp [intOf]; omega
    · have hjj : j = G.length := by omega
      subst hjj
      have c2 : ¬ (G.length : Int) < (G.length : Int) := by omega
      have hbr := hbw1.trans (hbl.mono hbw1.size)
      go_wp2
      go_ret
      exact ⟨by rw [HJ.out]; rfl, hbr⟩
end Go.Proofs.YtbennlajjfkdpaaGreatDoor

namespace Go.Proofs.YtbennlajjfkdpaaGreatDoor
open Go.RowKit
theorem iFtxt_at (vn vl : Value) (ns ls : List Pr) (f : Int) (x : ByteArray) (w : World) (hn : RP w vn ns) (hl : RP w vl ls) (hx : Hid (faceS ns ls f = x)) :
    Calls Tryz.prog 8 #[.agg #[vn, vl], .int .i64 f] w fun e w' => e = .returned (.string x) ∧ Below w.heap.size w w' := by
  rw [← hx.out]; exact iFtxt_any vn vl ns ls f w hn hl
theorem sFtxt_at (vn vl : Value) (ns ls : List Pr) (f : Int) (x : ByteArray) (w : World) (hn : RP w vn ns) (hl : RP w vl ls) (hx : Hid (faceS ns ls f = x)) :
    Calls Tryz.prog 6 #[.agg #[vn, vl], .int .i64 f] w fun e w' => e = .returned (.string x) ∧ Below w.heap.size w w' := by
  rw [← hx.out]; exact sFtxt_any vn vl ns ls f w hn hl
set_option maxHeartbeats 4000000 in
set_option maxRecDepth 100000 in
theorem ftxtLaw_any (vn vl : Value) (ns ls : List Pr) (f : Int) (w : World) (hn : RP w vn ns) (hl : RP w vl ls) :
    Calls Tryz.prog 3 #[.agg #[vn, vl], .int .i64 f] w fun e w' => e = .returned (.bool true) ∧ Below w.heap.size w w' := by
  obtain ⟨x, hx⟩ : ∃ x, szW 1048576 ns.length ls.length = x := ⟨_, rfl⟩
  have HX := Lib.hid hx
  by_cases hx0 : x < 0
  · clear hx
    go_enter Tryz.func3, Tryz.ntmps3
    go_wp2_with fail
    refine (szWindow_at _ _ ns ls _ x _ (hn.below (by exact bel_)) (hl.below (by exact bel_)) (by omega) (by omega) HX).mono ?_
    rintro e w1 ⟨rfl, hb1⟩; (first | (with_reducible have hc1 := bdC hb1) | have hc1 := bcC hb1); (first | (with_reducible have hf1 := bdF hb1) | have hf1 := bcF hb1); have hz1 := hb1.size; (try simp at hz1); (try have hp1_0 := p0_ w w1); (try have hp1_1 := p1_ w w1); (try have hp1_2 := p2_ w w1); (try have hp1_3 := p3_ w w1)
    go_wp2
    go_ret
    exact ⟨rfl, by exact bel_⟩
  · obtain ⟨s1, s2, s3, s4⟩ := szW_le (by rw [hx]; exact hx0)
    clear s3 s4 hx
    obtain ⟨J, hJ⟩ : ∃ J, faceS ns ls f = J := ⟨_, rfl⟩
    have HJ := Lib.hid hJ
    clear hJ
    go_enter Tryz.func3, Tryz.ntmps3
    go_wp2_with fail
    refine (szWindow_at _ _ ns ls _ x _ (hn.below (by exact bel_)) (hl.below (by exact bel_)) (by omega) (by omega) HX).mono ?_
    rintro e w1 ⟨rfl, hb1⟩; (first | (with_reducible have hc1 := bdC hb1) | have hc1 := bcC hb1); (first | (with_reducible have hf1 := bdF hb1) | have hf1 := bcF hb1); have hz1 := hb1.size; (try simp at hz1); (try have hp1_0 := p0_ w w1); (try have hp1_1 := p1_ w w1); (try have hp1_2 := p2_ w w1); (try have hp1_3 := p3_ w w1)
    have hbw1 : Below w.heap.size w w1 := by exact bel_
    have hV1 : Blk w1 w.heap.size 25 #[vn, vl] := Blk.below (Blk.newAt rfl) hb1 sz_
    clear hb1 hc1 hf1 HX
    obtain ⟨a_0, a_1⟩ := hV1.c2
    go_wp2_with fail
    refine (toWindow_any vn vl ns ls _ (hn.below hbw1) (hl.below hbw1) s1 s2).mono ?_
    rintro e w2 ⟨An2, cn2, Al2, cl2, rfl, ho2, hb2⟩
    have hz2 := hb2.size
    have hV2 := hV1.below hb2 hV1.lt
    have hbw2 : Below w.heap.size w w2 := by exact bel_
    clear hb2 hV1 hbw1 a_0 a_1
    go_wp2_with fail
    refine (sFtxt_at _ _ ns ls f J _ ho2.1.reads ho2.2.1.reads HJ).mono ?_
    rintro e w3 ⟨rfl, hb3⟩; (first | (with_reducible have hc3 := bdC hb3) | have hc3 := bcC hb3); (first | (with_reducible have hf3 := bdF hb3) | have hf3 := bcF hb3); have hz3 := hb3.size; (try simp at hz3); (try have hp3_0 := p0_ w w3); (try have hp3_1 := p1_ w w3); (try have hp3_2 := p2_ w w3); (try have hp3_3 := p3_ w w3)
    have hV3 := hV2.below hb3 hV2.lt
    have hbw3 : Below w.heap.size w w3 := by exact bel_
    clear hb3 hc3 hf3 hV2 hbw2 ho2
    obtain ⟨a_0, a_1⟩ := hV3.c2
    go_wp2_with fail
    refine (toWindow_any vn vl ns ls _ (hn.below hbw3) (hl.below hbw3) s1 s2).mono ?_
    rintro e w4 ⟨An4, cn4, Al4, cl4, rfl, ho4, hb4⟩
    have hz4 := hb4.size
    have hV4 := hV3.below hb4 hV3.lt
    have hbw4 : Below w.heap.size w w4 := by exact bel_
    clear hb4 hV3 hbw3 a_0 a_1
    have hbX : Below w4.heap.size w4 (w4.alloc (.cells #[.slice An4 ns.length cn4, .slice Al4 ls.length cl4] 31)) := by exact bel_
    go_wp2_with fail
    refine (iFtxt_at _ _ ns ls f J _ (ho4.1.reads.below hbX) (ho4.2.1.reads.below hbX) HJ).mono ?_
    rintro e w5 ⟨rfl, hb5⟩; (first | (with_reducible have hc5 := bdC hb5) | have hc5 := bcC hb5); (first | (with_reducible have hf5 := bdF hb5) | have hf5 := bcF hb5); have hz5 := hb5.size; (try simp at hz5); (try have hp5_0 := p0_ w w5); (try have hp5_1 := p1_ w w5); (try have hp5_2 := p2_ w w5); (try have hp5_3 := p3_ w w5)
    have hX5 : Blk w5 w4.heap.size 31 #[.slice An4 ns.length cn4, .slice Al4 ls.length cl4] := Blk.below (Blk.newAt rfl) hb5 sz_
    have hV5 := (hV4.alloc _).below hb5 sz_
    have hb45 : Below w4.heap.size w4 w5 := hbX.trans (hb5.mono hbX.size)
    have r5n := ho4.1.reads.below hb45
    have r5l := ho4.2.1.reads.below hb45
    have hbw5 : Below w.heap.size w w5 := hbw4.trans (hb45.mono hbw4.size)
    have n1 : w.heap.size < w5.heap.size := hV5.lt
    have n2 : w4.heap.size < w5.heap.size := hX5.lt
    clear hb5 hc5 hf5 hb45 hbX hV4 hbw4 ho4
    obtain ⟨a_0, a_1⟩ := hV5.c2
    obtain ⟨x_0, x_1⟩ := hX5.c2
    go_wp2_with fail
    generalize w4.heap.size = B4 at *
    go_region_held3 (fun w' => w'.cell? ⟨w.heap.size, 0, none⟩ = some vn ∧ w'.cell? ⟨w.heap.size, 1, none⟩ = some vl ∧ w'.cell? ⟨B4, 0, none⟩ = some (.slice An4 ns.length cn4) ∧ w'.cell? ⟨B4, 1, none⟩ = some (.slice Al4 ls.length cl4))
      (go_keep)
      (first | (go_at_call 7; refine Calls.mono (toWindow_any vn vl ns ls _ (hn.below ?c1) (hl.below ?c1) s1 s2) ?_; (case c1 => exact bel_); rintro e w6 ⟨An6, cn6, Al6, cl6, rfl, ho6, hb6⟩; (first | (with_reducible have hc6 := bdC hb6) | have hc6 := bcC hb6); (first | (with_reducible have hf6 := bdF hb6) | have hf6 := bcF hb6); have hz6 := hb6.size; (try simp at hz6); (try have hp6_0 := p0_ w w6); (try have hp6_1 := p1_ w w6); (try have hp6_2 := p2_ w w6); (try have hp6_3 := p3_ w w6); (have mm6 : B4 < w6.heap.size := by omega)) | (go_at_call 9; refine (eqWindow_any _ _ _ _ ns ls _ (r5n.below ?c2) (r5l.below ?c2) (ho6.1.reads) (ho6.2.1.reads)).mono ?_; (case c2 => exact bel_); rintro e w7 ⟨rfl, hb7⟩; (first | (with_reducible have hc7 := bdC hb7) | have hc7 := bcC hb7); (first | (with_reducible have hf7 := bdF hb7) | have hf7 := bcF hb7); have hz7 := hb7.size; (try simp at hz7); (try have hp7_0 := p0_ w w7); (try have hp7_1 := p1_ w w7); (try have hp7_2 := p2_ w w7); (try have hp7_3 := p3_ w w7)))
    go_wp2
    go_ret
    exact ⟨rfl, by exact bel_⟩
end Go.Proofs.YtbennlajjfkdpaaGreatDoor
