/-
  The law of StepOn, walked.
-/
import Derived.Test.YtnpdincjekelaaaStep
import Derived.Test.YtnpdincjekelaaaMarkW
import Derived.Test.YtnpdincjekelaaaSame
import Derived.Deep.RegionHeld3
set_option linter.unusedSimpArgs false
set_option linter.unusedVariables false
namespace Go.Proofs.Ytnpdincjekelaaa
open Go.RowKit

theorem joinL_len (ns ls : List Pr) (k : Int) : (joinN ns ls k).length ≤ ns.length ∧ (joinL ns ls k).length ≤ ls.length := by
  constructor
  · unfold joinN joinCn
    split
    · exact nwo_len ns k _
    · exact Nat.le_refl _
  · unfold joinL
    split
    · rename_i h
      have hs : straightB ns ls k = true := by unfold joinB at h; rw [Bool.and_eq_true] at h; exact h.1
      obtain ⟨m, p, q, t, u, rfl, hk, hj⟩ := joinAt hs
      rw [hj.cl]
      exact jwo_len _ _ _ _ _ _
    · exact Nat.le_refl _

theorem step_len (ns ls : List Pr) (k a b : Int) : (stepN ns ls k a b).length ≤ ns.length ∧ (stepL ns ls k a b).length ≤ ls.length + 1 := by
  have h := joinL_len ns ls a
  unfold stepN stepL
  constructor
  · split
    · exact h.1
    · exact Nat.le_refl _
  · split
    · unfold addL; split <;> simp
    · split
      · unfold dropL
        split
        · simp; omega
        · omega
      · split
        · omega
        · omega

theorem iStep_at (vn vl : Value) (ns ls N L : List Pr) (k a b : Int) (bb : Bool) (w : World) (hn : RP w vn ns) (hl : RP w vl ls) (h1 : ns.length ≤ 1048576) (h2 : ls.length ≤ 1048576) (hN : Hid (stepN ns ls k a b = N)) (hL : Hid (stepL ns ls k a b = L)) (hB : Hid (stepB ns ls k a b = bb)) :
    Calls Try.prog 28 #[.agg #[vn, vl], .int .i64 k, .int .i64 a, .int .i64 b] w (RetWB N L bb w) := by
  rw [← hN.out, ← hL.out, ← hB.out]; exact iStep_any vn vl ns ls k a b w hn hl h1 h2

theorem sStep_at (vn vl : Value) (ns ls N L : List Pr) (k a b : Int) (bb : Bool) (w : World) (hn : RP w vn ns) (hl : RP w vl ls) (h1 : ns.length ≤ 1048576) (h2 : ls.length ≤ 1048576) (hN : Hid (stepN ns ls k a b = N)) (hL : Hid (stepL ns ls k a b = L)) (hB : Hid (stepB ns ls k a b = bb)) :
    Calls Try.prog 27 #[.agg #[vn, vl], .int .i64 k, .int .i64 a, .int .i64 b] w (RetWB N L bb w) := by
  rw [← hN.out, ← hL.out, ← hB.out]; exact sStep_any vn vl ns ls k a b w hn hl h1 h2

set_option maxHeartbeats 8000000 in
set_option maxRecDepth 100000 in
theorem stepLaw_any (vn vl : Value) (ns ls : List Pr) (k a b : Int) (w : World) (hn : RP w vn ns) (hl : RP w vl ls) :
    Calls Try.prog 5 #[.agg #[vn, vl], .int .i64 k, .int .i64 a, .int .i64 b] w fun e w' => e = .returned (.bool true) ∧ Below w.heap.size w w' := by
  obtain ⟨x, hx⟩ : ∃ x, szW 1048576 ns.length ls.length = x := ⟨_, rfl⟩
  have HX := Lib.hid hx
  by_cases hx0 : x < 0
  · clear hx
    go_enter Try.func5, Try.ntmps5
    go_wp2_with fail
    refine (szWindow_at _ _ ns ls _ x _ (hn.below (by (repeat (first | exact Below.refl _ _ | assumption | refine Below.drew ?_ | refine below_drewN ?_ _ | refine Below.alloc ?_ (by first | omega | (simp; done) | (simp; omega)) _ | refine Below.setCell ?_ (by first | omega | (simp; done) | (simp; omega)) _ | refine Below.step (by assumption) ?_ (by first | omega | (simp; done) | (simp; omega)) | refine Below.mark (by assumption) (by assumption) ?_ (by first | omega | (simp; done) | (simp; omega)) (by first | omega | (simp; done) | (simp; omega)))))) (hl.below (by (repeat (first | exact Below.refl _ _ | assumption | refine Below.drew ?_ | refine below_drewN ?_ _ | refine Below.alloc ?_ (by first | omega | (simp; done) | (simp; omega)) _ | refine Below.setCell ?_ (by first | omega | (simp; done) | (simp; omega)) _ | refine Below.step (by assumption) ?_ (by first | omega | (simp; done) | (simp; omega)) | refine Below.mark (by assumption) (by assumption) ?_ (by first | omega | (simp; done) | (simp; omega)) (by first | omega | (simp; done) | (simp; omega)))))) (by omega) (by omega) HX).mono ?_
    rintro e w1 ⟨rfl, hb1⟩; (first | (with_reducible have hcf1 := bcell_drew hb1) | have hcf1 := bcell hb1); obtain ⟨hc1, hf1⟩ := hcf1; have hz1 := hb1.size; (try simp at hz1); (try have hp1_0 : w.heap.size < w1.heap.size := by omega); (try have hp1_1 : w.heap.size + 1 < w1.heap.size := by omega); (try have hp1_2 : w.heap.size + 1 + 1 < w1.heap.size := by omega); (try have hp1_3 : w.heap.size + 1 + 1 + 1 < w1.heap.size := by omega)
    go_wp2
    go_ret
    exact ⟨rfl, by (repeat' (first | (with_reducible exact Below.refl _ _) | (with_reducible assumption) | (with_reducible refine Below.drew ?_) | (with_reducible refine below_drewN ?_ _) | (with_reducible refine Below.alloc ?_ ?_ _) | (with_reducible refine Below.setCell ?_ ?_ _) | (with_reducible refine Below.step (by assumption) ?_ ?_))); all_goals (first | omega | (simp; done) | (simp; omega))⟩
  · obtain ⟨s1, s2, s3, s4⟩ := szW_le (by rw [hx]; exact hx0)
    clear s3 s4 hx
    obtain ⟨sn1, sn2⟩ := step_len ns ls k a b
    obtain ⟨N, hN⟩ : ∃ N, stepN ns ls k a b = N := ⟨_, rfl⟩
    obtain ⟨L, hL⟩ : ∃ L, stepL ns ls k a b = L := ⟨_, rfl⟩
    obtain ⟨bb, hB⟩ : ∃ bb, stepB ns ls k a b = bb := ⟨_, rfl⟩
    rw [hN] at sn1
    rw [hL] at sn2
    have HN := Lib.hid hN
    have HL := Lib.hid hL
    have HB := Lib.hid hB
    clear hN hL hB
    have m1 : ¬ (1 : Int) + 2 * (ns.length : Int) + 2 * (ls.length : Int) < 0 := by omega
    have m2 : ¬ (1 : Int) + 2 * (N.length : Int) + 2 * (L.length : Int) < 0 := by omega
    go_enter Try.func5, Try.ntmps5
    go_wp2_with fail
    refine (szWindow_at _ _ ns ls _ x _ (hn.below (by (repeat (first | exact Below.refl _ _ | assumption | refine Below.drew ?_ | refine below_drewN ?_ _ | refine Below.alloc ?_ (by first | omega | (simp; done) | (simp; omega)) _ | refine Below.setCell ?_ (by first | omega | (simp; done) | (simp; omega)) _ | refine Below.step (by assumption) ?_ (by first | omega | (simp; done) | (simp; omega)) | refine Below.mark (by assumption) (by assumption) ?_ (by first | omega | (simp; done) | (simp; omega)) (by first | omega | (simp; done) | (simp; omega)))))) (hl.below (by (repeat (first | exact Below.refl _ _ | assumption | refine Below.drew ?_ | refine below_drewN ?_ _ | refine Below.alloc ?_ (by first | omega | (simp; done) | (simp; omega)) _ | refine Below.setCell ?_ (by first | omega | (simp; done) | (simp; omega)) _ | refine Below.step (by assumption) ?_ (by first | omega | (simp; done) | (simp; omega)) | refine Below.mark (by assumption) (by assumption) ?_ (by first | omega | (simp; done) | (simp; omega)) (by first | omega | (simp; done) | (simp; omega)))))) (by omega) (by omega) HX).mono ?_
    rintro e w1 ⟨rfl, hb1⟩; (first | (with_reducible have hcf1 := bcell_drew hb1) | have hcf1 := bcell hb1); obtain ⟨hc1, hf1⟩ := hcf1; have hz1 := hb1.size; (try simp at hz1); (try have hp1_0 : w.heap.size < w1.heap.size := by omega); (try have hp1_1 : w.heap.size + 1 < w1.heap.size := by omega); (try have hp1_2 : w.heap.size + 1 + 1 < w1.heap.size := by omega); (try have hp1_3 : w.heap.size + 1 + 1 + 1 < w1.heap.size := by omega)
    have hbw1 : Below w.heap.size w w1 := by (repeat' (first | (with_reducible exact Below.refl _ _) | (with_reducible assumption) | (with_reducible refine Below.drew ?_) | (with_reducible refine below_drewN ?_ _) | (with_reducible refine Below.alloc ?_ ?_ _) | (with_reducible refine Below.setCell ?_ ?_ _) | (with_reducible refine Below.step (by assumption) ?_ ?_))); all_goals (first | omega | (simp; done) | (simp; omega))
    have hV1 : Blk w1 w.heap.size 45 #[vn, vl] := Blk.below (Blk.newAt rfl) hb1 (by first | omega | (simp; done) | (simp; omega))
    clear hb1 hc1 hf1 HX
    (have a_0 := hV1.cell 0); (have a_1 := hV1.cell 1); simp only [List.getElem?_toArray, List.getElem?_cons_succ, List.getElem?_cons_zero] at a_0 a_1
    go_wp2_with fail
    refine (toWindow_any vn vl ns ls _ (hn.below hbw1) (hl.below hbw1) s1 s2).mono ?_
    rintro e w2 ⟨An2, cn2, Al2, cl2, rfl, ho2, hb2⟩
    have hz2 := hb2.size
    have hV2 := hV1.below hb2 hV1.lt
    have hbw2 := hbw1.trans (hb2.mono hbw1.size)
    clear hb2 hV1 hbw1 a_0 a_1
    go_wp2_with fail
    refine (sStep_at _ _ ns ls N L k a b bb _ ho2.1.reads ho2.2.1.reads s1 s2 HN HL HB).mono ?_
    rintro e w3 ⟨An3, cn3, Al3, cl3, rfl, ho3, hb3⟩
    have hz3 := hb3.size
    have hV3 := hV2.below hb3 hV2.lt
    have hbw3 := hbw2.trans (hb3.mono hbw2.size)
    have hlt3 := ho3.lt
    clear hb3 hV2 hbw2 ho2
    (have a_0 := hV3.cell 0); (have a_1 := hV3.cell 1); simp only [List.getElem?_toArray, List.getElem?_cons_succ, List.getElem?_cons_zero] at a_0 a_1
    have e0 : w.heap.size < w3.heap.size := hV3.lt
    go_wp2_with fail
    obtain ⟨v3, hv3⟩ : ∃ v, v = w3.alloc (.cells #[.slice An3 N.length cn3, .slice Al3 L.length cl3] 27) := ⟨_, rfl⟩
    have hy3 : v3.heap.size = w3.heap.size + 1 := by rw [hv3]; simp
    have hW3 : Blk v3 w3.heap.size 27 #[.slice An3 N.length cn3, .slice Al3 L.length cl3] := hv3 ▸ Blk.newAt rfl
    have hV3' : Blk v3 _ _ _ := hv3 ▸ hV3.alloc _
    have ho3' := hv3 ▸ ho3.alloc (.cells #[.slice An3 N.length cn3, .slice Al3 L.length cl3] 27)
    have hbv3 : Below w.heap.size w v3 := hv3 ▸ hbw3.alloc hbw3.size _
    rw [← hv3]
    clear hv3 hV3 ho3 hbw3 a_0 a_1
    refine (toWindow_any vn vl ns ls _ (hn.below hbv3) (hl.below hbv3) s1 s2).mono ?_
    rintro e w4 ⟨An4, cn4, Al4, cl4, rfl, ho4, hb4⟩
    have hz4 := hb4.size
    have hV4 := hV3'.below hb4 hV3'.lt
    have hW4 := hW3.below hb4 hW3.lt
    have ho34 := ho3'.kept hb4
    have hbw4 := hbv3.trans (hb4.mono hbv3.size)
    have hlt4 := ho4.lt
    clear hb4 hV3' hW3 ho3' hbv3
    (have a_0 := hV4.cell 0); (have a_1 := hV4.cell 1); simp only [List.getElem?_toArray, List.getElem?_cons_succ, List.getElem?_cons_zero] at a_0 a_1
    go_wp2_with fail
    obtain ⟨v4, hv4⟩ : ∃ v, v = w4.alloc (.cells #[.slice An4 ns.length cn4, .slice Al4 ls.length cl4] 27) := ⟨_, rfl⟩
    have hy4 : v4.heap.size = w4.heap.size + 1 := by rw [hv4]; simp
    have hX4 : Blk v4 w4.heap.size 27 #[.slice An4 ns.length cn4, .slice Al4 ls.length cl4] := hv4 ▸ Blk.newAt rfl
    have hV4' : Blk v4 _ _ _ := hv4 ▸ hV4.alloc _
    have hW4' : Blk v4 _ _ _ := hv4 ▸ hW4.alloc _
    have ho34' := hv4 ▸ ho34.alloc (.cells #[.slice An4 ns.length cn4, .slice Al4 ls.length cl4] 27)
    have ho4' := hv4 ▸ ho4.alloc (.cells #[.slice An4 ns.length cn4, .slice Al4 ls.length cl4] 27)
    have hbv4 : Below w.heap.size w v4 := hv4 ▸ hbw4.alloc hbw4.size _
    rw [← hv4]
    clear hv4 hV4 hW4 ho34 ho4 hbw4 a_0 a_1
    refine (iStep_at _ _ ns ls N L k a b bb _ ho4'.1.reads ho4'.2.1.reads s1 s2 HN HL HB).mono ?_
    rintro e w5 ⟨An5, cn5, Al5, cl5, rfl, ho5, hb5⟩
    have hz5 := hb5.size
    have hV5 := hV4'.below hb5 hV4'.lt
    have hW5 := hW4'.below hb5 hW4'.lt
    have hX5 := hX4.below hb5 hX4.lt
    have ho35 := ho34'.kept hb5
    have ho45 := ho4'.kept hb5
    have hbw5 := hbv4.trans (hb5.mono hbv4.size)
    have hlt5 := ho5.lt
    clear hb5 hV4' hW4' hX4 ho34' ho4' hbv4
    (have b_0 := hW5.cell 0); (have b_1 := hW5.cell 1); simp only [List.getElem?_toArray, List.getElem?_cons_succ, List.getElem?_cons_zero] at b_0 b_1
    have e1 : w3.heap.size < w5.heap.size := hW5.lt
    go_wp2_with fail
    obtain ⟨v5, hv5⟩ : ∃ v, v = w5.alloc (.cells #[.slice An5 N.length cn5, .slice Al5 L.length cl5] 27) := ⟨_, rfl⟩
    have hy5 : v5.heap.size = w5.heap.size + 1 := by rw [hv5]; simp
    have hG5 : Blk v5 w5.heap.size 27 #[.slice An5 N.length cn5, .slice Al5 L.length cl5] := hv5 ▸ Blk.newAt rfl
    have hV5' : Blk v5 _ _ _ := hv5 ▸ hV5.alloc _
    have hW5' : Blk v5 _ _ _ := hv5 ▸ hW5.alloc _
    have hX5' : Blk v5 _ _ _ := hv5 ▸ hX5.alloc _
    have ho35' := hv5 ▸ ho35.alloc (.cells #[.slice An5 N.length cn5, .slice Al5 L.length cl5] 27)
    have ho45' := hv5 ▸ ho45.alloc (.cells #[.slice An5 N.length cn5, .slice Al5 L.length cl5] 27)
    have ho5' := hv5 ▸ ho5.alloc (.cells #[.slice An5 N.length cn5, .slice Al5 L.length cl5] 27)
    have hbv5 : Below w.heap.size w v5 := hv5 ▸ hbw5.alloc hbw5.size _
    rw [← hv5]
    clear hv5 hV5 hW5 hX5 ho35 ho45 ho5 hbw5 b_0 b_1
    refine (eqWindow_any _ _ _ _ N L _ ho5'.1.reads ho5'.2.1.reads ho35'.1.reads ho35'.2.1.reads).mono ?_
    rintro e w6 ⟨rfl, hb6⟩
    have hz6 := hb6.size
    have hV6 := hV5'.below hb6 hV5'.lt
    have hW6 := hW5'.below hb6 hW5'.lt
    have hX6 := hX5'.below hb6 hX5'.lt
    have hG6 := hG5.below hb6 hG5.lt
    have ho36 := ho35'.kept hb6
    have ho46 := ho45'.kept hb6
    have ho56 := ho5'.kept hb6
    have hbw6 := hbv5.trans (hb6.mono hbv5.size)
    clear hb6 hV5' hW5' hX5' hG5 ho35' ho45' ho5' hbv5
    (have a_0 := hV6.cell 0); (have a_1 := hV6.cell 1); simp only [List.getElem?_toArray, List.getElem?_cons_succ, List.getElem?_cons_zero] at a_0 a_1
    (have x_0 := hX6.cell 0); (have x_1 := hX6.cell 1); simp only [List.getElem?_toArray, List.getElem?_cons_succ, List.getElem?_cons_zero] at x_0 x_1
    have n1 : w.heap.size < w6.heap.size := hV6.lt
    have n2 : w4.heap.size < w6.heap.size := hX6.lt
    have r6n := ho46.1.reads
    have r6l := ho46.2.1.reads
    go_wp2_with fail
    generalize w4.heap.size = B4 at *
    go_region_held3 (fun w' => w'.cell? ⟨w.heap.size, 0, none⟩ = some vn ∧ w'.cell? ⟨w.heap.size, 1, none⟩ = some vl ∧ w'.cell? ⟨B4, 0, none⟩ = some (.slice An4 ns.length cn4) ∧ w'.cell? ⟨B4, 1, none⟩ = some (.slice Al4 ls.length cl4))
      (go_keep)
      (first | (go_at_call 24; refine Calls.mono (toWindow_any vn vl ns ls _ (hn.below ?c1) (hl.below ?c1) s1 s2) ?_; (case c1 => (repeat' (first | (with_reducible exact Below.refl _ _) | (with_reducible assumption) | (with_reducible refine Below.drew ?_) | (with_reducible refine below_drewN ?_ _) | (with_reducible refine Below.alloc ?_ ?_ _) | (with_reducible refine Below.setCell ?_ ?_ _) | (with_reducible refine Below.step (by assumption) ?_ ?_))); all_goals (first | omega | (simp; done) | (simp; omega))); rintro e w7 ⟨An7, cn7, Al7, cl7, rfl, ho7, hb7⟩; (first | (with_reducible have hcf7 := bcell_drew hb7) | have hcf7 := bcell hb7); obtain ⟨hc7, hf7⟩ := hcf7; have hz7 := hb7.size; (try simp at hz7); (try have hp7_0 : w.heap.size < w7.heap.size := by omega); (try have hp7_1 : w.heap.size + 1 < w7.heap.size := by omega); (try have hp7_2 : w.heap.size + 1 + 1 < w7.heap.size := by omega); (try have hp7_3 : w.heap.size + 1 + 1 + 1 < w7.heap.size := by omega); (have mm7 : B4 < w7.heap.size := by omega)) | (go_at_call 26; refine (eqWindow_any _ _ _ _ ns ls _ (r6n.below ?c2) (r6l.below ?c2) (ho7.1.reads) (ho7.2.1.reads)).mono ?_; (case c2 => (repeat' (first | (with_reducible exact Below.refl _ _) | (with_reducible assumption) | (with_reducible refine Below.drew ?_) | (with_reducible refine below_drewN ?_ _) | (with_reducible refine Below.alloc ?_ ?_ _) | (with_reducible refine Below.setCell ?_ ?_ _) | (with_reducible refine Below.step (by assumption) ?_ ?_))); all_goals (first | omega | (simp; done) | (simp; omega))); rintro e w8 ⟨rfl, hb8⟩; (first | (with_reducible have hcf8 := bcell_drew hb8) | have hcf8 := bcell hb8); obtain ⟨hc8, hf8⟩ := hcf8; have hz8 := hb8.size; (try simp at hz8); (try have hp8_0 : w.heap.size < w8.heap.size := by omega); (try have hp8_1 : w.heap.size + 1 < w8.heap.size := by omega); (try have hp8_2 : w.heap.size + 1 + 1 < w8.heap.size := by omega); (try have hp8_3 : w.heap.size + 1 + 1 + 1 < w8.heap.size := by omega)))
    have hb68 : Below w6.heap.size w6 w8 := by (repeat' (first | (with_reducible exact Below.refl _ _) | (with_reducible assumption) | (with_reducible refine Below.drew ?_) | (with_reducible refine below_drewN ?_ _) | (with_reducible refine Below.alloc ?_ ?_ _) | (with_reducible refine Below.setCell ?_ ?_ _) | (with_reducible refine Below.step (by assumption) ?_ ?_))); all_goals (first | omega | (simp; done) | (simp; omega))
    have hz68 := hb68.size
    have hV8 := hV6.below hb68 hV6.lt
    have hW8 := hW6.below hb68 hW6.lt
    have hX8 := hX6.below hb68 hX6.lt
    have hG8 := hG6.below hb68 hG6.lt
    have ho38 := ho36.kept hb68
    have ho48 := ho46.kept hb68
    have ho58 := ho56.kept hb68
    have hbw8 := hbw6.trans (hb68.mono hbw6.size)
    clear hb68 hb7 hb8 hc7 hf7 hc8 hf8 ho7 hV6 hW6 hX6 hG6 ho36 ho46 ho56 hbw6 a_0 a_1 x_0 x_1 r6n r6l n1 n2
    (have x_0 := hX8.cell 0); (have x_1 := hX8.cell 1); simp only [List.getElem?_toArray, List.getElem?_cons_succ, List.getElem?_cons_zero] at x_0 x_1
    go_wp2_with fail
    refine (markWindow_any _ _ _ ns ls 1 _ ho48 (by omega) (by omega)).mono ?_
    rintro e w9 ⟨rfl, _, ht9⟩
    have hz9 := ht9.size
    have hV9 := hV8.turned ht9 (fun hk => by have := (hlt4 _ hk).1; omega)
    have hW9 := hW8.turned ht9 (fun hk => by have := (hlt4 _ hk).1; omega)
    have hG9 := hG8.turned ht9 (fun hk => by have := (hlt4 _ hk).2; omega)
    have ho39 := ho38.turned ht9 (fun k hk hk' => by have := (hlt3 k hk).2; have := (hlt4 k hk').1; omega)
    have ho59 := ho58.turned ht9 (fun k hk hk' => by have := (hlt5 k hk).1; have := (hlt4 k hk').2; omega)
    have hbw9 := hbw8.trans (ht9.below (fun k hk => by have := (hlt4 k hk).1; omega) hbw8.size)
    clear ht9 hV8 hW8 hX8 hG8 ho38 ho48 ho58 hbw8 x_0 x_1
    (have b_0 := hW9.cell 0); (have b_1 := hW9.cell 1); simp only [List.getElem?_toArray, List.getElem?_cons_succ, List.getElem?_cons_zero] at b_0 b_1
    (have g_0 := hG9.cell 0); (have g_1 := hG9.cell 1); simp only [List.getElem?_toArray, List.getElem?_cons_succ, List.getElem?_cons_zero] at g_0 g_1
    go_wp2_with fail
    refine (eqWindow_any _ _ _ _ N L _ ho59.1.reads ho59.2.1.reads ho39.1.reads ho39.2.1.reads).mono ?_
    rintro e w10 ⟨rfl, hb10⟩
    have hz10 := hb10.size
    have hV10 := hV9.below hb10 hV9.lt
    have hW10 := hW9.below hb10 hW9.lt
    have hG10 := hG9.below hb10 hG9.lt
    have ho310 := ho39.kept hb10
    have ho510 := ho59.kept hb10
    have hbw10 := hbw9.trans (hb10.mono hbw9.size)
    clear hb10 hV9 hW9 hG9 ho39 ho59 hbw9
    clear b_0 b_1 g_0 g_1
    (have g_0 := hG10.cell 0); (have g_1 := hG10.cell 1); simp only [List.getElem?_toArray, List.getElem?_cons_succ, List.getElem?_cons_zero] at g_0 g_1
    go_wp2_with fail
    refine (markWindow_any _ _ _ N L 1 _ ho510 (by omega) (by omega)).mono ?_
    rintro e w11 ⟨rfl, ho511, ht11⟩
    have hz11 := ht11.size
    have hV11 := hV10.turned ht11 (fun hk => by have := (hlt5 _ hk).1; omega)
    have hW11 := hW10.turned ht11 (fun hk => by have := (hlt5 _ hk).1; omega)
    have hG11 := hG10.turned ht11 (fun hk => by have := (hlt5 _ hk).2; omega)
    have ho311 := ho310.turned ht11 (fun k hk hk' => by have := (hlt3 k hk).2; have := (hlt5 k hk').1; omega)
    have hbw11 := hbw10.trans (ht11.below (fun k hk => by have := (hlt5 k hk).1; omega) hbw10.size)
    clear ht11 hV10 hW10 hG10 ho310 ho510 hbw10 g_0 g_1
    (have g_0 := hG11.cell 0); (have g_1 := hG11.cell 1); simp only [List.getElem?_toArray, List.getElem?_cons_succ, List.getElem?_cons_zero] at g_0 g_1
    go_wp2_with fail
    refine (heldWindow_ok _ _ N.length L.length 1 _ ho511.1.reads ho511.2.1.reads (by omega) (by omega)).mono ?_
    rintro e w12 ⟨rfl, hb12⟩
    have hz12 := hb12.size
    have hV12 := hV11.below hb12 hV11.lt
    have hW12 := hW11.below hb12 hW11.lt
    have hG12 := hG11.below hb12 hG11.lt
    have ho312 := ho311.kept hb12
    have ho512 := ho511.kept hb12
    have hbw12 := hbw11.trans (hb12.mono hbw11.size)
    clear hb12 hV11 hW11 hG11 ho311 ho511 hbw11
    clear g_0 g_1
    (have a_0 := hV12.cell 0); (have a_1 := hV12.cell 1); simp only [List.getElem?_toArray, List.getElem?_cons_succ, List.getElem?_cons_zero] at a_0 a_1
    go_wp2_with fail
    refine (toWindow_any vn vl ns ls _ (hn.below hbw12) (hl.below hbw12) s1 s2).mono ?_
    rintro e w13 ⟨An13, cn13, Al13, cl13, rfl, ho13, hb13⟩
    have hz13 := hb13.size
    have hW13 := hW12.below hb13 hW12.lt
    have hG13 := hG12.below hb13 hG12.lt
    have ho313 := ho312.kept hb13
    have ho513 := ho512.kept hb13
    have hbw13 := hbw12.trans (hb13.mono hbw12.size)
    clear a_0 a_1 hV12 hb13 hW12 hG12 ho312 ho512 hbw12
    go_wp2_with fail
    refine (iStep_at _ _ ns ls N L k a b bb _ ho13.1.reads ho13.2.1.reads s1 s2 HN HL HB).mono ?_
    rintro e w14 ⟨An14, cn14, Al14, cl14, rfl, ho14, hb14⟩
    have hz14 := hb14.size
    have hW14 := hW13.below hb14 hW13.lt
    have hG14 := hG13.below hb14 hG13.lt
    have ho314 := ho313.kept hb14
    have ho514 := ho513.kept hb14
    have hbw14 := hbw13.trans (hb14.mono hbw13.size)
    clear ho13 hb14 hW13 hG13 ho313 ho513 hbw13
    (have b_0 := hW14.cell 0); (have b_1 := hW14.cell 1); simp only [List.getElem?_toArray, List.getElem?_cons_succ, List.getElem?_cons_zero] at b_0 b_1
    have e1 : w3.heap.size < w14.heap.size := hW14.lt
    go_wp2_with fail
    have hbx : Below w14.heap.size w14 (w14.alloc (.cells #[.slice An14 N.length cn14, .slice Al14 L.length cl14] 27)) := by (repeat' (first | (with_reducible exact Below.refl _ _) | (with_reducible assumption) | (with_reducible refine Below.drew ?_) | (with_reducible refine below_drewN ?_ _) | (with_reducible refine Below.alloc ?_ ?_ _) | (with_reducible refine Below.setCell ?_ ?_ _) | (with_reducible refine Below.step (by assumption) ?_ ?_))); all_goals (first | omega | (simp; done) | (simp; omega))
    refine (eqWindow_any _ _ _ _ N L _ (ho14.1.reads.below hbx) (ho14.2.1.reads.below hbx) (ho314.1.reads.below hbx) (ho314.2.1.reads.below hbx)).mono ?_
    rintro e w15 ⟨rfl, hb15'⟩
    have hb15 : Below w14.heap.size w14 w15 := hbx.trans (hb15'.mono hbx.size)
    have hz15 := hb15.size
    have hG15 := hG14.below hb15 hG14.lt
    have ho515 := ho514.kept hb15
    have hbw15 := hbw14.trans (hb15.mono hbw14.size)
    clear hb15 hb15' hbx hW14 hG14 ho314 ho514 ho14 hbw14 b_0 b_1
    (have g_0 := hG15.cell 0); (have g_1 := hG15.cell 1); simp only [List.getElem?_toArray, List.getElem?_cons_succ, List.getElem?_cons_zero] at g_0 g_1
    go_wp2_with fail
    refine (heldWindow_ok _ _ N.length L.length 1 _ ho515.1.reads ho515.2.1.reads (by omega) (by omega)).mono ?_
    rintro e w16 ⟨rfl, hb16⟩
    have hbw16 := hbw15.trans (hb16.mono hbw15.size)
    clear hb16 hG15 ho515 hbw15 g_0 g_1
    go_wp2
    go_ret
    exact ⟨rfl, hbw16⟩

end Go.Proofs.Ytnpdincjekelaaa
