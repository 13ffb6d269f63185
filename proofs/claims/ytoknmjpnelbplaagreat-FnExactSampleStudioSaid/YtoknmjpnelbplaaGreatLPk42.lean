/- part 42 -/
import Derived.Test.YtoknmjpnelbplaaGreatLPk26
import Derived.Test.YtoknmjpnelbplaaGreatLPk39
import Derived.Deep.RegionHeld3
set_option linter.unusedSimpArgs false
set_option linter.unusedVariables false
namespace Go.Proofs.YtoknmjpnelbplaaGreat
open Go.RowKit
def newSt (ns ls : List Pr) (fund : Int) : St := ⟨⟨ns, ls, ns, ls, []⟩, [], [], fund⟩
def zeroSt : St := ⟨⟨[], [], [], [], []⟩, [], [], 0⟩
noncomputable def openB (ns ls : List Pr) (fund : Int) : Bool := okStB (newSt ns ls fund)
noncomputable def openS (ns ls : List Pr) (fund : Int) : St := if openB ns ls fund = true then newSt ns ls fund else zeroSt
def OpSt (w : World) (vn vl : Value) (ns ls : List Pr) (fund : Int) (Z : Nat) (wx : World) : Prop :=
  ∃ A0 c0 A1 c1 A2 c2 A3 c3, OwnW (w.heap.size + 1 + 1) wx (.slice A0 ns.length c0) (.slice A1 ls.length c1) ns ls ∧ OwnW (w.heap.size + 1 + 1) wx (.slice A2 ns.length c2) (.slice A3 ls.length c3) ns ls ∧ (∀ k, blksW (.slice A0 ns.length c0) (.slice A1 ls.length c1) k → ¬ blksW (.slice A2 ns.length c2) (.slice A3 ls.length c3) k) ∧
    Blk wx w.heap.size 38 #[vn, vl] ∧ Blk wx (w.heap.size + 1) 44 #[.slice none 0 0, .slice none 0 0, .slice none 0 0, .slice none 0 0, .slice none 0 0, .slice none 0 0, .slice none 0 0, .int .i64 0] ∧ Blk wx Z 44 #[.slice A0 ns.length c0, .slice A1 ls.length c1, .slice A2 ns.length c2, .slice A3 ls.length c3, .slice none 0 0, .slice none 0 0, .slice none 0 0, .int .i64 fund] ∧ w.heap.size + 1 < Z ∧
    ¬ blksW (.slice A0 ns.length c0) (.slice A1 ls.length c1) Z ∧ ¬ blksW (.slice A2 ns.length c2) (.slice A3 ls.length c3) Z ∧ Below w.heap.size w wx
theorem op_start {w wE : World} {vn vl : Value} {ns ls : List Pr} {fund : Int} {A0 A1 A2 A3 : Option Addr} {c0 c1 c2 c3 B1 B2 Z : Nat} (hX : Blk wE w.heap.size 38 #[vn, vl]) (hR : Blk wE (w.heap.size + 1) 44 #[.slice none 0 0, .slice none 0 0, .slice none 0 0, .slice none 0 0, .slice none 0 0, .slice none 0 0, .slice none 0 0, .int .i64 0])
    (hZ : Blk wE Z 44 #[.slice A0 ns.length c0, .slice A1 ls.length c1, .slice A2 ns.length c2, .slice A3 ls.length c3, .slice none 0 0, .slice none 0 0, .slice none 0 0, .int .i64 fund]) (h1 : OwnW B1 wE (.slice A0 ns.length c0) (.slice A1 ls.length c1) ns ls) (h2 : OwnW B2 wE (.slice A2 ns.length c2) (.slice A3 ls.length c3) ns ls)
    (hlt : ∀ k, blksW (.slice A0 ns.length c0) (.slice A1 ls.length c1) k → k < B2) (e1 : w.heap.size + 1 + 1 ≤ B1) (e2 : w.heap.size + 1 + 1 ≤ B2) (z1 : ¬ blksW (.slice A0 ns.length c0) (.slice A1 ls.length c1) Z) (z2 : ¬ blksW (.slice A2 ns.length c2) (.slice A3 ls.length c3) Z) (hZl : w.heap.size + 1 < Z) (hb : Below w.heap.size w wE) :
    OpSt w vn vl ns ls fund Z wE :=
  ⟨A0, c0, A1, c1, A2, c2, A3, c3, h1.mono e1, h2.mono e2, fun k a b => by have := hlt k a; have := (h2.lt k b).1; omega, hX, hR, hZ, hZl, z1, z2, hb⟩
theorem newSt_own {base : Nat} {w : World} {a b c d : Value} {ns ls : List Pr} {fund : Int} (h1 : OwnW base w a b ns ls) (h2 : OwnW base w c d ns ls) (hd : ∀ k, blksW a b k → ¬ blksW c d k) :
    OwnSt base w a b c d (.slice none 0 0) (.slice none 0 0) (.slice none 0 0) (newSt ns ls fund) [] := by
  have hn : ∀ k, ¬ blksT (.slice none 0 0) [] k := by
    rintro k (h | ⟨i, hi, _⟩)
    · simp [Value.ownBlock] at h
    · simp at hi
  have hz : ∀ k : Nat, ¬ (Value.slice none 0 0).ownBlock = some k := fun k h => by simp [Value.ownBlock] at h
  exact ⟨⟨h1, h2, OwnT.nil _ _, rfl, hd, fun k _ hk => hn k hk, fun k _ hk => hn k hk⟩, OwnI.nil _ _, OwnDp.nil _ _, fun k _ h => hz k h, fun k _ h => hz k h, fun k h => absurd h (hz k)⟩
theorem zeroSt_own (base : Nat) (w : World) : OwnSt base w (.slice none 0 0) (.slice none 0 0) (.slice none 0 0) (.slice none 0 0) (.slice none 0 0) (.slice none 0 0) (.slice none 0 0) zeroSt [] := by
  have hz : ∀ k : Nat, ¬ (Value.slice none 0 0).ownBlock = some k := fun k h => by simp [Value.ownBlock] at h
  have hw : ∀ k : Nat, ¬ blksW (.slice none 0 0) (.slice none 0 0) k := fun k h => by rcases h with h | h <;> exact hz k h
  have hn : OwnW base w (.slice none 0 0) (.slice none 0 0) [] [] := ⟨OwnP.nil _ _ _, OwnP.nil _ _ _, fun k h => absurd h (hz k)⟩
  have h := newSt_own (fund := 0) hn hn (fun k h => absurd h (hw k))
  exact h
set_option maxHeartbeats 16000000 in
set_option maxRecDepth 100000 in
theorem iOpen_at (vn vl : Value) (ns ls : List Pr) (fund : Int) (w : World) (hn : RP w vn ns) (hl : RP w vl ls) (h1 : ns.length ≤ 1048576) (h2 : ls.length ≤ 1048576) :
    Calls Tryz.prog 29 #[.agg #[vn, vl], .int .i64 fund] w (RetStuB (openS ns ls fund) (openB ns ls fund) w) := by
  have hlt2 : w.heap.size < w.heap.size + 1 + 1 := by omega
  have hlt3 : w.heap.size < w.heap.size + 1 + 1 + 1 := by omega
  have hne2 : ¬ w.heap.size + 1 + 1 = w.heap.size := by omega
  go_enter Tryz.func29, Tryz.ntmps29
  go_wp2_with fail
  go_cut [6] (fun z wx => ∃ Z, z = .pointer (some ⟨Z, 0, none⟩) ∧ OpSt w vn vl ns ls fund Z wx)
  case first =>
    go_region_held3 (fun w' => w'.cell? ⟨w.heap.size, 0, none⟩ = some vn ∧ w'.cell? ⟨w.heap.size, 1, none⟩ = some vl)
      (go_keep)
      (first | (have tk1 := w1; (go_at_call 87; refine Calls.mono (iCopy_any _ _ ns ls _ ?a3 ?a4 h1 h2) ?_; (case a3 => exact hn.below (by exact bel_)); (case a4 => exact hl.below (by exact bel_)); rintro e w2 ⟨An2, cn2, Al2, cl2, rfl, ho2, hb2⟩; (first | (with_reducible have hcf2 := bcell_drew hb2) | have hcf2 := bcell hb2); obtain ⟨hc2, hf2⟩ := hcf2; have hz2 := hb2.size; (try simp at hz2); (try have hp2_0 : w.heap.size < w2.heap.size := by omega); (try have hp2_1 : w.heap.size + 1 < w2.heap.size := by omega); (try have hp2_2 : w.heap.size + 1 + 1 < w2.heap.size := by omega); (try have hp2_3 : w.heap.size + 1 + 1 + 1 < w2.heap.size := by omega); (have hq3 : ¬ w2.heap.size = w.heap.size := by omega))) | (go_at_call 87; refine Calls.mono (iCopy_any _ _ ns ls _ ?a1 ?a2 h1 h2) ?_; (case a1 => exact hn.below (by exact bel_)); (case a2 => exact hl.below (by exact bel_)); rintro e w1 ⟨An1, cn1, Al1, cl1, rfl, ho1, hb1⟩; (first | (with_reducible have hcf1 := bcell_drew hb1) | have hcf1 := bcell hb1); obtain ⟨hc1, hf1⟩ := hcf1; have hz1 := hb1.size; (try simp at hz1); (try have hp1_0 : w.heap.size < w1.heap.size := by omega); (try have hp1_1 : w.heap.size + 1 < w1.heap.size := by omega); (try have hp1_2 : w.heap.size + 1 + 1 < w1.heap.size := by omega); (try have hp1_3 : w.heap.size + 1 + 1 + 1 < w1.heap.size := by omega); (have hq1 : w.heap.size < w1.heap.size + 1 := by omega); (have hq2 : ¬ w1.heap.size = w.heap.size := by omega)))
    all_goals go_wp2
    all_goals go_meet
    · have hBB : Below (w.heap.size + 1 + 1) ((w.alloc (.cells #[vn, vl] 38)).alloc (.cells #[.slice none 0 0, .slice none 0 0, .slice none 0 0, .slice none 0 0, .slice none 0 0, .slice none 0 0, .slice none 0 0, .int .i64 0] 44)) w2 := by exact bel_
      have hX2 := Blk.below ((Blk.newAt rfl).alloc _) hBB (show w.heap.size < _ by omega)
      have hR2 := Blk.below (Blk.newAt (by simp)) hBB (show w.heap.size + 1 < _ by omega)
      have hl1 : ∀ k, blksW (.slice An1 ns.length cn1) (.slice Al1 ls.length cl1) k → w.heap.size + 1 + 1 ≤ k ∧ k < w1.heap.size := fun k hk => by have := ho1.lt k hk; (try simp at this); omega
      have hl2 := ho2.lt
      exact ⟨_, rfl, op_start (hX2.alloc _) (hR2.alloc _) (Blk.newAt rfl) ((ho1.kept hb2).alloc' _) (ho2.alloc' _) (fun k hk => (hl1 k hk).2) (by simp) (by omega) (fun hk => by have := (hl1 _ hk).2; omega) (fun hk => by have := (hl2 _ hk).2; omega) (by omega) (by exact bel_)⟩
    · have hBB : Below (w.heap.size + 1 + 1) ((w.alloc (.cells #[vn, vl] 38)).alloc (.cells #[.slice none 0 0, .slice none 0 0, .slice none 0 0, .slice none 0 0, .slice none 0 0, .slice none 0 0, .slice none 0 0, .int .i64 0] 44)) w2 := by exact bel_
      have hX2 := Blk.below ((Blk.newAt rfl).alloc _) hBB (show w.heap.size < _ by omega)
      have hR2 := Blk.below (Blk.newAt (by simp)) hBB (show w.heap.size + 1 < _ by omega)
      have hZ2 := Blk.below (Blk.newAt rfl) hb2 (show w1.heap.size < _ by simp)
      have hl1 : ∀ k, blksW (.slice An1 ns.length cn1) (.slice Al1 ls.length cl1) k → w.heap.size + 1 + 1 ≤ k ∧ k < w1.heap.size := fun k hk => by have := ho1.lt k hk; (try simp at this); omega
      have hl2 : ∀ k, blksW (.slice An2 ns.length cn2) (.slice Al2 ls.length cl2) k → w1.heap.size + 1 ≤ k ∧ k < w2.heap.size := fun k hk => by have := ho2.lt k hk; (try simp at this); omega
      have z1 : ¬ blksW (.slice An1 ns.length cn1) (.slice Al1 ls.length cl1) w1.heap.size := fun hk => by have := (hl1 _ hk).2; omega
      have z2 : ¬ blksW (.slice An2 ns.length cn2) (.slice Al2 ls.length cl2) w1.heap.size := fun hk => by have := (hl2 _ hk).1; omega
      have ho1' := (ho1.alloc' _).kept hb2
      have n0 : w.heap.size ≠ w1.heap.size := by omega
      have n1 : w.heap.size + 1 ≠ w1.heap.size := by omega
      exact ⟨_, rfl, op_start (((((((((hX2).far (p := ⟨w1.heap.size, 0, none⟩) n0 _).far (p := ⟨w1.heap.size, 1, none⟩) n0 _).far (p := ⟨w1.heap.size, 2, none⟩) n0 _).far (p := ⟨w1.heap.size, 3, none⟩) n0 _).far (p := ⟨w1.heap.size, 4, none⟩) n0 _).far (p := ⟨w1.heap.size, 5, none⟩) n0 _).far (p := ⟨w1.heap.size, 6, none⟩) n0 _).far (p := ⟨w1.heap.size, 7, none⟩) n0 _) (((((((((hR2).far (p := ⟨w1.heap.size, 0, none⟩) n1 _).far (p := ⟨w1.heap.size, 1, none⟩) n1 _).far (p := ⟨w1.heap.size, 2, none⟩) n1 _).far (p := ⟨w1.heap.size, 3, none⟩) n1 _).far (p := ⟨w1.heap.size, 4, none⟩) n1 _).far (p := ⟨w1.heap.size, 5, none⟩) n1 _).far (p := ⟨w1.heap.size, 6, none⟩) n1 _).far (p := ⟨w1.heap.size, 7, none⟩) n1 _) (((((((((hZ2).set_ 0 _).set_ 1 _).set_ 2 _).set_ 3 _).set_ 4 _).set_ 5 _).set_ 6 _).set_ 7 _) (((((((((ho1').setOff (p := ⟨w1.heap.size, 0, none⟩) z1 _).setOff (p := ⟨w1.heap.size, 1, none⟩) z1 _).setOff (p := ⟨w1.heap.size, 2, none⟩) z1 _).setOff (p := ⟨w1.heap.size, 3, none⟩) z1 _).setOff (p := ⟨w1.heap.size, 4, none⟩) z1 _).setOff (p := ⟨w1.heap.size, 5, none⟩) z1 _).setOff (p := ⟨w1.heap.size, 6, none⟩) z1 _).setOff (p := ⟨w1.heap.size, 7, none⟩) z1 _) (((((((((ho2).setOff (p := ⟨w1.heap.size, 0, none⟩) z2 _).setOff (p := ⟨w1.heap.size, 1, none⟩) z2 _).setOff (p := ⟨w1.heap.size, 2, none⟩) z2 _).setOff (p := ⟨w1.heap.size, 3, none⟩) z2 _).setOff (p := ⟨w1.heap.size, 4, none⟩) z2 _).setOff (p := ⟨w1.heap.size, 5, none⟩) z2 _).setOff (p := ⟨w1.heap.size, 6, none⟩) z2 _).setOff (p := ⟨w1.heap.size, 7, none⟩) z2 _) (fun k hk => by have := (hl1 k hk).2; exact sz_) sz_ sz_ z1 z2 (by omega) (by exact bel_)⟩
    · have hBB : Below (w.heap.size + 1 + 1 + 1) (((w.alloc (.cells #[vn, vl] 38)).alloc (.cells #[.slice none 0 0, .slice none 0 0, .slice none 0 0, .slice none 0 0, .slice none 0 0, .slice none 0 0, .slice none 0 0, .int .i64 0] 44)).alloc (.cells #[.slice none 0 0, .slice none 0 0, .slice none 0 0, .slice none 0 0, .slice none 0 0, .slice none 0 0, .slice none 0 0, .int .i64 0] 44)) w2 := by exact bel_
      have hX2 := Blk.below (((Blk.newAt rfl).alloc _).alloc _) hBB (show w.heap.size < _ by omega)
      have hR2 := Blk.below ((Blk.newAt (by simp)).alloc _) hBB (show w.heap.size + 1 < _ by omega)
      have hZ2 := Blk.below (Blk.newAt (by simp)) hBB (show w.heap.size + 1 + 1 < _ by omega)
      have hl1 : ∀ k, blksW (.slice An1 ns.length cn1) (.slice Al1 ls.length cl1) k → w.heap.size + 1 + 1 + 1 ≤ k ∧ k < w1.heap.size := fun k hk => by have := ho1.lt k hk; (try simp at this); omega
      have hl2 := ho2.lt
      have z1 : ¬ blksW (.slice An1 ns.length cn1) (.slice Al1 ls.length cl1) (w.heap.size + 1 + 1) := fun hk => by have := (hl1 _ hk).1; omega
      have z2 : ¬ blksW (.slice An2 ns.length cn2) (.slice Al2 ls.length cl2) (w.heap.size + 1 + 1) := fun hk => by have := (hl2 _ hk).1; omega
      have ho1' := ho1.kept hb2
      have n0 : w.heap.size ≠ w.heap.size + 1 + 1 := by omega
      have n1 : w.heap.size + 1 ≠ w.heap.size + 1 + 1 := by omega
      exact ⟨_, rfl, op_start (((((((((hX2).far (p := ⟨w.heap.size + 1 + 1, 0, none⟩) n0 _).far (p := ⟨w.heap.size + 1 + 1, 1, none⟩) n0 _).far (p := ⟨w.heap.size + 1 + 1, 2, none⟩) n0 _).far (p := ⟨w.heap.size + 1 + 1, 3, none⟩) n0 _).far (p := ⟨w.heap.size + 1 + 1, 4, none⟩) n0 _).far (p := ⟨w.heap.size + 1 + 1, 5, none⟩) n0 _).far (p := ⟨w.heap.size + 1 + 1, 6, none⟩) n0 _).far (p := ⟨w.heap.size + 1 + 1, 7, none⟩) n0 _) (((((((((hR2).far (p := ⟨w.heap.size + 1 + 1, 0, none⟩) n1 _).far (p := ⟨w.heap.size + 1 + 1, 1, none⟩) n1 _).far (p := ⟨w.heap.size + 1 + 1, 2, none⟩) n1 _).far (p := ⟨w.heap.size + 1 + 1, 3, none⟩) n1 _).far (p := ⟨w.heap.size + 1 + 1, 4, none⟩) n1 _).far (p := ⟨w.heap.size + 1 + 1, 5, none⟩) n1 _).far (p := ⟨w.heap.size + 1 + 1, 6, none⟩) n1 _).far (p := ⟨w.heap.size + 1 + 1, 7, none⟩) n1 _) (((((((((hZ2).set_ 0 _).set_ 1 _).set_ 2 _).set_ 3 _).set_ 4 _).set_ 5 _).set_ 6 _).set_ 7 _) (((((((((ho1').setOff (p := ⟨w.heap.size + 1 + 1, 0, none⟩) z1 _).setOff (p := ⟨w.heap.size + 1 + 1, 1, none⟩) z1 _).setOff (p := ⟨w.heap.size + 1 + 1, 2, none⟩) z1 _).setOff (p := ⟨w.heap.size + 1 + 1, 3, none⟩) z1 _).setOff (p := ⟨w.heap.size + 1 + 1, 4, none⟩) z1 _).setOff (p := ⟨w.heap.size + 1 + 1, 5, none⟩) z1 _).setOff (p := ⟨w.heap.size + 1 + 1, 6, none⟩) z1 _).setOff (p := ⟨w.heap.size + 1 + 1, 7, none⟩) z1 _) (((((((((ho2).setOff (p := ⟨w.heap.size + 1 + 1, 0, none⟩) z2 _).setOff (p := ⟨w.heap.size + 1 + 1, 1, none⟩) z2 _).setOff (p := ⟨w.heap.size + 1 + 1, 2, none⟩) z2 _).setOff (p := ⟨w.heap.size + 1 + 1, 3, none⟩) z2 _).setOff (p := ⟨w.heap.size + 1 + 1, 4, none⟩) z2 _).setOff (p := ⟨w.heap.size + 1 + 1, 5, none⟩) z2 _).setOff (p := ⟨w.heap.size + 1 + 1, 6, none⟩) z2 _).setOff (p := ⟨w.heap.size + 1 + 1, 7, none⟩) z2 _) (fun k hk => (hl1 k hk).2) sz_ sz_ z1 z2 (by omega) (by exact bel_)⟩
  case rest =>
    obtain ⟨Z, rfl, A0, c0, A1, c1, A2, c2, A3, c3, h01, h23, hdis, hX, hR, hZ, hZl, hz1, hz2, hbw⟩ := hcut
    have HO := Lib.hid (newSt_own (fund := fund) h01 h23 hdis)
    clear h01 h23 hdis hX
    obtain ⟨ob, hob⟩ : ∃ x, okStB (newSt ns ls fund) = x := ⟨_, rfl⟩
    have HB := Lib.hid hob
    clear hob
    obtain ⟨z_0, z_1, z_2, z_3, z_4, z_5, z_6, z_7⟩ := hZ.c8
    have hZlt := hZ.lt
    go_wp2_with fail
    refine (iStudioOk_at _ _ _ _ _ _ _ (newSt ns ls fund) ob _ HO.out.reads HB).mono ?_
    rintro e w3 ⟨rfl, hb3⟩
    have HO3 := Lib.hid (HO.out.kept hb3)
    have hZ3 := hZ.below hb3 hZlt
    have hR3 := hR.below hb3 hR.lt
    have hbw3 := hbw.trans (hb3.mono hbw.size)
    clear hb3 hbw HO hZ hR z_0 z_1 z_2 z_3 z_4 z_5 z_6 z_7
    obtain ⟨z_0, z_1, z_2, z_3, z_4, z_5, z_6, z_7⟩ := hZ3.c8
    obtain ⟨r_0, r_1, r_2, r_3, r_4, r_5, r_6, r_7, r_f0, r_f1, r_f2, r_f3, r_f4, r_f5, r_f6, r_f7⟩ := hR3.b8
    have hZlt3 := hZ3.lt
    have hRlt3 := hR3.lt
    have HBW := Lib.hid hbw3
    cases ob
    · have HE : Hid (openS ns ls fund = zeroSt ∧ openB ns ls fund = false) := Lib.hid (by unfold openS openB; rw [HB.out]; exact ⟨rfl, rfl⟩)
      clear hbw3 hZ3 hR3
      go_wp2
      rw [HE.out.1, HE.out.2]
      refine bodyPost_ret (v := .tuple #[.agg #[.slice none 0 0, .slice none 0 0, .slice none 0 0, .slice none 0 0, .slice none 0 0, .slice none 0 0, .slice none 0 0, .int .i64 0], .bool false]) (by simp [results, Tryz.results29, go_sem, r_0, r_1, r_2, r_3, r_4, r_5, r_6, r_7, z_0, z_1, z_2, z_3, z_4, z_5, z_6, z_7, hRlt3, hZlt3]) rfl ?_
      refine ⟨none, 0, none, 0, none, 0, none, 0, none, 0, none, 0, none, 0, [], rfl, ?_, ?_⟩
      · exact zeroSt_own _ _
      · have hbw3 := HBW.out
        exact bel_
    · have HE : Hid (openS ns ls fund = newSt ns ls fund ∧ openB ns ls fund = true) := Lib.hid (by unfold openS openB; rw [HB.out]; exact ⟨rfl, rfl⟩)
      clear hbw3 hZ3 hR3
      go_wp2
      rw [HE.out.1, HE.out.2]
      refine bodyPost_ret (v := .tuple #[.agg #[.slice A0 ns.length c0, .slice A1 ls.length c1, .slice A2 ns.length c2, .slice A3 ls.length c3, .slice none 0 0, .slice none 0 0, .slice none 0 0, .int .i64 fund], .bool true]) (by simp [results, Tryz.results29, go_sem, r_0, r_1, r_2, r_3, r_4, r_5, r_6, r_7, z_0, z_1, z_2, z_3, z_4, z_5, z_6, z_7, hRlt3, hZlt3]) rfl ?_
      refine ⟨A0, c0, A1, c1, A2, c2, A3, c3, none, 0, none, 0, none, 0, [], rfl, ?_, ?_⟩
      · refine OwnSt.mono (base := w.heap.size + 1 + 1) ?_ (by omega)
        iterate 12 (try (with_reducible refine OwnSt.setLow ?_ ?_ _))
        exact HO3.out
        all_goals exact sz_
      · have hbw3 := HBW.out
        exact bel_
set_option maxHeartbeats 16000000 in
set_option maxRecDepth 100000 in
theorem sOpen_at (vn vl : Value) (ns ls : List Pr) (fund : Int) (w : World) (hn : RP w vn ns) (hl : RP w vl ls) (h1 : ns.length ≤ 1048576) (h2 : ls.length ≤ 1048576) :
    Calls Tryz.prog 27 #[.agg #[vn, vl], .int .i64 fund] w (RetStuB (openS ns ls fund) (openB ns ls fund) w) := by
  have hlt2 : w.heap.size < w.heap.size + 1 + 1 := by omega
  have hlt3 : w.heap.size < w.heap.size + 1 + 1 + 1 := by omega
  have hne2 : ¬ w.heap.size + 1 + 1 = w.heap.size := by omega
  go_enter Tryz.func27, Tryz.ntmps27
  go_wp2_with fail
  go_cut [6] (fun z wx => ∃ Z, z = .pointer (some ⟨Z, 0, none⟩) ∧ OpSt w vn vl ns ls fund Z wx)
  case first =>
    go_region_held3 (fun w' => w'.cell? ⟨w.heap.size, 0, none⟩ = some vn ∧ w'.cell? ⟨w.heap.size, 1, none⟩ = some vl)
      (go_keep)
      (first | (have tk1 := w1; (go_at_call 84; refine Calls.mono (sCopy_any _ _ ns ls _ ?a3 ?a4 h1 h2) ?_; (case a3 => exact hn.below (by exact bel_)); (case a4 => exact hl.below (by exact bel_)); rintro e w2 ⟨An2, cn2, Al2, cl2, rfl, ho2, hb2⟩; (first | (with_reducible have hcf2 := bcell_drew hb2) | have hcf2 := bcell hb2); obtain ⟨hc2, hf2⟩ := hcf2; have hz2 := hb2.size; (try simp at hz2); (try have hp2_0 : w.heap.size < w2.heap.size := by omega); (try have hp2_1 : w.heap.size + 1 < w2.heap.size := by omega); (try have hp2_2 : w.heap.size + 1 + 1 < w2.heap.size := by omega); (try have hp2_3 : w.heap.size + 1 + 1 + 1 < w2.heap.size := by omega); (have hq3 : ¬ w2.heap.size = w.heap.size := by omega))) | (go_at_call 84; refine Calls.mono (sCopy_any _ _ ns ls _ ?a1 ?a2 h1 h2) ?_; (case a1 => exact hn.below (by exact bel_)); (case a2 => exact hl.below (by exact bel_)); rintro e w1 ⟨An1, cn1, Al1, cl1, rfl, ho1, hb1⟩; (first | (with_reducible have hcf1 := bcell_drew hb1) | have hcf1 := bcell hb1); obtain ⟨hc1, hf1⟩ := hcf1; have hz1 := hb1.size; (try simp at hz1); (try have hp1_0 : w.heap.size < w1.heap.size := by omega); (try have hp1_1 : w.heap.size + 1 < w1.heap.size := by omega); (try have hp1_2 : w.heap.size + 1 + 1 < w1.heap.size := by omega); (try have hp1_3 : w.heap.size + 1 + 1 + 1 < w1.heap.size := by omega); (have hq1 : w.heap.size < w1.heap.size + 1 := by omega); (have hq2 : ¬ w1.heap.size = w.heap.size := by omega)))
    all_goals go_wp2
    all_goals go_meet
    · have hBB : Below (w.heap.size + 1 + 1) ((w.alloc (.cells #[vn, vl] 38)).alloc (.cells #[.slice none 0 0, .slice none 0 0, .slice none 0 0, .slice none 0 0, .slice none 0 0, .slice none 0 0, .slice none 0 0, .int .i64 0] 44)) w2 := by exact bel_
      have hX2 := Blk.below ((Blk.newAt rfl).alloc _) hBB (show w.heap.size < _ by omega)
      have hR2 := Blk.below (Blk.newAt (by simp)) hBB (show w.heap.size + 1 < _ by omega)
      have hl1 : ∀ k, blksW (.slice An1 ns.length cn1) (.slice Al1 ls.length cl1) k → w.heap.size + 1 + 1 ≤ k ∧ k < w1.heap.size := fun k hk => by have := ho1.lt k hk; (try simp at this); omega
      have hl2 := ho2.lt
      exact ⟨_, rfl, op_start (hX2.alloc _) (hR2.alloc _) (Blk.newAt rfl) ((ho1.kept hb2).alloc' _) (ho2.alloc' _) (fun k hk => (hl1 k hk).2) (by simp) (by omega) (fun hk => by have := (hl1 _ hk).2; omega) (fun hk => by have := (hl2 _ hk).2; omega) (by omega) (by exact bel_)⟩
    · have hBB : Below (w.heap.size + 1 + 1) ((w.alloc (.cells #[vn, vl] 38)).alloc (.cells #[.slice none 0 0, .slice none 0 0, .slice none 0 0, .slice none 0 0, .slice none 0 0, .slice none 0 0, .slice none 0 0, .int .i64 0] 44)) w2 := by exact bel_
      have hX2 := Blk.below ((Blk.newAt rfl).alloc _) hBB (show w.heap.size < _ by omega)
      have hR2 := Blk.below (Blk.newAt (by simp)) hBB (show w.heap.size + 1 < _ by omega)
      have hZ2 := Blk.below (Blk.newAt rfl) hb2 (show w1.heap.size < _ by simp)
      have hl1 : ∀ k, blksW (.slice An1 ns.length cn1) (.slice Al1 ls.length cl1) k → w.heap.size + 1 + 1 ≤ k ∧ k < w1.heap.size := fun k hk => by have := ho1.lt k hk; (try simp at this); omega
      have hl2 : ∀ k, blksW (.slice An2 ns.length cn2) (.slice Al2 ls.length cl2) k → w1.heap.size + 1 ≤ k ∧ k < w2.heap.size := fun k hk => by have := ho2.lt k hk; (try simp at this); omega
      have z1 : ¬ blksW (.slice An1 ns.length cn1) (.slice Al1 ls.length cl1) w1.heap.size := fun hk => by have := (hl1 _ hk).2; omega
      have z2 : ¬ blksW (.slice An2 ns.length cn2) (.slice Al2 ls.length cl2) w1.heap.size := fun hk => by have := (hl2 _ hk).1; omega
      have ho1' := (ho1.alloc' _).kept hb2
      have n0 : w.heap.size ≠ w1.heap.size := by omega
      have n1 : w.heap.size + 1 ≠ w1.heap.size := by omega
      exact ⟨_, rfl, op_start (((((((((hX2).far (p := ⟨w1.heap.size, 0, none⟩) n0 _).far (p := ⟨w1.heap.size, 1, none⟩) n0 _).far (p := ⟨w1.heap.size, 2, none⟩) n0 _).far (p := ⟨w1.heap.size, 3, none⟩) n0 _).far (p := ⟨w1.heap.size, 4, none⟩) n0 _).far (p := ⟨w1.heap.size, 5, none⟩) n0 _).far (p := ⟨w1.heap.size, 6, none⟩) n0 _).far (p := ⟨w1.heap.size, 7, none⟩) n0 _) (((((((((hR2).far (p := ⟨w1.heap.size, 0, none⟩) n1 _).far (p := ⟨w1.heap.size, 1, none⟩) n1 _).far (p := ⟨w1.heap.size, 2, none⟩) n1 _).far (p := ⟨w1.heap.size, 3, none⟩) n1 _).far (p := ⟨w1.heap.size, 4, none⟩) n1 _).far (p := ⟨w1.heap.size, 5, none⟩) n1 _).far (p := ⟨w1.heap.size, 6, none⟩) n1 _).far (p := ⟨w1.heap.size, 7, none⟩) n1 _) (((((((((hZ2).set_ 0 _).set_ 1 _).set_ 2 _).set_ 3 _).set_ 4 _).set_ 5 _).set_ 6 _).set_ 7 _) (((((((((ho1').setOff (p := ⟨w1.heap.size, 0, none⟩) z1 _).setOff (p := ⟨w1.heap.size, 1, none⟩) z1 _).setOff (p := ⟨w1.heap.size, 2, none⟩) z1 _).setOff (p := ⟨w1.heap.size, 3, none⟩) z1 _).setOff (p := ⟨w1.heap.size, 4, none⟩) z1 _).setOff (p := ⟨w1.heap.size, 5, none⟩) z1 _).setOff (p := ⟨w1.heap.size, 6, none⟩) z1 _).setOff (p := ⟨w1.heap.size, 7, none⟩) z1 _) (((((((((ho2).setOff (p := ⟨w1.heap.size, 0, none⟩) z2 _).setOff (p := ⟨w1.heap.size, 1, none⟩) z2 _).setOff (p := ⟨w1.heap.size, 2, none⟩) z2 _).setOff (p := ⟨w1.heap.size, 3, none⟩) z2 _).setOff (p := ⟨w1.heap.size, 4, none⟩) z2 _).setOff (p := ⟨w1.heap.size, 5, none⟩) z2 _).setOff (p := ⟨w1.heap.size, 6, none⟩) z2 _).setOff (p := ⟨w1.heap.size, 7, none⟩) z2 _) (fun k hk => by have := (hl1 k hk).2; exact sz_) sz_ sz_ z1 z2 (by omega) (by exact bel_)⟩
    · have hBB : Below (w.heap.size + 1 + 1 + 1) (((w.alloc (.cells #[vn, vl] 38)).alloc (.cells #[.slice none 0 0, .slice none 0 0, .slice none 0 0, .slice none 0 0, .slice none 0 0, .slice none 0 0, .slice none 0 0, .int .i64 0] 44)).alloc (.cells #[.slice none 0 0, .slice none 0 0, .slice none 0 0, .slice none 0 0, .slice none 0 0, .slice none 0 0, .slice none 0 0, .int .i64 0] 44)) w2 := by exact bel_
      have hX2 := Blk.below (((Blk.newAt rfl).alloc _).alloc _) hBB (show w.heap.size < _ by omega)
      have hR2 := Blk.below ((Blk.newAt (by simp)).alloc _) hBB (show w.heap.size + 1 < _ by omega)
      have hZ2 := Blk.below (Blk.newAt (by simp)) hBB (show w.heap.size + 1 + 1 < _ by omega)
      have hl1 : ∀ k, blksW (.slice An1 ns.length cn1) (.slice Al1 ls.length cl1) k → w.heap.size + 1 + 1 + 1 ≤ k ∧ k < w1.heap.size := fun k hk => by have := ho1.lt k hk; (try simp at this); omega
      have hl2 := ho2.lt
      have z1 : ¬ blksW (.slice An1 ns.length cn1) (.slice Al1 ls.length cl1) (w.heap.size + 1 + 1) := fun hk => by have := (hl1 _ hk).1; omega
      have z2 : ¬ blksW (.slice An2 ns.length cn2) (.slice Al2 ls.length cl2) (w.heap.size + 1 + 1) := fun hk => by have := (hl2 _ hk).1; omega
      have ho1' := ho1.kept hb2
      have n0 : w.heap.size ≠ w.heap.size + 1 + 1 := by omega
      have n1 : w.heap.size + 1 ≠ w.heap.size + 1 + 1 := by omega
      exact ⟨_, rfl, op_start (((((((((hX2).far (p := ⟨w.heap.size + 1 + 1, 0, none⟩) n0 _).far (p := ⟨w.heap.size + 1 + 1, 1, none⟩) n0 _).far (p := ⟨w.heap.size + 1 + 1, 2, none⟩) n0 _).far (p := ⟨w.heap.size + 1 + 1, 3, none⟩) n0 _).far (p := ⟨w.heap.size + 1 + 1, 4, none⟩) n0 _).far (p := ⟨w.heap.size + 1 + 1, 5, none⟩) n0 _).far (p := ⟨w.heap.size + 1 + 1, 6, none⟩) n0 _).far (p := ⟨w.heap.size + 1 + 1, 7, none⟩) n0 _) (((((((((hR2).far (p := ⟨w.heap.size + 1 + 1, 0, none⟩) n1 _).far (p := ⟨w.heap.size + 1 + 1, 1, none⟩) n1 _).far (p := ⟨w.heap.size + 1 + 1, 2, none⟩) n1 _).far (p := ⟨w.heap.size + 1 + 1, 3, none⟩) n1 _).far (p := ⟨w.heap.size + 1 + 1, 4, none⟩) n1 _).far (p := ⟨w.heap.size + 1 + 1, 5, none⟩) n1 _).far (p := ⟨w.heap.size + 1 + 1, 6, none⟩) n1 _).far (p := ⟨w.heap.size + 1 + 1, 7, none⟩) n1 _) (((((((((hZ2).set_ 0 _).set_ 1 _).set_ 2 _).set_ 3 _).set_ 4 _).set_ 5 _).set_ 6 _).set_ 7 _) (((((((((ho1').setOff (p := ⟨w.heap.size + 1 + 1, 0, none⟩) z1 _).setOff (p := ⟨w.heap.size + 1 + 1, 1, none⟩) z1 _).setOff (p := ⟨w.heap.size + 1 + 1, 2, none⟩) z1 _).setOff (p := ⟨w.heap.size + 1 + 1, 3, none⟩) z1 _).setOff (p := ⟨w.heap.size + 1 + 1, 4, none⟩) z1 _).setOff (p := ⟨w.heap.size + 1 + 1, 5, none⟩) z1 _).setOff (p := ⟨w.heap.size + 1 + 1, 6, none⟩) z1 _).setOff (p := ⟨w.heap.size + 1 + 1, 7, none⟩) z1 _) (((((((((ho2).setOff (p := ⟨w.heap.size + 1 + 1, 0, none⟩) z2 _).setOff (p := ⟨w.heap.size + 1 + 1, 1, none⟩) z2 _).setOff (p := ⟨w.heap.size + 1 + 1, 2, none⟩) z2 _).setOff (p := ⟨w.heap.size + 1 + 1, 3, none⟩) z2 _).setOff (p := ⟨w.heap.size + 1 + 1, 4, none⟩) z2 _).setOff (p := ⟨w.heap.size + 1 + 1, 5, none⟩) z2 _).setOff (p := ⟨w.heap.size + 1 + 1, 6, none⟩) z2 _).setOff (p := ⟨w.heap.size + 1 + 1, 7, none⟩) z2 _) (fun k hk => (hl1 k hk).2) sz_ sz_ z1 z2 (by omega) (by exact bel_)⟩
  case rest =>
    obtain ⟨Z, rfl, A0, c0, A1, c1, A2, c2, A3, c3, h01, h23, hdis, hX, hR, hZ, hZl, hz1, hz2, hbw⟩ := hcut
    have HO := Lib.hid (newSt_own (fund := fund) h01 h23 hdis)
    clear h01 h23 hdis hX
    obtain ⟨ob, hob⟩ : ∃ x, okStB (newSt ns ls fund) = x := ⟨_, rfl⟩
    have HB := Lib.hid hob
    clear hob
    obtain ⟨z_0, z_1, z_2, z_3, z_4, z_5, z_6, z_7⟩ := hZ.c8
    have hZlt := hZ.lt
    go_wp2_with fail
    refine (sStudioOk_at _ _ _ _ _ _ _ (newSt ns ls fund) ob _ HO.out.reads HB).mono ?_
    rintro e w3 ⟨rfl, hb3⟩
    have HO3 := Lib.hid (HO.out.kept hb3)
    have hZ3 := hZ.below hb3 hZlt
    have hR3 := hR.below hb3 hR.lt
    have hbw3 := hbw.trans (hb3.mono hbw.size)
    clear hb3 hbw HO hZ hR z_0 z_1 z_2 z_3 z_4 z_5 z_6 z_7
    obtain ⟨z_0, z_1, z_2, z_3, z_4, z_5, z_6, z_7⟩ := hZ3.c8
    obtain ⟨r_0, r_1, r_2, r_3, r_4, r_5, r_6, r_7, r_f0, r_f1, r_f2, r_f3, r_f4, r_f5, r_f6, r_f7⟩ := hR3.b8
    have hZlt3 := hZ3.lt
    have hRlt3 := hR3.lt
    have HBW := Lib.hid hbw3
    cases ob
    · have HE : Hid (openS ns ls fund = zeroSt ∧ openB ns ls fund = false) := Lib.hid (by unfold openS openB; rw [HB.out]; exact ⟨rfl, rfl⟩)
      clear hbw3 hZ3 hR3
      go_wp2
      rw [HE.out.1, HE.out.2]
      refine bodyPost_ret (v := .tuple #[.agg #[.slice none 0 0, .slice none 0 0, .slice none 0 0, .slice none 0 0, .slice none 0 0, .slice none 0 0, .slice none 0 0, .int .i64 0], .bool false]) (by simp [results, Tryz.results27, go_sem, r_0, r_1, r_2, r_3, r_4, r_5, r_6, r_7, z_0, z_1, z_2, z_3, z_4, z_5, z_6, z_7, hRlt3, hZlt3]) rfl ?_
      refine ⟨none, 0, none, 0, none, 0, none, 0, none, 0, none, 0, none, 0, [], rfl, ?_, ?_⟩
      · exact zeroSt_own _ _
      · have hbw3 := HBW.out
        exact bel_
    · have HE : Hid (openS ns ls fund = newSt ns ls fund ∧ openB ns ls fund = true) := Lib.hid (by unfold openS openB; rw [HB.out]; exact ⟨rfl, rfl⟩)
      clear hbw3 hZ3 hR3
      go_wp2
      rw [HE.out.1, HE.out.2]
      refine bodyPost_ret (v := .tuple #[.agg #[.slice A0 ns.length c0, .slice A1 ls.length c1, .slice A2 ns.length c2, .slice A3 ls.length c3, .slice none 0 0, .slice none 0 0, .slice none 0 0, .int .i64 fund], .bool true]) (by simp [results, Tryz.results27, go_sem, r_0, r_1, r_2, r_3, r_4, r_5, r_6, r_7, z_0, z_1, z_2, z_3, z_4, z_5, z_6, z_7, hRlt3, hZlt3]) rfl ?_
      refine ⟨A0, c0, A1, c1, A2, c2, A3, c3, none, 0, none, 0, none, 0, [], rfl, ?_, ?_⟩
      · refine OwnSt.mono (base := w.heap.size + 1 + 1) ?_ (by omega)
        iterate 12 (try (with_reducible refine OwnSt.setLow ?_ ?_ _))
        exact HO3.out
        all_goals exact sz_
      · have hbw3 := HBW.out
        exact bel_
end Go.Proofs.YtoknmjpnelbplaaGreat
