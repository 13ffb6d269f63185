/- part 40 -/
import Derived.Test.YtnjcpljhmhdhkaaGreatSPk36
import Derived.Test.YtnjcpljhmhdhkaaGreatSPk38
import Derived.Test.YtnjcpljhmhdhkaaGreatSPk39
import Derived.Laws.EntriesVeiled
set_option linter.unusedSimpArgs false
set_option linter.unusedVariables false
namespace Go.Proofs.YtnjcpljhmhdhkaaGreat
open Go.RowKit
theorem rnds_succ (near : Nat → Nat) (ok : Nat → Bool) (F s k : Nat) : rndsC near ok F s (k + 1) = rndC near ok (rndsC near ok F s k) F := rfl
theorem rnd_succ (near : Nat → Nat) (ok : Nat → Bool) (s k : Nat) : rndC near ok s (k + 1) = stpC near ok (rndC near ok s k) k := rfl
theorem stp_no {near : Nat → Nat} {ok : Nat → Bool} {s g : Nat} (h : ok g = false ∨ near g &&& s = 0) : stpC near ok s g = s := by
  unfold stpC
  rcases h with h | h <;> simp [h]
theorem stp_yes {near : Nat → Nat} {ok : Nat → Bool} {s g : Nat} (h1 : ok g = true) (h2 : ¬ near g &&& s = 0) : stpC near ok s g = s ||| 2 ^ g := by
  unfold stpC; simp [h1, h2]
set_option maxHeartbeats 16000000 in
set_option maxRecDepth 100000 in
theorem iChain_at (vn vl vc : Value) (ns ls : List Pr) (cs : List Int) (f : Nat) (x : Int) (w : World) (hn : RP w vn ns) (hl : RP w vl ls) (hc : RI w vc cs) (hw : wholeB ns ls = true) (hcl : cs.length = (facesW ns ls).length) (hf : f < cs.length) :
    Calls Tryz.prog 227 #[.agg #[vn, vl], vc, .int .i64 f, .int .i64 x] w fun e w' => e = .returned (.int .i64 (rndsC (fun g => (nearW ns ls).getD g 0) (okX cs f x) cs.length (2 ^ f) cs.length : Nat)) ∧ Below w.heap.size w w' := by
  have hb0 : Below w.heap.size w (w.alloc (.cells #[vn, vl] 27)) := by exact bel_
  have hfl := facesW_len ns ls
  have hwf := facesW_whole hw
  have hF40 : cs.length ≤ 40 := by omega
  obtain ⟨Ac, cc, rfl, hcc, hmc, hcellc⟩ := hc.form
  unfold maxLen at hmc
  obtain ⟨bc, oc, rfl, hbc, hclc⟩ := hcellc (by omega)
  have HCC := Lib.hid hclc
  have HNL : Hid (∀ g, g < cs.length → (nearW ns ls).getD g 0 < 2 ^ 40) := Lib.hid (fun g hg => Nat.lt_of_lt_of_le (near_lt hw (by rw [← hwf, ← hcl]; exact hg)) (Nat.pow_le_pow_right (by omega) (by rw [← hwf]; exact hfl)))
  have hnl : (nearW ns ls).length = cs.length := by unfold nearW; rw [nearK_len, ← hwf]; exact hcl.symm
  have HNN := Lib.hid hnl
  have HOK : Hid (∀ i, okX cs f x i = (decide (cs.getD i 0 = cs.getD f 0) || decide (cs.getD i 0 = x))) := Lib.hid (fun _ => rfl)
  have h2f : 2 ^ f < 2 ^ cs.length := Nat.pow_lt_pow_right (by omega) hf
  have h240 : (2 : Nat) ^ cs.length ≤ 2 ^ 40 := Nat.pow_le_pow_right (by omega) hF40
  have HR1 : Hid (∀ k, rndsC (fun g => (nearW ns ls).getD g 0) (okX cs f x) cs.length (2 ^ f) k < 2 ^ 40) := Lib.hid (fun k => Nat.lt_of_lt_of_le (rndsC_lt h2f k) h240)
  have HR2 : Hid (∀ s k, s < 2 ^ 40 → k ≤ cs.length → rndC (fun g => (nearW ns ls).getD g 0) (okX cs f x) s k < 2 ^ 40) := Lib.hid (fun s k hs hk => rndC_lt hs k (by omega))
  have HS1 := Lib.hid (fun k => rnds_succ (fun g => (nearW ns ls).getD g 0) (okX cs f x) cs.length (2 ^ f) k)
  have HS2 := Lib.hid (fun s k => rnd_succ (fun g => (nearW ns ls).getD g 0) (okX cs f x) s k)
  have HN := Lib.hid (fun s g h => stp_no (near := fun g => (nearW ns ls).getD g 0) (ok := okX cs f x) (s := s) (g := g) h)
  have HY := Lib.hid (fun s g h1 h2 => stp_yes (near := fun g => (nearW ns ls).getD g 0) (ok := okX cs f x) (s := s) (g := g) h1 h2)
  have HZ1 : Hid (rndsC (fun g => (nearW ns ls).getD g 0) (okX cs f x) cs.length (2 ^ f) 0 = 2 ^ f) := Lib.hid rfl
  have HZ2 : Hid (∀ s, rndC (fun g => (nearW ns ls).getD g 0) (okX cs f x) s 0 = s) := Lib.hid (fun _ => rfl)
  have HNE := Lib.hid (iNear_any vn vl ns ls _ (hn.below hb0) (hl.below hb0) hw)
  have xf := shl64 (k := f) (by omega)
  have hf64 : f < 64 := by omega
  have if1 : (0 : Int) ≤ (f : Int) := by omega
  have if2 : (f : Int) < (cs.length : Int) := by omega
  have hyf := HCC.out f hf
  generalize cs.getD f 0 = y at *
  generalize rndsC (fun g => (nearW ns ls).getD g 0) (okX cs f x) cs.length (2 ^ f) = RS1 at *
  generalize rndC (fun g => (nearW ns ls).getD g 0) (okX cs f x) = RC at *
  generalize stpC (fun g => (nearW ns ls).getD g 0) (okX cs f x) = ST at *
  generalize okX cs f x = OK at *
  generalize nearW ns ls = NN at *
  have HP2 : Hid (RS1 0 = 2 ^ f) := HZ1
  generalize hQ2 : ((2 ^ f : Nat) : Int) = Q2 at *
  have HQ2 := Lib.hid hQ2
  clear hQ2 h2f h240 hcellc hclc hc hn hl hw hwf hnl hfl hcl
  go_enter Tryz.func227, Tryz.ntmps227
  go_wp2_with fail
  refine HNE.out.mono ?_
  rintro e w1 ⟨v1, rfl, ho1, hb1⟩
  have hbw1 := hb0.trans (hb1.mono hb0.size)
  obtain ⟨bA, cA, rfl, hcA, hbA0, hbA, hclA⟩ := OwnI.blk ho1 (by rw [natI_length, HNN.out]; omega)
  rw [natI_length, HNN.out] at hcA hclA ⊢
  have HA : Hid (∀ k, k < cs.length → w1.cell? ⟨bA, k, none⟩ = some (.int .i64 (NN.getD k 0 : Nat))) := Lib.hid (fun k hk => by rw [hclA k hk, natI_get])
  have hyf1 := (hbw1.cell (p := ⟨bc, oc + f, none⟩) hbc).trans hyf
  have hbc1 : bc < w1.heap.size := Nat.lt_of_lt_of_le hbc hbw1.size
  have HCC1 : Hid (∀ k, k < cs.length → w1.cell? ⟨bc, oc + k, none⟩ = some (.int .i64 (cs.getD k 0))) := Lib.hid (fun k hk => (hbw1.cell (p := ⟨bc, oc + k, none⟩) hbc).trans (HCC.out k hk))
  clear hb1 ho1 hclA hb0 hyf HNE
  go_wp2
  go_loopw [10, 19] (fun s t wr => ∃ j : Nat, j ≤ cs.length ∧ t = .int .i64 j ∧ s = .int .i64 (RS1 j : Nat) ∧ wr = w1) (fun _ t _ => cs.length - (intOf t).toNat)
  case atStart => exact ⟨0, Nat.zero_le _, rfl, by rw [HP2.out]; simp only [HQ2.out, xf], rfl⟩
  case round =>
    obtain ⟨j, hj, rfl, rfl, rfl⟩ := hrel
    by_cases hlt : j < cs.length
    · have hlt1 : (j : Int) < (cs.length : Int) := by omega
      have HT := Lib.hid (HR1.out j)
      have HTS := Lib.hid (HS1.out j)
      have HTZ := Lib.hid (HZ2.out (RS1 j))
      generalize hT : RS1 j = T at *
      clear hT
      go_wp2
      go_loopw [10, 23] (fun s t w2 => ∃ i : Nat, i ≤ cs.length ∧ t = .int .i64 i ∧ s = .int .i64 (RC T i : Nat) ∧ w2 = wr) (fun _ t _ => cs.length - (intOf t).toNat)
      case atStart => exact ⟨0, Nat.zero_le _, rfl, by rw [HTZ.out], rfl⟩
      case round =>
        obtain ⟨i, hi, rfl, rfl, rfl⟩ := hrel
        by_cases hil : i < cs.length
        · have hil1 : (i : Int) < (cs.length : Int) := by omega
          have ii1 : (0 : Int) ≤ (i : Int) := by omega
          have hs40 := HR2.out T i HT.out hi
          have HS := Lib.hid (HS2.out T i)
          have hc1 := HCC1.out i hil
          have ha1 := HA.out i hil
          have hn40 := HNL.out i hil
          have HN1 := Lib.hid (fun s h => HN.out s i h)
          have HY1 := Lib.hid (fun s h1 h2 => HY.out s i h1 h2)
          have HO := Lib.hid (HOK.out i)
          generalize cs.getD i 0 = c at *
          generalize RC T i = s at *
          generalize NN.getD i 0 = nk at *
          have oa := bits_and_nat (a := nk) (b := s) (by omega) (by omega)
          have xi := shl64 (k := i) (by omega)
          have hi64 : i < 64 := by omega
          have Pi : 2 ^ i < 2 ^ 40 := Nat.pow_lt_pow_right (by omega) (by omega)
          have oo := bits_or_nat (a := s) (b := 2 ^ i) (by omega) (by omega)
          generalize hnd : nk &&& s = nd at *
          generalize hor : s ||| 2 ^ i = os at *
          generalize hPI : ((2 ^ i : Nat) : Int) = P2 at *
          have HND := Lib.hid hnd
          have HOR := Lib.hid hor
          clear hnd hor hPI Pi hs40 hn40
          by_cases hcy : c = y ∨ c = x
          · have HOT : Hid (OK i = true) := Lib.hid (by rw [HO.out]; rcases hcy with h | h <;> simp [h])
            by_cases h0 : nd = 0
            · have e3 : (((nd : Nat) : Int) != 0) = false := by rw [h0]; rfl
              have HX := Lib.hid (HN1.out s (.inr (by rw [HND.out]; exact h0)))
              clear h0
              by_cases h1 : c = y
              · have e1 : (c == y) = true := beq_iff_eq.2 h1
                clear hcy h1
                go_wp2
                go_roundw
                case rel => exact ⟨i + 1, by omega, by go_num, by rw [HS.out, HX.out], by trivial⟩
                case measure => simp [intOf]; omega
              · have e1 : (c == y) = false := beq_eq_false_iff_ne.2 h1
                have e2 : (c == x) = true := beq_iff_eq.2 (hcy.resolve_left h1)
                clear hcy h1
                go_wp2
                go_roundw
                case rel => exact ⟨i + 1, by omega, by go_num, by rw [HS.out, HX.out], by trivial⟩
                case measure => simp [intOf]; omega
            · have e3 : (((nd : Nat) : Int) != 0) = true := by rw [bne_iff_ne]; omega
              have HX := Lib.hid ((HY1.out s HOT.out (by rw [HND.out]; exact h0)).trans HOR.out)
              clear h0
              by_cases h1 : c = y
              · have e1 : (c == y) = true := beq_iff_eq.2 h1
                clear hcy h1
                go_wp2
                go_roundw
                case rel => exact ⟨i + 1, by omega, by go_num, by rw [HS.out, HX.out], by trivial⟩
                case measure => simp [intOf]; omega
              · have e1 : (c == y) = false := beq_eq_false_iff_ne.2 h1
                have e2 : (c == x) = true := beq_iff_eq.2 (hcy.resolve_left h1)
                clear hcy h1
                go_wp2
                go_roundw
                case rel => exact ⟨i + 1, by omega, by go_num, by rw [HS.out, HX.out], by trivial⟩
                case measure => simp [intOf]; omega
          · have e1 : (c == y) = false := beq_eq_false_iff_ne.2 (fun h => hcy (.inl h))
            have e2 : (c == x) = false := beq_eq_false_iff_ne.2 (fun h => hcy (.inr h))
            have HX := Lib.hid (HN1.out s (.inl (by rw [HO.out]; simp only [not_or] at hcy; simp [hcy.1, hcy.2])))
            clear hcy
            go_wp2
            go_roundw
            case rel => exact ⟨i + 1, by omega, by go_num, by rw [HS.out, HX.out], by trivial⟩
            case measure => simp [intOf]; omega
        · have hii : i = cs.length := by omega
          subst hii
          go_wp2
          go_roundw
          case rel => exact ⟨j + 1, by omega, by go_num, by rw [HTS.out], by trivial⟩
          case measure => simp [intOf]; omega
    · have hjj : j = cs.length := by omega
      subst hjj
      go_wp2
      go_ret
      exact ⟨rfl, hbw1⟩
theorem chainI_no {ns ls : List Pr} {cs : List Int} {f x : Int} (h : chainB ns ls cs f x = false) : chainI ns ls cs f x = [] := by unfold chainI; rw [h]; rfl
theorem chainI_yes {ns ls : List Pr} {cs : List Int} {f : Nat} {x : Int} (h : chainB ns ls cs f x = true) : chainI ns ls cs f x = chainW ns ls cs f x := by unfold chainI; rw [h, Int.toNat_natCast]; rfl
theorem chainB_no {ns ls : List Pr} {cs : List Int} {f x : Int} (h : properB ns ls cs = false ∨ inB f 0 ((cs.length : Int) - 1) = false ∨ inB x 0 5 = false) : chainB ns ls cs f x = false := by
  unfold chainB
  rcases h with h | h | h <;> simp [h]
theorem chainB_yes {ns ls : List Pr} {cs : List Int} {f x : Int} (h1 : properB ns ls cs = true) (h2 : inB f 0 ((cs.length : Int) - 1) = true) (h3 : inB x 0 5 = true) : chainB ns ls cs f x = true := by
  unfold chainB; rw [h1, h2, h3]; rfl
theorem chain_mem {ns ls : List Pr} {cs : List Int} {f : Nat} {x : Int} (hw : wholeB ns ls = true) (hl : cs.length = (facesW ns ls).length) (hf : f < cs.length) :
    memS (rndsC (fun g => (nearW ns ls).getD g 0) (okX cs f x) cs.length (2 ^ f) cs.length) cs.length = chainW ns ls cs f x ∧ rndsC (fun g => (nearW ns ls).getD g 0) (okX cs f x) cs.length (2 ^ f) cs.length < 2 ^ cs.length := by
  have hwf := facesW_whole hw
  have hl' : cs.length = (facesD ns ls).length := by rw [hl, hwf]
  refine ⟨?_, rndsC_lt (Nat.pow_lt_pow_right (by omega) hf) _⟩
  exact rounds_chain (near := fun g => (nearW ns ls).getD g 0) (fun g i hg hi => near_bit hw (by omega)) (fun g hg => by rw [hl']; exact near_lt hw (by omega)) (fun g i => adB_symm ns ls g i) hf
set_option maxHeartbeats 8000000 in
set_option maxRecDepth 100000 in
theorem iChainOf_any (vn vl vc : Value) (ns ls : List Pr) (cs : List Int) (f x : Int) (w : World) (hn : RP w vn ns) (hl : RP w vl ls) (hc : RI w vc cs) (hle : cs.length ≤ 1048576) :
    Calls Tryz.prog 171 #[.agg #[vn, vl], vc, .int .i64 f, .int .i64 x] w (RetN (natI (chainI ns ls cs f x)) w) := by
  have hb0 : Below w.heap.size w (w.alloc (.cells #[vn, vl] 27)) := by exact bel_
  have hW0 : Blk (w.alloc (.cells #[vn, vl] 27)) w.heap.size 27 #[vn, vl] := Blk.newAt rfl
  obtain ⟨Ac, cc, rfl, hcc, hmc, _⟩ := hc.form
  unfold maxLen at hmc
  cases hp : properB ns ls cs
  · have HR := Lib.hid (chainI_no (chainB_no (f := f) (x := x) (.inl hp)))
    go_enter Tryz.func171, Tryz.ntmps171
    go_wp2_with fail
    refine (iProper_at _ _ _ ns ls cs _ _ (hn.below hb0) (hl.below hb0) (hc.below hb0) hp).mono ?_
    rintro e w1 ⟨rfl, hb1⟩
    have hbw1 := hb0.trans (hb1.mono hb0.size)
    go_wp2
    go_ret
    exact ⟨_, rfl, by rw [HR.out]; exact OwnI.nil _ _, fun _ => rfl, hbw1⟩
  · cases hf : inB f 0 ((cs.length : Int) - 1)
    · have HR := Lib.hid (chainI_no (chainB_no (ns := ns) (ls := ls) (x := x) (.inr (.inl hf))))
      have HF := Lib.hid hf
      clear hf
      go_enter Tryz.func171, Tryz.ntmps171
      go_wp2_with fail
      refine (iProper_at _ _ _ ns ls cs _ _ (hn.below hb0) (hl.below hb0) (hc.below hb0) hp).mono ?_
      rintro e w1 ⟨rfl, hb1⟩
      have hbw1 := hb0.trans (hb1.mono hb0.size)
      go_wp2_with fail
      refine (within_at f 0 _ false _ HF.out).mono ?_
      rintro e w' ⟨rfl, rfl⟩
      go_wp2
      go_ret
      exact ⟨_, rfl, by rw [HR.out]; exact OwnI.nil _ _, fun _ => rfl, hbw1⟩
    · cases hx : inB x 0 5
      · have HR := Lib.hid (chainI_no (chainB_no (ns := ns) (ls := ls) (cs := cs) (f := f) (.inr (.inr hx))))
        have HF := Lib.hid hf
        have HX := Lib.hid hx
        clear hf hx
        go_enter Tryz.func171, Tryz.ntmps171
        go_wp2_with fail
        refine (iProper_at _ _ _ ns ls cs _ _ (hn.below hb0) (hl.below hb0) (hc.below hb0) hp).mono ?_
        rintro e w1 ⟨rfl, hb1⟩
        have hbw1 := hb0.trans (hb1.mono hb0.size)
        go_wp2_with fail
        refine (within_at f 0 _ true _ HF.out).mono ?_
        rintro e w' ⟨rfl, rfl⟩
        go_wp2_with fail
        refine (within_at x 0 5 false _ HX.out).mono ?_
        rintro e w' ⟨rfl, rfl⟩
        go_wp2
        go_ret
        exact ⟨_, rfl, by rw [HR.out]; exact OwnI.nil _ _, fun _ => rfl, hbw1⟩
      · obtain ⟨k, rfl⟩ : ∃ k : Nat, f = k := ⟨f.toNat, by have := inB_true.1 hf; omega⟩
        have hk : k < cs.length := by have := inB_true.1 hf; omega
        have HR := Lib.hid (chainI_yes (chainB_yes hp hf hx))
        obtain ⟨hw, hcl, _, _⟩ := proper_iff.1 hp
        rw [← facesW_whole hw] at hcl
        have hfl := facesW_len ns ls
        obtain ⟨hm1, hm2⟩ := chain_mem (x := x) hw hcl hk
        have HM := Lib.hid hm1
        have HL := Lib.hid hm2
        have HS := Lib.hid (chainW_self (ns := ns) (ls := ls) (x := x) hk)
        have HCH := Lib.hid (fun (v : World) (hb : Below w.heap.size w v) => iChain_at vn vl _ ns ls cs k x v (hn.below hb) (hl.below hb) (hc.below hb) hw hcl hk)
        have HPR := Lib.hid (iProper_at vn vl _ ns ls cs _ _ (hn.below hb0) (hl.below hb0) (hc.below hb0) hp)
        have h40 : cs.length ≤ 40 := by omega
        have HF := Lib.hid hf
        have HX := Lib.hid hx
        clear hf hx hm1 hm2 hcl hfl hn hl hc hw hp
        generalize rndsC (fun g => (nearW ns ls).getD g 0) (okX cs k x) cs.length (2 ^ k) cs.length = R at *
        go_enter Tryz.func171, Tryz.ntmps171
        go_wp2_with fail
        refine HPR.out.mono ?_
        rintro e w1 ⟨rfl, hb1⟩
        have hbw1 := hb0.trans (hb1.mono hb0.size)
        have hW1 := hW0.below hb1 hW0.lt
        have hz1 := hW1.lt
        clear hb1 hb0 hW0 HPR
        go_wp2_with fail
        refine (within_at _ 0 _ true _ HF.out).mono ?_
        rintro e w' ⟨rfl, rfl⟩
        go_wp2_with fail
        refine (within_at x 0 5 true _ HX.out).mono ?_
        rintro e w' ⟨rfl, rfl⟩
        obtain ⟨a_0, a_1⟩ := hW1.c2
        go_wp2_with fail
        refine (HCH.out _ hbw1).mono ?_
        rintro e w2 ⟨rfl, hb2⟩
        have hbw2 := hbw1.trans (hb2.mono hbw1.size)
        clear hb2 hW1 a_0 a_1
        go_wp2_with fail
        refine (iMembers_any R cs.length _ HL.out h40).mono ?_
        rintro e w3 ⟨v3, rfl, ho3, hb3⟩
        have HB := Lib.hid (hbw2.trans (hb3.mono hbw2.size))
        have HO := Lib.hid (OwnI.mono ho3 hbw2.size)
        clear ho3 hb3
        go_wp2
        go_ret
        refine ⟨_, rfl, by rw [HR.out, ← HM.out]; exact HO.out, fun h => ?_, HB.out⟩
        rw [HR.out, natI_length] at h
        have := HS.out
        rw [List.eq_nil_of_length_eq_zero h] at this
        cases this
theorem swK_succ (cs : List Int) (C : List Nat) (y x : Int) (k : Nat) : swK cs C y x (k + 1) = (swK cs C y x k).set (C.getD k 0) (if cs.getD (C.getD k 0) 0 = x then y else x) := rfl
theorem swapB_no {ns ls : List Pr} {cs : List Int} {f x : Int} (h : chainB ns ls cs f x = false ∨ cs.getD f.toNat 0 = x) : swapB ns ls cs f x = false ∧ swapL ns ls cs f x = cs := by
  have hb : swapB ns ls cs f x = false := by
    unfold swapB
    rcases h with h | h
    · rw [h]; rfl
    · rw [decide_eq_true h]; simp
  exact ⟨hb, by unfold swapL; rw [hb]; rfl⟩
theorem swapB_yes {ns ls : List Pr} {cs : List Int} {f : Nat} {x : Int} (h1 : chainB ns ls cs f x = true) (h2 : ¬ cs.getD f 0 = x) : swapB ns ls cs f x = true ∧ swapL ns ls cs f x = swK cs (chainW ns ls cs f x) (cs.getD f 0) x (chainW ns ls cs f x).length := by
  have hb : swapB ns ls cs f x = true := by
    unfold swapB
    rw [h1, Int.toNat_natCast, decide_eq_false h2]; rfl
  exact ⟨hb, by unfold swapL; rw [hb, Int.toNat_natCast]; rfl⟩
set_option maxHeartbeats 16000000 in
set_option maxRecDepth 100000 in
theorem iSwap_any (vn vl vc : Value) (ns ls : List Pr) (cs : List Int) (f x : Int) (w : World) (hn : RP w vn ns) (hl : RP w vl ls) (hc : RI w vc cs) (hle : cs.length ≤ 1048576) :
    Calls Tryz.prog 96 #[.agg #[vn, vl], vc, .int .i64 f, .int .i64 x] w (RetIB (swapL ns ls cs f x) (swapB ns ls cs f x) w) := by
  have hb0 : Below w.heap.size w (w.alloc (.cells #[vn, vl] 27)) := by exact bel_
  have hW0 : Blk (w.alloc (.cells #[vn, vl] 27)) w.heap.size 27 #[vn, vl] := Blk.newAt rfl
  have HCO := Lib.hid (fun (v : World) (hb : Below w.heap.size w v) => iChainOf_any vn vl vc ns ls cs f x v (hn.below hb) (hl.below hb) (hc.below hb) hle)
  have HCP := Lib.hid (iCopyInts_any vc cs _ (hc.below hb0) hle)
  have hnil := fun (u : World) (a : Option Addr) (l c : Nat) => Lib.run_eql_slice_nil (P := Tryz.prog) u 31 3 a l c 0 0 Tryz.underlying31
  cases hq : chainB ns ls cs f x
  · obtain ⟨hs1, hs2⟩ := swapB_no (.inl hq)
    have HS1 := Lib.hid hs1
    have HS2 := Lib.hid hs2
    have HI := Lib.hid (chainI_no hq)
    clear hs1 hs2 hq
    go_enter Tryz.func96, Tryz.ntmps96
    go_wp2_with fail
    refine HCP.out.mono ?_
    rintro e w1 ⟨v1, rfl, ho1, hb1⟩
    have hbw1 := hb0.trans (hb1.mono hb0.size)
    have hW1 := hW0.below hb1 hW0.lt
    have hz1 := hW1.lt
    obtain ⟨a_0, a_1⟩ := hW1.c2
    clear hb1 HCP
    go_wp2_with fail
    refine (HCO.out _ hbw1).mono ?_
    rw [HI.out]
    rintro e w2 ⟨v2, rfl, _, hv2, hb2⟩
    have e2 := hv2 rfl
    subst e2
    have HB := Lib.hid (hbw1.trans (hb2.mono hbw1.size))
    have HO := Lib.hid (OwnI.mono (ho1.kept hb2) (show w.heap.size ≤ _ by simp))
    clear ho1 hv2 hb2 hW1 a_0 a_1 HCO
    go_wp2
    exact bodyPost_ret (v := .tuple #[v1, .bool false]) (by simp [results, Tryz.results96, go_sem]) rfl ⟨_, by rw [HS1.out], by rw [HS2.out]; exact HO.out, HB.out⟩
  · have hq' := hq
    unfold chainB at hq'
    rw [Bool.and_eq_true, Bool.and_eq_true] at hq'
    obtain ⟨k, rfl⟩ : ∃ k : Nat, f = k := ⟨f.toNat, by have := inB_true.1 hq'.2.1; omega⟩
    have hk : k < cs.length := by have := inB_true.1 hq'.2.1; omega
    have HI := Lib.hid (chainI_yes hq)
    have HMEM := Lib.hid (chainW_self (ns := ns) (ls := ls) (x := x) hk)
    have HLT := Lib.hid (fun i (h : i ∈ chainW ns ls cs k x) => chainW_lt h)
    obtain ⟨Ac, cc, rfl, hcc, hmc, hcellc⟩ := hc.form
    unfold maxLen at hmc
    obtain ⟨bc, oc, rfl, hbc, hclc⟩ := hcellc (by omega)
    have HCC := Lib.hid hclc
    have ik1 : (0 : Int) ≤ (k : Int) := by omega
    have ik2 : (k : Int) < (cs.length : Int) := by omega
    have HNO := Lib.hid (fun h => swapB_no (ns := ns) (ls := ls) (cs := cs) (f := (k : Int)) (x := x) (.inr h))
    have HYE := Lib.hid (fun h => swapB_yes (ns := ns) (ls := ls) (cs := cs) (f := k) (x := x) hq h)
    have HSK := Lib.hid (fun C y k => swK_succ cs C y x k)
    have HSL := Lib.hid (fun C y k => swK_len cs C y x k)
    have HSZ : Hid (∀ C y, swK cs C y x 0 = cs) := Lib.hid (fun _ _ => rfl)
    clear hq hq' hc hcellc hclc hn hl
    rw [Int.toNat_natCast] at HNO
    have hcwl := chainW_len ns ls cs k x
    generalize chainW ns ls cs k x = C at *
    have hCp : 0 < C.length := List.length_pos_of_mem HMEM.out
    have HCN : Hid (∀ j, j < C.length → C.getD j 0 < cs.length) := Lib.hid (fun j hj => HLT.out _ (by rw [List.getD_eq_getElem?_getD, List.getElem?_eq_getElem hj]; exact List.getElem_mem hj))
    go_enter Tryz.func96, Tryz.ntmps96
    go_wp2_with fail
    refine HCP.out.mono ?_
    rintro e w1 ⟨v1, rfl, ho1, hb1⟩
    have hbw1 := hb0.trans (hb1.mono hb0.size)
    have hW1 := hW0.below hb1 hW0.lt
    have hz1 := hW1.lt
    obtain ⟨a_0, a_1⟩ := hW1.c2
    clear hb1 HCP
    go_wp2_with fail
    refine (HCO.out _ hbw1).mono ?_
    rw [HI.out]
    rintro e w2 ⟨v2, rfl, ho2, _, hb2⟩
    have hbw2 := hbw1.trans (hb2.mono hbw1.size)
    have ho1' := OwnI.mono (ho1.kept hb2) (show w.heap.size ≤ _ by simp)
    obtain ⟨g1, c1, rfl, hc1, hg1b, hg1, _⟩ := OwnI.blk ho1 (by omega)
    obtain ⟨b2, c2, rfl, hc2, hB2, hb2l, hcl2⟩ := OwnI.blk ho2 (by rw [natI_length]; exact hCp)
    rw [natI_length] at hc2 hcl2 ⊢
    have hne12 : b2 ≠ g1 := by omega
    have HC2 := Lib.hid hcl2
    have hyk := (hbw2.cell (p := ⟨bc, oc + k, none⟩) hbc).trans (HCC.out k hk)
    have hbc2 : bc < w2.heap.size := Nat.lt_of_lt_of_le hbc hbw2.size
    have hbcw : bc < w.heap.size := hbc
    have hgw : w.heap.size ≤ g1 := by simp at hg1b; omega
    clear ho1 ho2 hb2 hW1 a_0 a_1 HCO hcl2
    generalize cs.getD k 0 = y at *
    by_cases hyx : y = x
    · have e1 : (y == x) = true := beq_iff_eq.2 hyx
      obtain ⟨hs1, hs2⟩ := HNO.out hyx
      have HS1 := Lib.hid hs1
      have HS2 := Lib.hid hs2
      have HO := Lib.hid ho1'
      clear hs1 hs2 ho1' hyx
      go_wp2
      exact bodyPost_ret (v := .tuple #[.slice (some ⟨g1, 0, none⟩) cs.length c1, .bool false]) (by simp [results, Tryz.results96, go_sem]) rfl ⟨_, by rw [HS1.out], by rw [HS2.out]; exact HO.out, hbw2⟩
    · have e1 : (y == x) = false := beq_eq_false_iff_ne.2 hyx
      obtain ⟨hs1, hs2⟩ := HYE.out hyx
      have HS1 := Lib.hid hs1
      have HS2 := Lib.hid hs2
      have hO0 : OwnI w.heap.size w2 (.slice (some ⟨g1, 0, none⟩) cs.length c1) (swK cs C y x 0) := by rw [HSZ.out]; exact ho1'
      have hgr : w2.grownBy w2 (some g1) := grown_refl _ _
      clear hs1 hs2 ho1' hyx
      go_wp2
      go_loopw [34] (fun t wr => ∃ j : Nat, j ≤ C.length ∧ t = .int .i64 j ∧ OwnI w.heap.size wr (.slice (some ⟨g1, 0, none⟩) cs.length c1) (swK cs C y x j) ∧ w2.grownBy wr (some g1)) (fun t _ => C.length - (intOf t).toNat)
      case atStart => exact ⟨0, Nat.zero_le _, rfl, hO0, hgr⟩
      case round =>
        clear hO0 hgr
        obtain ⟨j, hj, rfl, ho, hg⟩ := hrel
        have hsz := hg.size
        by_cases hlt : j < C.length
        · have hlt1 : (j : Int) < (C.length : Int) := by omega
          have ij1 : (0 : Int) ≤ (j : Int) := by omega
          have q0 := (cell_of_block (o := j) (hg.block b2 hb2l (fun e => hne12 (by cases e; rfl)))).trans (HC2.out j hlt)
          rw [natI_get] at q0
          have hdl := HCN.out j hlt
          have HS := Lib.hid (HSK.out C y j)
          have hln := HSL.out C y j
          generalize C.getD j 0 = d at *
          have q1 := (cell_of_block (o := oc + d) (hg.block bc hbc2 (fun e => by cases e; omega))).trans ((hbw2.cell (p := ⟨bc, oc + d, none⟩) hbc).trans (HCC.out d hdl))
          have q2 := (cell_of_block (o := oc + k) (hg.block bc hbc2 (fun e => by cases e; omega))).trans hyk
          have id1 : (0 : Int) ≤ (d : Int) := by omega
          have id2 : (d : Int) < (cs.length : Int) := by omega
          have lb2 : b2 < wr.heap.size := by omega
          have lbc : bc < wr.heap.size := by omega
          have hx0 := OwnE.cell (t := 3) (enc := vI) ho 0 (q := d) (by omega)
          obtain ⟨zz, hzz⟩ : ∃ z, wr.cell? ⟨g1, d, none⟩ = some z := ⟨_, hx0⟩
          have fz := OwnE.frz (t := 3) (enc := vI) ho d
          have hgl := (OwnI.lt ho g1 rfl).2
          have n1 : ¬ bc = g1 := by omega
          have HO := Lib.hid (fun z => own_set ho d z)
          have HG := Lib.hid (fun z => grown_set hg d z)
          generalize cs.getD d 0 = c at *
          clear hx0 ho hg hln
          by_cases hcx : c = x
          · have e2 : (c == x) = true := beq_iff_eq.2 hcx
            have HS' := Lib.hid (HS.out.trans (by rw [if_pos hcx]))
            clear hcx
            go_wp2
            go_roundw
            case rel => exact ⟨j + 1, by omega, by go_num, by rw [HS'.out]; exact HO.out y, HG.out _⟩
            case measure => simp [intOf]; omega
          · have e2 : (c == x) = false := beq_eq_false_iff_ne.2 hcx
            have HS' := Lib.hid (HS.out.trans (by rw [if_neg hcx]))
            clear hcx
            go_wp2
            go_roundw
            case rel => exact ⟨j + 1, by omega, by go_num, by rw [HS'.out]; exact HO.out x, HG.out _⟩
            case measure => simp [intOf]; omega
        · have hjj : j = C.length := by omega
          subst hjj
          have HB := Lib.hid (hbw2.grown hg hbw2.size (fun k hk => by cases hk; exact hgw))
          have HO := Lib.hid ho
          clear ho hg
          go_wp2
          exact bodyPost_ret (v := .tuple #[.slice (some ⟨g1, 0, none⟩) cs.length c1, .bool true]) (by simp [results, Tryz.results96, go_sem]) rfl ⟨_, by rw [HS1.out], by rw [HS2.out]; exact HO.out, HB.out⟩
end Go.Proofs.YtnjcpljhmhdhkaaGreat
