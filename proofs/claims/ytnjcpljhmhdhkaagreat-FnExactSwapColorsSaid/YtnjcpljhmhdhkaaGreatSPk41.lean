/- part 41 -/
import Derived.Test.YtnjcpljhmhdhkaaGreatSPk40
set_option linter.unusedSimpArgs false
set_option linter.unusedVariables false
namespace Go.Proofs.YtnjcpljhmhdhkaaGreat
open Go.RowKit
def seenL (F : Nat) (T : List Nat) : List Bool := (List.range F).map (fun i => decide (i ∈ T))
theorem seenL_len (F : Nat) (T : List Nat) : (seenL F T).length = F := by simp [seenL]
theorem seenL_get {F i : Nat} (T : List Nat) (h : i < F) : (seenL F T).getD i false = decide (i ∈ T) := by simp [seenL, List.getD_eq_getElem?_getD, h]
theorem seenL_set {F : Nat} (T : List Nat) (i : Nat) : (seenL F T).set i true = seenL F (T ++ [i]) := by
  apply List.ext_getElem?
  intro j
  rw [List.getElem?_set, seenL_len]
  unfold seenL
  by_cases hj : j < F
  · by_cases e : i = j
    · subst e; simp [hj]
    · have : ¬ j = i := fun h => e h.symm
      simp [hj, e, this]
  · by_cases e : i = j
    · subst e; simp [hj]
    · simp [hj, e]
theorem seenL_one (F f : Nat) : (List.replicate F false).set f true = seenL F [f] := by
  have h := seenL_set (F := F) [] f
  rw [List.nil_append] at h
  rw [← h]
  congr 1
  apply List.ext_getElem?
  intro j
  by_cases hj : j < F
  · simp [seenL, hj]
  · simp [seenL, hj]
def outL (T : List Nat) (k : Nat) : List Nat := (List.range k).filter (fun i => decide (i ∈ T))
theorem outL_yes {T : List Nat} {k : Nat} (h : k ∈ T) : outL T (k + 1) = outL T k ++ [k] := by simp [outL, List.range_succ, List.filter_append, h]
theorem outL_no {T : List Nat} {k : Nat} (h : k ∉ T) : outL T (k + 1) = outL T k := by simp [outL, List.range_succ, List.filter_append, h]
theorem outL_len (T : List Nat) (k : Nat) : (outL T k).length ≤ k := by
  have := List.length_filter_le (fun i => decide (i ∈ T)) (List.range k)
  simpa [outL] using this
theorem natI_app (l : List Nat) (i : Nat) : natI (l ++ [i]) = natI l ++ [(i : Int)] := by simp [natI]
theorem natI_one (f : Nat) : natI [f] = [(f : Int)] := rfl
set_option maxHeartbeats 16000000 in
set_option maxRecDepth 100000 in
theorem sChain_at (b cT F : Nat) (adj : Nat → Nat → Bool) (vc : Value) (cs : List Int) (f : Nat) (x : Int) (w : World) (ht : TabAt w b 0 F adj) (hc : RI w vc cs) (hl : cs.length = F) (hf : f < F) (hF : F ≤ 40) :
    Calls Tryz.prog 223 #[.slice (some ⟨b, 0, none⟩) F cT, vc, .int .i64 f, .int .i64 x] w (RetI (natI (chainL adj (okX cs f x) F f)) w) := by
  obtain ⟨i0, hi, iz0, iz1, iz2⟩ := info_parts infoBool
  obtain ⟨Ac, cc, rfl, hcc, hmc, hcellc⟩ := hc.form
  unfold maxLen at hmc
  obtain ⟨bc, oc, rfl, hbc, hclc⟩ := hcellc (by omega)
  rw [hl] at hcc hmc hclc ⊢
  have HCC := Lib.hid hclc
  have HT := Lib.hid ht.2
  have hbT := ht.1
  have HOK : Hid (∀ i, okX cs f x i = (decide (cs.getD i 0 = cs.getD f 0) || decide (cs.getD i 0 = x))) := Lib.hid (fun _ => rfl)
  have HG0 := Lib.hid (Grow.start (adj := adj) (ok := okX cs f x) hf)
  have HGE := Lib.hid (fun T k j (h : Grow adj (okX cs f x) F f T k j) hk => h.end_ hk)
  have if1 : (0 : Int) ≤ (f : Int) := by omega
  have if2 : (f : Int) < (F : Int) := by omega
  have hyf := HCC.out f hf
  have HL := Lib.hid hl
  generalize cs.getD f 0 = y at *
  clear hcellc hclc hc ht hl
  go_enter Tryz.func223, Tryz.ntmps223
  go_wp2_with (at_make; refine wpList_make_full _ rfl _ _ 182 rfl w.heap.size 4 i0 (.bool false) 1 Tryz.underlying182 hi iz0 iz1 .i64 .i64 _ _ F rfl rfl rfl rfl (by rw [iz2]; omega) (by unfold maxLen; omega) (Nat.le_refl _) ?_)
  intro w1 hown1 hgr1
  have hB1 : Below w.heap.size w w1 := (Below.refl _ _).grown hgr1 (Nat.le_refl _) (by intro k hk; cases hk)
  have hs1 : OwnE 4 Value.bool w.heap.size w1 (.slice (some ⟨w.heap.size, 0, none⟩) F F) (List.replicate F false) := by
    unfold OwnE
    rw [List.length_replicate, ← madeB]; exact hown1
  have hg1 := (hs1.lt _ rfl).2
  have hx0 := OwnE.cell hs1 false (q := f) (by simp; exact hf)
  obtain ⟨zz, hzz⟩ : ∃ z, w1.cell? ⟨w.heap.size, f, none⟩ = some z := ⟨_, hx0⟩
  have fz := OwnE.frz hs1 f
  have hs2 := OwnE.set_ hs1 f true
  rw [seenL_one] at hs2
  have hB2 := hB1.setCell (p := ⟨w.heap.size, f, none⟩) (Nat.le_refl _) (.bool true)
  obtain ⟨w2, hw2⟩ : ∃ u, u = (w1.setCell ⟨w.heap.size, f, none⟩ (.bool true)).alloc (.cells #[.int .i64 f] 3) := ⟨_, rfl⟩
  have hs3 : OwnE 4 Value.bool w.heap.size w2 (.slice (some ⟨w.heap.size, 0, none⟩) F F) (seenL F [f]) := by rw [hw2]; exact hs2.alloc _
  have hB3 : Below w.heap.size w w2 := by rw [hw2]; exact hB2.alloc (by simpa [World.setCell] using hB1.size) _
  have ht3 : OwnI w.heap.size w2 (.slice (some ⟨w1.heap.size, 0, none⟩) 1 1) (natI [f]) := by
    rw [hw2, natI_one]
    have := World.ownsRow_lit (base := w.heap.size) (e := 3) (size := 1) (w1.setCell ⟨w.heap.size, f, none⟩ (.bool true)) #[.int .i64 f] 1 (by simpa [World.setCell] using hB1.size) (by decide) (by simp)
    simpa [World.setCell, OwnI, vI] using this
  have hB1s := hB1.size
  have HW2 := Lib.hid hw2
  have hz2 := hB3.size
  clear hw2 hs1 hs2 hB2 hx0 hown1 hgr1 i0 hi iz0 iz1 iz2
  go_wp2_with fail
  rw [← HW2.out]
  clear HW2
  go_loopw [10, 11] (fun v t wr => ∃ (T : List Nat) (k : Nat), t = .int .i64 k ∧ OwnI w.heap.size wr v (natI T) ∧ OwnE 4 Value.bool w.heap.size wr (.slice (some ⟨w.heap.size, 0, none⟩) F F) (seenL F T) ∧ Hid (Grow adj (okX cs f x) F f T k 0 ∧ k ≤ T.length) ∧ Below w.heap.size w wr) (fun _ t _ => F - (intOf t).toNat)
  case atStart => exact ⟨[f], 0, rfl, ht3, hs3, Lib.hid ⟨HG0.out, Nat.zero_le _⟩, hB3⟩
  case round =>
    clear ht3 hs3 hB3 hz2 hzz fz
    obtain ⟨T, k, rfl, ho, hs, HGK, hB⟩ := hrel
    have hTl := HGK.out.1.len
    have hkl := HGK.out.2
    have hTF := ho.lt
    obtain ⟨At, ct, rfl⟩ := OwnE.form (t := 3) (enc := vI) ho
    rw [natI_length] at ho ⊢
    by_cases hlt : k < T.length
    · have hlt1 : (k : Int) < (T.length : Int) := by omega
      have ik1 : (0 : Int) ≤ (k : Int) := by omega
      have HG1 := Lib.hid HGK.out.1
      clear HGK hTF
      go_wp2
      go_loopw [10, 12] (fun v t wr => ∃ (T : List Nat) (i : Nat), i ≤ F ∧ t = .int .i64 i ∧ k < T.length ∧ OwnI w.heap.size wr v (natI T) ∧ OwnE 4 Value.bool w.heap.size wr (.slice (some ⟨w.heap.size, 0, none⟩) F F) (seenL F T) ∧ Hid (Grow adj (okX cs f x) F f T k i) ∧ Below w.heap.size w wr) (fun _ t _ => F - (intOf t).toNat)
      case atStart => exact ⟨T, 0, Nat.zero_le _, rfl, hlt, ho, hs, HG1, hB⟩
      case round =>
        clear ho hs hB HG1 hlt hlt1 hTl hkl
        rename_i T0
        obtain ⟨T, i, hi, rfl, hkT, ho, hs, HG, hB⟩ := hrel
        have hTl := HG.out.len
        obtain ⟨bt, ct, rfl, hct, hbt0, hbt, hcl⟩ := OwnI.blk ho (by rw [natI_length]; omega)
        rw [natI_length] at hct hcl ho ⊢
        by_cases hil : i < F
        · have hil1 : (i : Int) < (F : Int) := by omega
          have ii1 : (0 : Int) ≤ (i : Int) := by omega
          have hk1 : (k : Int) < (T.length : Int) := by omega
          have q0 := hcl k hkT
          rw [natI_get] at q0
          have hTk : T.getD k 0 = T[k] := by simp [List.getD, hkT]
          have hdF : T.getD k 0 < F := by rw [hTk]; exact HG.out.lt _ (List.getElem_mem hkT)
          have HDK := Lib.hid hTk.symm
          clear hTk hcl
          generalize hd : T.getD k 0 = d at *
          obtain ⟨bi, hbi, hc0, hcc0⟩ := HT.out d hdF
          have q1 := (hB.cell (p := ⟨b, 0 + d, none⟩) hbT).trans hc0
          rw [Nat.zero_add] at q1
          have q2 := (hB.cell (p := ⟨bi, i, none⟩) hbi).trans (hcc0 i hil)
          have q3 := OwnE.cell hs false (q := i) (by rw [seenL_len]; exact hil)
          rw [seenL_get T hil] at q3
          have q4 := (hB.cell (p := ⟨bc, oc + i, none⟩) hbc).trans (HCC.out i hil)
          have q5 := (hB.cell (p := ⟨bc, oc + f, none⟩) hbc).trans hyf
          have id1 : (0 : Int) ≤ (d : Int) := by omega
          have id2 : (d : Int) < (F : Int) := by omega
          have hgs := (hs.lt _ rfl).2
          have hz := hB.size
          have l1 : b < wr.heap.size := by omega
          have l2 : bi < wr.heap.size := by omega
          have l3 : bc < wr.heap.size := by omega
          have HO1 := Lib.hid (HOK.out i)
          clear hc0 hcc0 hd
          generalize cs.getD i 0 = c at *
          obtain ⟨a, ha⟩ : ∃ a, adj d i = a := ⟨_, rfl⟩
          rw [ha] at q2
          have HAE := Lib.hid ha
          clear ha
          obtain ⟨m, hm⟩ : ∃ m, decide (i ∈ T) = m := ⟨_, rfl⟩
          rw [hm] at q3
          have HME := Lib.hid hm
          clear hm
          cases a
          · go_wp2_with fail
            (refine wp_region_quietG (by kernel_rfl) (by kernel_rfl) (fun hG => ?_))
            repeat (go_big_quiet_step (fail))
            refine wpQuiet_nil ?_
            clear hG
            rintro w5 ⟨⟨_, hs5⟩, rfl⟩
            have ho5 := ho.kept hs5
            have hs' := hs.kept hs5
            have hB5 := hB.trans (hs5.mono hB.size)
            have HGR := Lib.hid (HG.out.skip (fun u hu ha _ => by rw [List.getElem?_eq_getElem hkT] at hu; cases hu; rw [HDK.out, HAE.out] at ha; cases ha))
            have HO := Lib.hid ho5
            have HS := Lib.hid hs'
            have HB := Lib.hid hB5
            clear ho hs hB ho5 hs' hB5 hs5 q0 q1 q2 q3 q4 q5
            go_wp2
            go_roundw
            case rel => exact ⟨T, i + 1, by omega, by go_num, hkT, HO.out, HS.out, HGR, HB.out⟩
            case measure => simp [intOf]; omega
          · cases m
            · have HNM : Hid (i ∉ T) := Lib.hid (by simpa using HME.out)
              by_cases h1 : c = x
              · have e1 : (c == x) = true := beq_iff_eq.2 h1
                have HOT : Hid (okX cs f x i = true) := Lib.hid (by rw [HO1.out]; simp [h1])
                clear h1
                go_wp2_with fail
                (refine wp_region_quietG (by kernel_rfl) (by kernel_rfl) (fun hG => ?_))
                repeat (go_big_quiet_step (fail))
                refine wpQuiet_nil ?_
                clear hG
                rintro w5 ⟨⟨_, hs5⟩, rfl⟩
                have ho5 := ho.kept hs5
                have hs' := hs.kept hs5
                have hB5 := hB.trans (hs5.mono hB.size)
                have hgl5 := (hs'.lt _ rfl).2
                have hz5 := OwnE.cell hs' false (q := i) (by rw [seenL_len]; exact hil)
                obtain ⟨z5, hz5'⟩ : ∃ z, w5.cell? ⟨w.heap.size, i, none⟩ = some z := ⟨_, hz5⟩
                have fz5 := OwnE.frz hs' i
                have hs6 := OwnE.set_ hs' i true
                rw [seenL_set] at hs6
                have ho6 : OwnI w.heap.size (w5.setCell ⟨w.heap.size, i, none⟩ (.bool true)) (.slice (some ⟨bt, 0, none⟩) T.length ct) (natI T) := OwnE.other (t := 3) (enc := vI) ho5 hs' ty_nb (grown_set (grown_refl _ _) i _)
                have hB6 := hB5.setCell (p := ⟨w.heap.size, i, none⟩) (Nat.le_refl _) (.bool true)
                have hz6 : w.heap.size ≤ (w5.setCell ⟨w.heap.size, i, none⟩ (.bool true)).heap.size := hB6.size
                have HGR := Lib.hid (HG.out.push hkT hil (by rw [HDK.out, HAE.out]) HOT.out HNM.out)
                have hTl := HG.out.len
                clear ho hs hB ho5 hB5 hs5 q0 q1 q2 q3 q4 q5 hz5
                go_wp2_with (at_builtin; refine wpList_append_i rfl _ _ rfl w.heap.size _ (natI T) (i : Int) rfl w5.heap.size rfl (cell_new1 (by simp [World.setCell])) (ho6.alloc _) (by rw [natI_length]; omega) (by simp [World.setCell] at hz6 ⊢; omega) ?_)
                intro v7 w7 ho7 hg7 _
                have hsA := OwnE.alloc hs6 (.cells #[.int .i64 i] 3)
                have HS := Lib.hid (OwnE.other hsA (ho6.alloc (.cells #[.int .i64 i] 3)) (fun e => ty_nb e.symm) hg7)
                have HO := Lib.hid (show OwnI w.heap.size w7 v7 (natI (T ++ [i])) by rw [natI_app]; exact ho7)
                have HB := Lib.hid ((hB6.alloc hz6 (.cells #[.int .i64 i] 3)).grown hg7 (by simp [World.setCell] at hz6 ⊢; omega) (fun q hq => (ho6.lt q hq).1))
                clear ho7 hg7 hsA hs6 ho6 hB6 hz6
                go_wp2
                go_roundw
                case rel => exact ⟨T ++ [i], i + 1, by omega, by go_num, by simp; omega, HO.out, HS.out, HGR, HB.out⟩
                case measure => simp [intOf]; omega
              · have e1 : (c == x) = false := beq_eq_false_iff_ne.2 h1
                by_cases h2 : c = y
                · have e2 : (c == y) = true := beq_iff_eq.2 h2
                  have HOT : Hid (okX cs f x i = true) := Lib.hid (by rw [HO1.out]; simp [h2])
                  clear h1 h2
                  go_wp2_with fail
                  (refine wp_region_quietG (by kernel_rfl) (by kernel_rfl) (fun hG => ?_))
                  repeat (go_big_quiet_step (fail))
                  refine wpQuiet_nil ?_
                  clear hG
                  rintro w5 ⟨⟨_, hs5⟩, rfl⟩
                  have ho5 := ho.kept hs5
                  have hs' := hs.kept hs5
                  have hB5 := hB.trans (hs5.mono hB.size)
                  have hgl5 := (hs'.lt _ rfl).2
                  have hz5 := OwnE.cell hs' false (q := i) (by rw [seenL_len]; exact hil)
                  obtain ⟨z5, hz5'⟩ : ∃ z, w5.cell? ⟨w.heap.size, i, none⟩ = some z := ⟨_, hz5⟩
                  have fz5 := OwnE.frz hs' i
                  have hs6 := OwnE.set_ hs' i true
                  rw [seenL_set] at hs6
                  have ho6 : OwnI w.heap.size (w5.setCell ⟨w.heap.size, i, none⟩ (.bool true)) (.slice (some ⟨bt, 0, none⟩) T.length ct) (natI T) := OwnE.other (t := 3) (enc := vI) ho5 hs' ty_nb (grown_set (grown_refl _ _) i _)
                  have hB6 := hB5.setCell (p := ⟨w.heap.size, i, none⟩) (Nat.le_refl _) (.bool true)
                  have hz6 : w.heap.size ≤ (w5.setCell ⟨w.heap.size, i, none⟩ (.bool true)).heap.size := hB6.size
                  have HGR := Lib.hid (HG.out.push hkT hil (by rw [HDK.out, HAE.out]) HOT.out HNM.out)
                  have hTl := HG.out.len
                  clear ho hs hB ho5 hB5 hs5 q0 q1 q2 q3 q4 q5 hz5
                  go_wp2_with (at_builtin; refine wpList_append_i rfl _ _ rfl w.heap.size _ (natI T) (i : Int) rfl w5.heap.size rfl (cell_new1 (by simp [World.setCell])) (ho6.alloc _) (by rw [natI_length]; omega) (by simp [World.setCell] at hz6 ⊢; omega) ?_)
                  intro v7 w7 ho7 hg7 _
                  have hsA := OwnE.alloc hs6 (.cells #[.int .i64 i] 3)
                  have HS := Lib.hid (OwnE.other hsA (ho6.alloc (.cells #[.int .i64 i] 3)) (fun e => ty_nb e.symm) hg7)
                  have HO := Lib.hid (show OwnI w.heap.size w7 v7 (natI (T ++ [i])) by rw [natI_app]; exact ho7)
                  have HB := Lib.hid ((hB6.alloc hz6 (.cells #[.int .i64 i] 3)).grown hg7 (by simp [World.setCell] at hz6 ⊢; omega) (fun q hq => (ho6.lt q hq).1))
                  clear ho7 hg7 hsA hs6 ho6 hB6 hz6
                  go_wp2
                  go_roundw
                  case rel => exact ⟨T ++ [i], i + 1, by omega, by go_num, by simp; omega, HO.out, HS.out, HGR, HB.out⟩
                  case measure => simp [intOf]; omega
                · have e2 : (c == y) = false := beq_eq_false_iff_ne.2 h2
                  have HOT : Hid (okX cs f x i = false) := Lib.hid (by rw [HO1.out]; simp [h1, h2])
                  clear h1 h2
                  go_wp2_with fail
                  (refine wp_region_quietG (by kernel_rfl) (by kernel_rfl) (fun hG => ?_))
                  repeat (go_big_quiet_step (fail))
                  refine wpQuiet_nil ?_
                  clear hG
                  rintro w5 ⟨⟨_, hs5⟩, rfl⟩
                  have ho5 := ho.kept hs5
                  have hs' := hs.kept hs5
                  have hB5 := hB.trans (hs5.mono hB.size)
                  have HGR := Lib.hid (HG.out.skip (fun u hu _ ho => by rw [HOT.out] at ho; cases ho))
                  have HO := Lib.hid ho5
                  have HS := Lib.hid hs'
                  have HB := Lib.hid hB5
                  clear ho hs hB ho5 hs' hB5 hs5 q0 q1 q2 q3 q4 q5
                  go_wp2
                  go_roundw
                  case rel => exact ⟨T, i + 1, by omega, by go_num, hkT, HO.out, HS.out, HGR, HB.out⟩
                  case measure => simp [intOf]; omega
            · have HNM : Hid (i ∈ T) := Lib.hid (by simpa using HME.out)
              go_wp2_with fail
              (refine wp_region_quietG (by kernel_rfl) (by kernel_rfl) (fun hG => ?_))
              repeat (go_big_quiet_step (fail))
              refine wpQuiet_nil ?_
              clear hG
              rintro w5 ⟨⟨_, hs5⟩, rfl⟩
              have ho5 := ho.kept hs5
              have hs' := hs.kept hs5
              have hB5 := hB.trans (hs5.mono hB.size)
              have HGR := Lib.hid (HG.out.skip (fun _ _ _ _ => HNM.out))
              have HO := Lib.hid ho5
              have HS := Lib.hid hs'
              have HB := Lib.hid hB5
              clear ho hs hB ho5 hs' hB5 hs5 q0 q1 q2 q3 q4 q5
              go_wp2
              go_roundw
              case rel => exact ⟨T, i + 1, by omega, by go_num, hkT, HO.out, HS.out, HGR, HB.out⟩
              case measure => simp [intOf]; omega
        · have hii : i = F := by omega
          subst hii
          have HGN := Lib.hid (show Grow adj (okX cs f x) i f T (k + 1) 0 ∧ k + 1 ≤ T.length from ⟨HG.out.next hkT, hkT⟩)
          clear hcl
          go_wp2
          go_roundw
          case rel => exact ⟨T, k + 1, by go_num, ho, hs, HGN, hB⟩
          case measure => simp [intOf]; omega
    · have hkk : k = T.length := by omega
      have HE := Lib.hid (HGE.out T k 0 HGK.out.1 (by omega))
      have hz2 := hB.size
      have hO3 : OwnI w.heap.size (wr.alloc (.cells #[] 3)) (.slice (some ⟨wr.heap.size, 0, none⟩) 0 0) (natI (outL T 0)) := OwnI.made rfl hz2
      have hs3 := OwnE.alloc hs (.cells #[] 3)
      have hB3 := hB.alloc hz2 (.cells #[] 3)
      have hlt2 : ¬ (k : Int) < (T.length : Int) := by omega
      clear HGK ho hs hB hkk hlt hTF hkl
      go_wp2
      go_loopw [13, 14] (fun v t w2 => ∃ j : Nat, j ≤ F ∧ t = .int .i64 j ∧ OwnI w.heap.size w2 v (natI (outL T j)) ∧ OwnE 4 Value.bool w.heap.size w2 (.slice (some ⟨w.heap.size, 0, none⟩) F F) (seenL F T) ∧ Below w.heap.size w w2) (fun _ t _ => F - (intOf t).toNat)
      case atStart => exact ⟨0, Nat.zero_le _, rfl, hO3, hs3, hB3⟩
      case round =>
        clear hO3 hs3 hB3 hz2
        obtain ⟨j, hj, rfl, ho, hs, hB⟩ := hrel
        have hz := hB.size
        have hgs := (hs.lt _ rfl).2
        by_cases hjl : j < F
        · have hj1 : (j : Int) < (F : Int) := by omega
          have ij1 : (0 : Int) ≤ (j : Int) := by omega
          have q3 := OwnE.cell hs false (q := j) (by rw [seenL_len]; exact hjl)
          rw [seenL_get T hjl] at q3
          obtain ⟨m, hm⟩ : ∃ m, decide (j ∈ T) = m := ⟨_, rfl⟩
          rw [hm] at q3
          have HME := Lib.hid hm
          clear hm
          have hol := outL_len T j
          cases m
          · have HX := Lib.hid (outL_no (T := T) (k := j) (by simpa using HME.out))
            go_wp2
            go_roundw
            case rel => exact ⟨j + 1, by omega, by go_num, by rw [HX.out]; exact ho, hs, hB⟩
            case measure => simp [intOf]; omega
          · have HX := Lib.hid (outL_yes (T := T) (k := j) (by simpa using HME.out))
            generalize outL T j = G at *
            go_wp2_with (at_builtin; refine wpList_append_i rfl _ _ rfl w.heap.size _ (natI G) (j : Int) rfl wr.heap.size rfl (cell_new1 rfl) (ho.alloc _) (by rw [natI_length]; omega) (by simp; omega) ?_)
            intro v7 w7 ho7 hg7 _
            have hsA := OwnE.alloc hs (.cells #[.int .i64 j] 3)
            have HS := Lib.hid (OwnE.other hsA (ho.alloc (.cells #[.int .i64 j] 3)) (fun e => ty_nb e.symm) hg7)
            have HO := Lib.hid (show OwnI w.heap.size w7 v7 (natI (G ++ [j])) by rw [natI_app]; exact ho7)
            have HB := Lib.hid ((hB.alloc hz (.cells #[.int .i64 j] 3)).grown hg7 (by simp; omega) (fun q hq => (ho.lt q hq).1))
            clear ho7 hg7 hsA ho hs hB q3
            go_wp2
            go_roundw
            case rel => exact ⟨j + 1, by omega, by go_num, by rw [HX.out]; exact HO.out, HS.out, HB.out⟩
            case measure => simp [intOf]; omega
        · have hjj : j = F := by omega
          subst hjj
          go_wp2
          go_ret
          exact ⟨_, rfl, by rw [← HE.out]; exact ho, hB⟩
theorem tab_at {base : Nat} {w : World} {v : Value} {gs : List Nat} {ns ls : List Pr} (hq : wholeB ns ls = true) (h : OwnTab base w v (facesW ns ls).length gs (besW ns ls)) : ∃ g c, v = .slice (some ⟨g, 0, none⟩) (facesW ns ls).length c ∧ TabAt w g 0 (facesW ns ls).length (adB ns ls) := by
  have hfp := face_pos hq
  have hwf := facesW_whole hq
  have hbl : (besW ns ls).length = (facesW ns ls).length := by unfold besW; rw [besK_len, hwf]
  have hbr : ∀ i, i < (facesW ns ls).length → ((besW ns ls).getD i []).length = (facesW ns ls).length := fun i hi => by unfold besW; rw [besK_row _ _ _ _ (by rw [← hwf]; exact hi), hwf]
  obtain ⟨g, c, rfl, hg1, hg2⟩ := h.blk (by rw [hbl]; exact hfp)
  refine ⟨g, c, by rw [h.len, hbl], hg2, fun i hi => ⟨gs.getD i 0, (gs_lt h (by rw [hbl]; exact hi)).2, ?_, fun j hj => ?_⟩⟩
  · rw [Nat.zero_add]; exact h.cell (by rw [hbl]; exact hi)
  · rw [h.cell2 (by rw [hbl]; exact hi) (by rw [hbr i hi]; exact hj), bes_bit hq (by rw [← hwf]; exact hi) (by rw [← hwf]; exact hj)]
theorem sProper_is (vn vl vc : Value) (ns ls : List Pr) (cs : List Int) (b : Bool) (w : World) (hn : RP w vn ns) (hl : RP w vl ls) (hc : RI w vc cs) (hb : properB ns ls cs = b) :
    Calls Tryz.prog 46 #[.agg #[vn, vl], vc] w fun e w' => e = .returned (.bool b) ∧ Below w.heap.size w w' := sProper_at vn vl vc ns ls cs b w hn hl hc hb
set_option maxHeartbeats 8000000 in
set_option maxRecDepth 100000 in
theorem sChainOf_any (vn vl vc : Value) (ns ls : List Pr) (cs : List Int) (f x : Int) (w : World) (hn : RP w vn ns) (hl : RP w vl ls) (hc : RI w vc cs) (hle : cs.length ≤ 1048576) :
    Calls Tryz.prog 166 #[.agg #[vn, vl], vc, .int .i64 f, .int .i64 x] w (RetI (natI (chainI ns ls cs f x)) w) := by
  have hb0 : Below w.heap.size w (w.alloc (.cells #[vn, vl] 27)) := by exact bel_
  have hW0 : Blk (w.alloc (.cells #[vn, vl] 27)) w.heap.size 27 #[vn, vl] := Blk.newAt rfl
  obtain ⟨Ac, cc, rfl, hcc, hmc, _⟩ := hc.form
  unfold maxLen at hmc
  have HOM : Hid (∀ v : World, w.heap.size ≤ v.heap.size → OwnI w.heap.size (v.alloc (.cells #[] 3)) (.slice (some ⟨v.heap.size, 0, none⟩) 0 0) (natI [])) := Lib.hid (fun v h => OwnI.made rfl h)
  cases hp : properB ns ls cs
  · have HR := Lib.hid (chainI_no (chainB_no (f := f) (x := x) (.inl hp)))
    go_enter Tryz.func166, Tryz.ntmps166
    go_wp2_with fail
    refine (sProper_is _ _ _ ns ls cs _ _ (hn.below hb0) (hl.below hb0) (hc.below hb0) hp).mono ?_
    rintro e w1 ⟨rfl, hb1⟩
    have hbw1 := hb0.trans (hb1.mono hb0.size)
    have HO := Lib.hid (HOM.out w1 hbw1.size)
    have HB := Lib.hid (hbw1.alloc hbw1.size (.cells #[] 3))
    go_wp2
    go_ret
    exact ⟨_, rfl, by rw [HR.out]; exact HO.out, HB.out⟩
  · cases hf : inB f 0 ((cs.length : Int) - 1)
    · have HR := Lib.hid (chainI_no (chainB_no (ns := ns) (ls := ls) (x := x) (.inr (.inl hf))))
      have HF := Lib.hid hf
      clear hf
      go_enter Tryz.func166, Tryz.ntmps166
      go_wp2_with fail
      refine (sProper_is _ _ _ ns ls cs _ _ (hn.below hb0) (hl.below hb0) (hc.below hb0) hp).mono ?_
      rintro e w1 ⟨rfl, hb1⟩
      have hbw1 := hb0.trans (hb1.mono hb0.size)
      have HO := Lib.hid (HOM.out w1 hbw1.size)
      have HB := Lib.hid (hbw1.alloc hbw1.size (.cells #[] 3))
      go_wp2_with fail
      refine (l01In_any _ _ _ _).mono ?_
      rintro e w' ⟨rfl, rfl⟩
      rw [HF.out]
      go_wp2
      go_ret
      exact ⟨_, rfl, by rw [HR.out]; exact HO.out, HB.out⟩
    · cases hx : inB x 0 5
      · have HR := Lib.hid (chainI_no (chainB_no (ns := ns) (ls := ls) (cs := cs) (f := f) (.inr (.inr hx))))
        have HF := Lib.hid hf
        have HX := Lib.hid hx
        clear hf hx
        go_enter Tryz.func166, Tryz.ntmps166
        go_wp2_with fail
        refine (sProper_is _ _ _ ns ls cs _ _ (hn.below hb0) (hl.below hb0) (hc.below hb0) hp).mono ?_
        rintro e w1 ⟨rfl, hb1⟩
        have hbw1 := hb0.trans (hb1.mono hb0.size)
        have HO := Lib.hid (HOM.out w1 hbw1.size)
        have HB := Lib.hid (hbw1.alloc hbw1.size (.cells #[] 3))
        go_wp2_with fail
        refine (l01In_any _ _ _ _).mono ?_
        rintro e w' ⟨rfl, rfl⟩
        rw [HF.out]
        go_wp2_with fail
        refine (l01In_any _ _ _ _).mono ?_
        rintro e w' ⟨rfl, rfl⟩
        rw [HX.out]
        go_wp2
        go_ret
        exact ⟨_, rfl, by rw [HR.out]; exact HO.out, HB.out⟩
      · obtain ⟨k, rfl⟩ : ∃ k : Nat, f = k := ⟨f.toNat, by have := inB_true.1 hf; omega⟩
        have hk : k < cs.length := by have := inB_true.1 hf; omega
        have HR := Lib.hid (chainI_yes (chainB_yes hp hf hx))
        obtain ⟨hw, hcl, _, _⟩ := proper_iff.1 hp
        rw [← facesW_whole hw] at hcl
        have hfl := facesW_len ns ls
        have HPR := Lib.hid (sProper_is vn vl _ ns ls cs _ _ (hn.below hb0) (hl.below hb0) (hc.below hb0) hp)
        have HBE := Lib.hid (fun (v : World) (hb : Below w.heap.size w v) => sBeside_any vn vl ns ls v (hn.below hb) (hl.below hb) hw)
        have HTB := Lib.hid (fun base w v gs h => tab_at (base := base) (w := w) (v := v) (gs := gs) hw h)
        have HCW : Hid (chainW ns ls cs k x = chainL (adB ns ls) (okX cs k x) (facesW ns ls).length k) := Lib.hid (by unfold chainW; rw [hcl])
        have HF := Lib.hid hf
        have HX := Lib.hid hx
        have HC := Lib.hid hc
        have HCL := Lib.hid hcl
        have hkF : k < (facesW ns ls).length := by omega
        clear hf hx hcl hn hl hc hw hp
        generalize (facesW ns ls).length = F at *
        go_enter Tryz.func166, Tryz.ntmps166
        go_wp2_with fail
        refine HPR.out.mono ?_
        rintro e w1 ⟨rfl, hb1⟩
        have hbw1 := hb0.trans (hb1.mono hb0.size)
        have hW1 := hW0.below hb1 hW0.lt
        have hz1 := hW1.lt
        clear hb1 hb0 hW0 HPR
        go_wp2_with fail
        refine (l01In_any _ _ _ _).mono ?_
        rintro e w' ⟨rfl, rfl⟩
        rw [HF.out]
        go_wp2_with fail
        refine (l01In_any _ _ _ _).mono ?_
        rintro e w' ⟨rfl, rfl⟩
        rw [HX.out]
        obtain ⟨a_0, a_1⟩ := hW1.c2
        go_wp2_with fail
        refine (HBE.out _ hbw1).mono ?_
        rintro e w2 ⟨v2, gs, rfl, ho2, hb2⟩
        obtain ⟨g, c, rfl, ht2⟩ := HTB.out _ _ _ _ ho2
        have hbw2 := hbw1.trans (hb2.mono hbw1.size)
        have HCH := Lib.hid (sChain_at g c F (adB ns ls) _ cs k x w2 ht2 (HC.out.below hbw2) HCL.out hkF hfl)
        clear ho2 hb2 hW1 a_0 a_1 HTB HBE ht2
        go_wp2_with fail
        refine HCH.out.mono ?_
        rintro e w3 ⟨v3, rfl, ho3, hb3⟩
        have HB := Lib.hid (hbw2.trans (hb3.mono hbw2.size))
        have HO := Lib.hid (OwnI.mono ho3 hbw2.size)
        clear ho3 hb3
        go_wp2
        go_ret
        exact ⟨_, rfl, by rw [HR.out, HCW.out]; exact HO.out, HB.out⟩
set_option maxHeartbeats 16000000 in
set_option maxRecDepth 100000 in
theorem sSwap_at (vC vc : Value) (cs : List Int) (C : List Nat) (k : Nat) (x : Int) (w : World) (hC : RI w vC (natI C)) (hc : RI w vc cs) (hk : k < cs.length) (hCN : ∀ j, j < C.length → C.getD j 0 < cs.length) (hle : cs.length ≤ 1048576) (hCl : C.length ≤ cs.length) (hCp : 0 < C.length) :
    Calls Tryz.prog 167 #[vC, vc, .int .i64 k, .int .i64 x] w (RetI (swK cs C (cs.getD k 0) x C.length) w) := by
  obtain ⟨i0, hi, iz0, iz1, iz2⟩ := info_parts infoInt
  obtain ⟨Ac, cc, rfl, hcc, hmc, hcellc⟩ := hc.form
  obtain ⟨AC, cC, rfl, hcC, hmC, hcellC⟩ := hC.form
  unfold maxLen at hmc hmC
  rw [natI_length] at hcC hmC hcellC ⊢
  obtain ⟨bc, oc, rfl, hbc, hclc⟩ := hcellc (by omega)
  obtain ⟨bC, oC, rfl, hbC, hclC⟩ := hcellC hCp
  have HCC := Lib.hid hclc
  have HCL := Lib.hid hclC
  have HCN := Lib.hid hCN
  have ik1 : (0 : Int) ≤ (k : Int) := by omega
  have ik2 : (k : Int) < (cs.length : Int) := by omega
  have hyk := HCC.out k hk
  have HSK := Lib.hid (fun j => swK_succ cs C (cs.getD k 0) x j)
  have HSL := Lib.hid (fun j => swK_len cs C (cs.getD k 0) x j)
  have HSZ : Hid (swK cs C (cs.getD k 0) x 0 = cs) := Lib.hid rfl
  have HH := Lib.hid hc
  have hb0 : Below w.heap.size w (w.alloc (.cells #[] 3)) := by exact bel_
  generalize cs.getD k 0 = y at *
  clear hcellc hcellC hclc hclC hC hc hCN
  go_enter Tryz.func167, Tryz.ntmps167
  go_wp2_with (at_builtin; refine wpList_append_rs rfl _ _ _ rfl w.heap.size 3 i0 (.int .i64 0) 1 8 Tryz.underlying31 hi iz0 iz1 iz2 rfl (by decide) (.slice (some ⟨w.heap.size, 0, none⟩) 0 0) _ 0 cs.length [] (cs.map vI) rfl rfl (owns_made0 (Nat.le_refl _) rfl) (RI.below HH.out hb0) (one_ints cs) (by omega) (by decide) (by simp) ?_)
  intro A2 c2 w1 ho1 hg1 _
  have hb1 : Below w.heap.size w w1 := hb0.grown hg1 (by simp) (fun q hq => by cases hq; exact Nat.le_refl _)
  have ho1' : OwnI w.heap.size w1 (.slice A2 cs.length c2) cs := by unfold OwnI; simpa using ho1
  obtain ⟨g1, c1, e1, hc1, hgb, hg1l, _⟩ := OwnI.blk ho1' (by omega)
  injection e1 with e1 _ e3
  subst e1
  subst e3
  have hO0 : OwnI w.heap.size w1 (.slice (some ⟨g1, 0, none⟩) cs.length c2) (swK cs C y x 0) := by rw [HSZ.out]; exact ho1'
  clear ho1 hg1 ho1' hb0 i0 hi iz0 iz1 iz2
  go_wp2
  go_loopw [10] (fun t wr => ∃ j : Nat, j ≤ C.length ∧ t = .int .i64 j ∧ OwnI w.heap.size wr (.slice (some ⟨g1, 0, none⟩) cs.length c2) (swK cs C y x j) ∧ Below w.heap.size w wr) (fun t _ => C.length - (intOf t).toNat)
  case atStart => exact ⟨0, Nat.zero_le _, rfl, hO0, hb1⟩
  case round =>
    clear hO0 hb1
    obtain ⟨j, hj, rfl, ho, hB⟩ := hrel
    have hsz := hB.size
    by_cases hlt : j < C.length
    · have hlt1 : (j : Int) < (C.length : Int) := by omega
      have ij1 : (0 : Int) ≤ (j : Int) := by omega
      have q0 := (hB.cell (p := ⟨bC, oC + j, none⟩) hbC).trans (HCL.out j hlt)
      rw [natI_get] at q0
      have hdl := HCN.out j hlt
      have HS := Lib.hid (HSK.out j)
      have hln := HSL.out j
      generalize C.getD j 0 = d at *
      have q1 := (hB.cell (p := ⟨bc, oc + d, none⟩) hbc).trans (HCC.out d hdl)
      have q2 := (hB.cell (p := ⟨bc, oc + k, none⟩) hbc).trans hyk
      have id1 : (0 : Int) ≤ (d : Int) := by omega
      have id2 : (d : Int) < (cs.length : Int) := by omega
      have lbC : bC < wr.heap.size := by omega
      have lbc : bc < wr.heap.size := by omega
      have hx0 := OwnE.cell (t := 3) (enc := vI) ho 0 (q := d) (by omega)
      obtain ⟨zz, hzz⟩ : ∃ z, wr.cell? ⟨g1, d, none⟩ = some z := ⟨_, hx0⟩
      have fz := OwnE.frz (t := 3) (enc := vI) ho d
      have hgl := (OwnI.lt ho g1 rfl).2
      have n1 : ¬ bc = g1 := by omega
      have n2 : ¬ bC = g1 := by omega
      have HO := Lib.hid (fun z => own_set ho d z)
      have HB := Lib.hid (fun z => hB.setCell (p := ⟨g1, d, none⟩) hgb z)
      generalize cs.getD d 0 = c at *
      clear hx0 ho hB hln
      by_cases hcx : c = x
      · have e2 : (c == x) = true := beq_iff_eq.2 hcx
        have HS' := Lib.hid (HS.out.trans (by rw [if_pos hcx]))
        clear hcx
        go_wp2_with fail
        go_region
        all_goals go_wp2
        all_goals go_roundw
        case rel => exact ⟨j + 1, by omega, by go_num, by rw [HS'.out]; exact HO.out y, (HB.out _).drew⟩
        case measure => simp [intOf]; omega
      · have e2 : (c == x) = false := beq_eq_false_iff_ne.2 hcx
        have HS' := Lib.hid (HS.out.trans (by rw [if_neg hcx]))
        clear hcx
        go_wp2
        go_roundw
        case rel => exact ⟨j + 1, by omega, by go_num, by rw [HS'.out]; exact HO.out x, HB.out _⟩
        case measure => simp [intOf]; omega
    · have hjj : j = C.length := by omega
      subst hjj
      go_wp2
      go_ret
      exact ⟨_, rfl, ho, hB⟩
set_option maxHeartbeats 8000000 in
set_option maxRecDepth 100000 in
theorem sSwap_any (vn vl vc : Value) (ns ls : List Pr) (cs : List Int) (f x : Int) (w : World) (hn : RP w vn ns) (hl : RP w vl ls) (hc : RI w vc cs) (hle : cs.length ≤ 1048576) :
    Calls Tryz.prog 93 #[.agg #[vn, vl], vc, .int .i64 f, .int .i64 x] w (RetIB (swapL ns ls cs f x) (swapB ns ls cs f x) w) := by
  have hb0 : Below w.heap.size w (w.alloc (.cells #[vn, vl] 27)) := by exact bel_
  have HCO := Lib.hid (sChainOf_any vn vl vc ns ls cs f x _ (hn.below hb0) (hl.below hb0) (hc.below hb0) hle)
  obtain ⟨i0, hi, iz0, iz1, iz2⟩ := info_parts infoInt
  obtain ⟨Ac, cc, rfl, hcc, hmc, hcellc⟩ := hc.form
  unfold maxLen at hmc
  have HH := Lib.hid hc
  cases hq : chainB ns ls cs f x
  · obtain ⟨hs1, hs2⟩ := swapB_no (.inl hq)
    have HS1 := Lib.hid hs1
    have HS2 := Lib.hid hs2
    have HI := Lib.hid (chainI_no hq)
    clear hs1 hs2 hq hcellc hc
    go_enter Tryz.func93, Tryz.ntmps93
    go_wp2_with fail
    refine HCO.out.mono ?_
    rw [HI.out]
    rintro e w1 ⟨v1, rfl, ho1, hb1⟩
    obtain ⟨A1, c1, rfl⟩ := OwnE.form (t := 3) (enc := vI) ho1
    have hbw1 := hb0.trans (hb1.mono hb0.size)
    have hb2 : Below w1.heap.size w1 (w1.alloc (.cells #[] 3)) := by exact bel_
    have hbw2 := hbw1.trans (hb2.mono hbw1.size)
    clear ho1 hb1 HCO
    go_wp2_with (at_builtin; refine wpList_append_rs rfl _ _ _ rfl w.heap.size 3 i0 (.int .i64 0) 1 8 Tryz.underlying31 hi iz0 iz1 iz2 rfl (by decide) (.slice (some ⟨w1.heap.size, 0, none⟩) 0 0) _ 0 cs.length [] (cs.map vI) rfl rfl (owns_made0 hbw1.size rfl) (RI.below HH.out hbw2) (one_ints cs) (by omega) (by decide) hbw2.size ?_)
    intro A2 c2 w3 ho3 hg3 _
    have HB : Hid (Below w.heap.size w w3) := Lib.hid (hbw2.grown hg3 hbw2.size (fun q hq => by cases hq; exact hbw1.size))
    have HO : Hid (OwnI w.heap.size w3 (.slice A2 (0 + cs.length) c2) cs) := Lib.hid (by unfold OwnI; simpa using ho3)
    clear ho3 hg3
    go_wp2
    exact bodyPost_ret (v := .tuple #[.slice A2 (0 + cs.length) c2, .bool false]) (by simp [results, Tryz.results93, go_sem]) rfl ⟨_, by rw [HS1.out], by rw [HS2.out]; exact HO.out, HB.out⟩
  · have hq' := hq
    unfold chainB at hq'
    rw [Bool.and_eq_true, Bool.and_eq_true] at hq'
    obtain ⟨k, rfl⟩ : ∃ k : Nat, f = k := ⟨f.toNat, by have := inB_true.1 hq'.2.1; omega⟩
    have hk : k < cs.length := by have := inB_true.1 hq'.2.1; omega
    have HI := Lib.hid (chainI_yes hq)
    have hmem := chainW_self (ns := ns) (ls := ls) (x := x) hk
    have hCN : ∀ j, j < (chainW ns ls cs k x).length → (chainW ns ls cs k x).getD j 0 < cs.length := fun j hj => chainW_lt (by rw [List.getD_eq_getElem?_getD, List.getElem?_eq_getElem hj]; exact List.getElem_mem hj)
    have hCl := chainW_len ns ls cs k x
    have hCp : 0 < (chainW ns ls cs k x).length := List.length_pos_of_mem hmem
    have HSW := Lib.hid (fun (vC : Value) (v : World) (hb : Below w.heap.size w v) (hC : RI v vC (natI (chainW ns ls cs k x))) => sSwap_at vC _ cs (chainW ns ls cs k x) k x v hC (hc.below hb) hk hCN hle hCl hCp)
    obtain ⟨bc, oc, rfl, hbc, hclc⟩ := hcellc (by omega)
    have hyk := hclc k hk
    have ik1 : (0 : Int) ≤ (k : Int) := by omega
    have ik2 : (k : Int) < (cs.length : Int) := by omega
    have HNO := Lib.hid (fun h => swapB_no (ns := ns) (ls := ls) (cs := cs) (f := (k : Int)) (x := x) (.inr h))
    have HYE := Lib.hid (fun h => swapB_yes (ns := ns) (ls := ls) (cs := cs) (f := k) (x := x) hq h)
    rw [Int.toNat_natCast] at HNO
    clear hq hq' hc hcellc hclc hn hl hmem hCN
    generalize chainW ns ls cs k x = C at *
    generalize cs.getD k 0 = y at *
    have hCp1 : ((C.length : Int) == 0) = false := beq_eq_false_iff_ne.2 (by omega)
    go_enter Tryz.func93, Tryz.ntmps93
    go_wp2_with fail
    refine HCO.out.mono ?_
    rw [HI.out]
    rintro e w1 ⟨v1, rfl, ho1, hb1⟩
    obtain ⟨A1, c1, rfl⟩ := OwnE.form (t := 3) (enc := vI) ho1
    rw [natI_length] at ho1 ⊢
    have hbw1 := hb0.trans (hb1.mono hb0.size)
    have hr1 := OwnI.reads ho1
    have q1 := (hbw1.cell (p := ⟨bc, oc + k, none⟩) hbc).trans hyk
    have hbc1 : bc < w1.heap.size := Nat.lt_of_lt_of_le hbc hbw1.size
    clear ho1 hb1 HCO hyk
    by_cases hyx : y = x
    · have e1 : (y == x) = true := beq_iff_eq.2 hyx
      obtain ⟨hs1, hs2⟩ := HNO.out hyx
      have HS1 := Lib.hid hs1
      have HS2 := Lib.hid hs2
      have hb2 : Below w1.heap.size w1 (w1.alloc (.cells #[] 3)) := by exact bel_
      have hbw2 := hbw1.trans (hb2.mono hbw1.size)
      clear hs1 hs2 hyx
      go_wp2_with (at_builtin; refine wpList_append_rs rfl _ _ _ rfl w.heap.size 3 i0 (.int .i64 0) 1 8 Tryz.underlying31 hi iz0 iz1 iz2 rfl (by decide) (.slice (some ⟨w1.heap.size, 0, none⟩) 0 0) _ 0 cs.length [] (cs.map vI) rfl rfl (owns_made0 hbw1.size rfl) (RI.below HH.out hbw2) (one_ints cs) (by omega) (by decide) hbw2.size ?_)
      intro A2 c2 w3 ho3 hg3 _
      have HB : Hid (Below w.heap.size w w3) := Lib.hid (hbw2.grown hg3 hbw2.size (fun q hq => by cases hq; exact hbw1.size))
      have HO : Hid (OwnI w.heap.size w3 (.slice A2 (0 + cs.length) c2) cs) := Lib.hid (by unfold OwnI; simpa using ho3)
      clear ho3 hg3
      go_wp2
      exact bodyPost_ret (v := .tuple #[.slice A2 (0 + cs.length) c2, .bool false]) (by simp [results, Tryz.results93, go_sem]) rfl ⟨_, by rw [HS1.out], by rw [HS2.out]; exact HO.out, HB.out⟩
    · have e1 : (y == x) = false := beq_eq_false_iff_ne.2 hyx
      obtain ⟨hs1, hs2⟩ := HYE.out hyx
      have HS1 := Lib.hid hs1
      have HS2 := Lib.hid hs2
      have HC := Lib.hid (HSW.out _ w1 hbw1 hr1)
      clear hs1 hs2 hyx HSW hr1
      go_wp2_with fail
      refine HC.out.mono ?_
      rintro e w3 ⟨v3, rfl, ho3, hb3⟩
      have HB := Lib.hid (hbw1.trans (hb3.mono hbw1.size))
      have HO := Lib.hid (OwnI.mono ho3 hbw1.size)
      clear ho3 hb3 HC
      go_wp2
      exact bodyPost_ret (v := .tuple #[v3, .bool true]) (by simp [results, Tryz.results93, go_sem]) rfl ⟨_, by rw [HS1.out], by rw [HS2.out]; exact HO.out, HB.out⟩
end Go.Proofs.YtnjcpljhmhdhkaaGreat
