/- part 29 -/
import Derived.Test.YtbennlajjfkdpaaGreatDoorFPk23
import Derived.Test.YtbennlajjfkdpaaGreatDoorFPk28
set_option linter.unusedSimpArgs false
set_option linter.unusedVariables false
namespace Go.Proofs.YtbennlajjfkdpaaGreatDoor
open Go.RowKit
theorem memS_end {s m i : Nat} (hm : i ≤ m) (h : s / 2 ^ i = 0) : memS s m = memS s i := by
  have hp : 0 < 2 ^ i := Nat.two_pow_pos i
  have hlt : s < 2 ^ i := by
    rcases Nat.lt_or_ge s (2 ^ i) with h1 | h1
    · exact h1
    · have := Nat.div_pos h1 hp
      omega
  have := memS_more hlt (m - i)
  rw [show i + (m - i) = m by omega] at this
  exact this
theorem shl64 {k : Nat} (hk : k < 62) : wrap64 ((2 : Int) ^ k) = ((2 ^ k : Nat) : Int) := by
  have h := shl_one hk
  rw [Int.one_mul] at h
  have e : wrap64 ((2 : Int) ^ k) = IntKind.i64.wrap ((2 : Int) ^ k) := (IntWalk.i64_left _).symm
  rw [e]
  exact h
theorem addS_no {s : Nat} {l : Pr} {p q : Nat} (h1 : l.1 = p) (h2 : l.2 = q) (hb : (s.testBit p || s.testBit q) = false) : addS s l = s := by
  unfold addS; rw [h1, h2, Int.toNat_natCast, Int.toNat_natCast, hb]; rfl
theorem addS_yes {s : Nat} {l : Pr} {p q : Nat} (h1 : l.1 = p) (h2 : l.2 = q) (hb : (s.testBit p || s.testBit q) = true) : addS s l = s ||| (2 ^ p ||| 2 ^ q) := by
  unfold addS; rw [h1, h2, Int.toNat_natCast, Int.toNat_natCast, hb]; rfl
theorem roundS_succ (t : Nat) {ls : List Pr} {i : Nat} (h : i < ls.length) : roundS t (ls.take (i + 1)) = addS (roundS t (ls.take i)) (ndI ls i) := by
  rw [List.take_succ_eq_append_getElem h, roundS_append, ndI_nat ls i h]; rfl
theorem div_full {s m : Nat} (h : s < 2 ^ m) : s / 2 ^ m = 0 := Nat.div_eq_of_lt h
set_option maxHeartbeats 4000000 in
set_option maxRecDepth 100000 in
theorem iMembers_any (s m : Nat) (w : World) (hs : s < 2 ^ m) (hm : m ≤ 40) :
    Calls Tryz.prog 103 #[.int .i64 s] w (RetI (natI (memS s m)) w) := by
  obtain ⟨i0, hi, iz0, iz1, iz2⟩ := info_parts infoInt
  have hs62 : s < 2 ^ 62 := Nat.lt_of_lt_of_le hs (Nat.pow_le_pow_right (by omega) (by omega))
  have HB := Lib.hid (fun k => bit_test (k := k) hs62)
  have HD := Lib.hid (div_full hs)
  have HME := Lib.hid (fun i (h1 : i ≤ m) h2 => memS_end (s := s) h1 h2)
  have HY := Lib.hid (fun i h => memS_succ_yes (s := s) (m := i) h)
  have HN := Lib.hid (fun i h => memS_succ_no (s := s) (m := i) h)
  have HL := Lib.hid (fun i => memS_le s i)
  clear hs
  go_enter Tryz.func103, Tryz.ntmps103
  go_wp2
  go_loopw [3, 4] (fun v x wr => ∃ i : Nat, i ≤ m ∧ x = .int .i64 i ∧ OwnI w.heap.size wr v (natI (memS s i)) ∧ Below w.heap.size w wr) (fun _ x _ => m - (intOf x).toNat)
  case atStart => exact ⟨0, Nat.zero_le _, rfl, OwnI.nil _ _, by exact bel_⟩
  case round =>
    obtain ⟨i, him, rfl, ho, hbl⟩ := hrel
    have hsz := hbl.size
    have hbt := HB.out i
    have HLI := HL.out i
    have h0 : i < 64 := by omega
    have HZ : Hid ((0 : Int) < (s : Int) / 2 ^ i ↔ s / 2 ^ i ≠ 0) := Lib.hid (by
      have e : ((s : Int) / 2 ^ i) = ((s / 2 ^ i : Nat) : Int) := by (rw [Int.natCast_ediv]; rfl)
      rw [e]
      generalize s / 2 ^ i = q
      omega)
    by_cases hz : (0 : Int) < (s : Int) / 2 ^ i
    · have hne := HZ.out.1 hz
      have him2 : i < m := by
        rcases Nat.lt_or_ge i m with h | h
        · exact h
        · have : i = m := by omega
          subst this
          exact absurd HD.out hne
      clear hne
      cases hb : s.testBit i
      · rw [hb] at hbt
        have hbt' : bits .and .i64 ((s : Int) / 2 ^ i) 1 = 0 := hbt
        have HS := Lib.hid (HN.out i hb)
        clear hb hbt
        go_wp2
        go_roundw
        case rel => exact ⟨i + 1, by omega, by go_num, by rw [HS.out]; exact ho, hbl⟩
        case measure => simp [intOf]; omega
      · rw [hb] at hbt
        have hbt' : bits .and .i64 ((s : Int) / 2 ^ i) 1 = 1 := hbt
        have HS : Hid (natI (memS s (i + 1)) = natI (memS s i) ++ [(i : Int)]) := Lib.hid (by rw [HY.out i hb]; simp [natI])
        have HGL := Lib.hid (natI_length (memS s i))
        clear hb hbt
        generalize memS s i = G at *
        go_wp2_with (at_builtin; refine wpList_append_own _ rfl _ _ 42 rfl (w.heap.size) 3 i0 (.int .i64 0) 1 8 Tryz.underlying42 hi iz0 iz1 iz2 rfl (by decide) _ _ _ rfl (World.ownsRow.alloc ho _) ⟨wr.heap.size, 0, none⟩ 1 1 [.int .i64 _] rfl rfl (cell_one_at (by simp)) (by intro u hu; simp at hu; subst hu; rfl) (by rw [HGL.out]; unfold maxLen; omega) (by rw [HGL.out]; omega) (by simp; omega) ?_)
        intro v2 w2 hown2 hg2 hne2
        have hbl2 : Below w.heap.size w w2 := (hbl.alloc hsz (.cells #[.int .i64 (i : Int)] 3)).grown hg2 (by simp; omega) (fun k hk => (ho.lt k hk).1)
        have HO := Lib.hid (OwnI.snoc hown2)
        clear hown2 hg2 ho hbl hne2
        go_wp2
        go_roundw
        case rel => exact ⟨i + 1, by omega, by go_num, by rw [HS.out]; exact HO.out, hbl2⟩
        case measure => simp [intOf]; omega
    · have h2 : s / 2 ^ i = 0 := by
        apply Classical.byContradiction
        intro h
        exact hz (HZ.out.2 h)
      have HR := Lib.hid (HME.out i him h2)
      clear h2 hbt
      go_wp2
      go_ret
      exact ⟨_, rfl, by rw [HR.out]; exact ho, hbl⟩
set_option maxHeartbeats 8000000 in
set_option maxRecDepth 100000 in
theorem iPartOf_any (vn vl : Value) (ns ls : List Pr) (k : Nat) (w : World) (hn : RP w vn ns) (hl : RP w vl ls) (hk : k < ns.length) (hn12 : ns.length ≤ 12) (hm20 : ls.length ≤ 20) (hld : ∀ j : Nat, j < ls.length → leadB ns (ndI ls j) = true) :
    Calls Tryz.prog 90 #[.agg #[vn, vl], .int .i64 k] w (RetI (natI (memS (roundsS (2 ^ k) ls ns.length) ns.length)) w) := by
  obtain ⟨An, cn, rfl, hcn, hmn, _⟩ := hn.formI
  obtain ⟨Al, cl, rfl, hcl, hml, hcell⟩ := hl.formI
  unfold maxLen at hmn hml
  have hends : ∀ l ∈ ls, l.1.toNat < ns.length ∧ l.2.toNat < ns.length := by
    intro l hm
    obtain ⟨j, hj, e⟩ := List.getElem_of_mem hm
    obtain ⟨h1, h2, h3, _⟩ := leadB_iff.1 (hld j hj)
    rw [ndI_nat ls j hj, e] at h1 h2 h3
    omega
  have h2k : 2 ^ k < 2 ^ ns.length := Nat.pow_lt_pow_right (by omega) hk
  have HLT := Lib.hid (fun j => roundsS_lt (ls := ls) h2k hends j)
  have HRL := Lib.hid (fun (t : Nat) (i : Nat) (ht : t < 2 ^ ns.length) => roundS_lt (ls.take i) t ht (fun l hm => hends l (List.mem_of_mem_take hm)))
  have h12 : (2 : Nat) ^ ns.length ≤ 2 ^ 12 := Nat.pow_le_pow_right (by omega) hn12
  have HLD := Lib.hid hld
  have HCELL := Lib.hid hcell
  have x0 := shl64 (k := k) (by omega)
  have hk64 : k < 64 := by omega
  clear hld hcell hends
  generalize hB : (2 : Nat) ^ ns.length = B at *
  have HBE := Lib.hid hB
  clear hB
  go_enter Tryz.func90, Tryz.ntmps90
  go_wp2
  go_loopw [5, 13] (fun t x wr => ∃ j : Nat, j ≤ ns.length ∧ x = .int .i64 j ∧ t = .int .i64 (roundsS (2 ^ k) ls j) ∧ Blk wr w.heap.size 31 #[.slice An ns.length cn, .slice Al ls.length cl] ∧ Below w.heap.size w wr) (fun _ x _ => ns.length - (intOf x).toNat)
  case atStart => exact ⟨0, Nat.zero_le _, rfl, by rw [x0]; rfl, Blk.newAt rfl, by exact bel_⟩
  case round =>
    clear x0
    obtain ⟨j, hj, rfl, rfl, hW, hbl⟩ := hrel
    have hsz := hW.lt
    obtain ⟨a_0, a_1⟩ := hW.c2
    by_cases hjn : j < ns.length
    · have HTB := Lib.hid (HLT.out j)
      have HTS : Hid (roundsS (2 ^ k) ls (j + 1) = roundS (roundsS (2 ^ k) ls j) ls) := Lib.hid rfl
      have HT0 : Hid (roundS (roundsS (2 ^ k) ls j) (ls.take 0) = roundsS (2 ^ k) ls j) := Lib.hid rfl
      generalize roundsS (2 ^ k) ls j = T at *
      go_wp2
      go_loopw [5, 18] (fun t x wr => ∃ i : Nat, i ≤ ls.length ∧ x = .int .i64 i ∧ t = .int .i64 (roundS T (ls.take i)) ∧ Blk wr w.heap.size 31 #[.slice An ns.length cn, .slice Al ls.length cl] ∧ Below w.heap.size w wr) (fun _ x _ => ls.length - (intOf x).toNat)
      case atStart => exact ⟨0, Nat.zero_le _, rfl, by rw [HT0.out], hW, hbl⟩
      case round =>
        clear hW hbl hsz a_0 a_1
        obtain ⟨i, hi, rfl, rfl, hW, hbl⟩ := hrel
        have hsz := hW.lt
        obtain ⟨a_0, a_1⟩ := hW.c2
        by_cases hil : i < ls.length
        · obtain ⟨b, off, rfl, hb, hcl⟩ := HCELL.out (by omega)
          obtain ⟨k0, k1⟩ := hcl i hil
          have q0 := (hbl.cell (p := ⟨b, off + i * 2, none⟩) hb).trans k0
          have q1 := (hbl.cell (p := ⟨b, off + i * 2 + 1, none⟩) hb).trans k1
          obtain ⟨h1, h2, h3, _⟩ := leadB_iff.1 (HLD.out i hil)
          obtain ⟨p, hp⟩ : ∃ p : Nat, (ndI ls i).1 = p := ⟨(ndI ls i).1.toNat, by omega⟩
          obtain ⟨q, hq⟩ : ∃ q : Nat, (ndI ls i).2 = q := ⟨(ndI ls i).2.toNat, by omega⟩
          have HS := Lib.hid (roundS_succ T hil)
          have HSB := Lib.hid (HRL.out T i HTB.out)
          have HAN := Lib.hid (fun s hb => addS_no (s := s) hp hq hb)
          have HAY := Lib.hid (fun s hb => addS_yes (s := s) hp hq hb)
          rw [hp] at q0
          rw [hq] at q1
          have hp12 : p < 12 := by omega
          have hq12 : q < 12 := by omega
          have hp64 : p < 64 := by omega
          have hq64 : q < 64 := by omega
          have ii1 : (0 : Int) ≤ (i : Int) := by omega
          have ii2 : (i : Int) < (ls.length : Int) := by omega
          generalize roundS T (ls.take i) = s at *
          have hs12 : s < 2 ^ 12 := by have := HSB.out; omega
          have bp := bit_test (s := s) (k := p) (by omega)
          have bq := bit_test (s := s) (k := q) (by omega)
          have xp := shl64 (k := p) (by omega)
          have xq := shl64 (k := q) (by omega)
          have Pp : 2 ^ p < 2 ^ 12 := Nat.pow_lt_pow_right (by omega) hp12
          have Pq : 2 ^ q < 2 ^ 12 := Nat.pow_lt_pow_right (by omega) hq12
          have o1 := bits_or_nat (a := 2 ^ p) (b := 2 ^ q) (by omega) (by omega)
          have Po : 2 ^ p ||| 2 ^ q < 2 ^ 12 := Nat.or_lt_two_pow Pp Pq
          have o2 := bits_or_nat (a := s) (b := 2 ^ p ||| 2 ^ q) (by omega) (by omega)
          clear hcl k0 k1 hp hq h1 h2 h3 Pp Pq Po
          have hbl2 : Below w.heap.size w (wr.alloc (.cells #[.int .i64 p, .int .i64 q] 62)) := by exact bel_
          have hW2 := hW.alloc (.cells #[.int .i64 p, .int .i64 q] 62)
          cases hor : s.testBit p || s.testBit q
          · have HX := Lib.hid (HAN.out s hor)
            rw [Bool.or_eq_false_iff] at hor
            rw [hor.1] at bp
            rw [hor.2] at bq
            have bp' : bits .and .i64 ((s : Int) / 2 ^ p) 1 = 0 := bp
            have bq' : bits .and .i64 ((s : Int) / 2 ^ q) 1 = 0 := bq
            clear bp bq hor o1 o2 xp xq hW hbl
            go_wp2
            go_roundw
            case rel => exact ⟨i + 1, by omega, by go_num, by rw [HS.out, HX.out], hW2, hbl2⟩
            case measure => simp [intOf]; omega
          · have HX := Lib.hid (HAY.out s hor)
            cases hb1 : s.testBit p
            · rw [hb1, Bool.false_or] at hor
              rw [hb1] at bp
              rw [hor] at bq
              have bp' : bits .and .i64 ((s : Int) / 2 ^ p) 1 = 0 := bp
              have bq' : bits .and .i64 ((s : Int) / 2 ^ q) 1 = 1 := bq
              clear bp bq hor hb1 hW hbl
              generalize hO : s ||| (2 ^ p ||| 2 ^ q) = O at *
              generalize (2 ^ p ||| 2 ^ q) = O1 at *
              generalize hP : ((2 ^ p : Nat) : Int) = P at *
              generalize hQ : ((2 ^ q : Nat) : Int) = QQ at *
              clear hP hQ hO
              go_wp2
              go_quiet (fail)
              go_wp2
              go_roundw
              case rel => exact ⟨i + 1, by omega, by go_num, by rw [HS.out, HX.out], hW2, below_drewN hbl2 _⟩
              case measure => simp [intOf]; omega
            · rw [hb1] at bp
              have bp' : bits .and .i64 ((s : Int) / 2 ^ p) 1 = 1 := bp
              clear bp bq hor hb1 hW hbl
              generalize hO : s ||| (2 ^ p ||| 2 ^ q) = O at *
              generalize (2 ^ p ||| 2 ^ q) = O1 at *
              generalize hP : ((2 ^ p : Nat) : Int) = P at *
              generalize hQ : ((2 ^ q : Nat) : Int) = QQ at *
              clear hP hQ hO
              go_wp2
              go_quiet (fail)
              go_wp2
              go_roundw
              case rel => exact ⟨i + 1, by omega, by go_num, by rw [HS.out, HX.out], hW2, below_drewN hbl2 _⟩
              case measure => simp [intOf]; omega
        · have hii : i = ls.length := by omega
          subst hii
          have HX : Hid (roundS T (ls.take ls.length) = roundS T ls) := Lib.hid (by rw [List.take_length])
          rw [HX.out]
          go_wp2
          go_roundw
          case rel => exact ⟨j + 1, by omega, by go_num, by rw [HTS.out], hW, hbl⟩
          case measure => simp [intOf]; omega
    · have hjj : j = ns.length := by omega
      subst hjj
      have hlt := HLT.out ns.length
      rw [← HBE.out] at hlt
      have HM := Lib.hid (fun (v : World) => iMembers_any (roundsS (2 ^ k) ls ns.length) ns.length v hlt (by omega))
      clear hlt
      generalize roundsS (2 ^ k) ls ns.length = R at *
      go_wp2_with fail
      refine (HM.out _).mono ?_
      rintro e w1 ⟨v1, rfl, ho1, hb1⟩
      go_wp2
      go_ret
      exact ⟨_, rfl, ho1.mono (by omega), hbl.trans (hb1.mono hbl.size)⟩
theorem ends_in {ns ls : List Pr} (hld : ∀ j : Nat, j < ls.length → leadB ns (ndI ls j) = true) : EndsIn ns.length ls := by
  intro j hj
  obtain ⟨h1, h2, h3, _⟩ := leadB_iff.1 (hld j hj)
  exact ⟨(ndI ls j).1.toNat, (ndI ls j).2.toNat, by omega, by omega, by omega, by omega⟩
set_option maxHeartbeats 4000000 in
set_option maxRecDepth 100000 in
theorem iWhole_any (vn vl : Value) (ns ls : List Pr) (w : World) (hn : RP w vn ns) (hl : RP w vl ls) :
    Calls Tryz.prog 70 #[.agg #[vn, vl]] w fun e w' => e = .returned (.bool (wholeB ns ls)) ∧ Below w.heap.size w w' := by
  obtain ⟨An, cn, rfl, hcn, hmn, _⟩ := hn.formI
  obtain ⟨Al, cl, rfl, hcl, hml, _⟩ := hl.formI
  unfold maxLen at hmn hml
  have hb0 : Below w.heap.size w (w.alloc (.cells #[.slice An ns.length cn, .slice Al ls.length cl] 31)) := by exact bel_
  have hn0 := hn.below hb0
  have hl0 := hl.below hb0
  cases hw : winB ns ls
  · have HR : Hid (wholeB ns ls = false) := Lib.hid (by simp [wholeB, hw])
    have HC := Lib.hid (fun (v : World) (h1 : RP v (.slice An ns.length cn) ns) (h2 : RP v (.slice Al ls.length cl) ls) => iWinOk_at _ _ ns ls _ v h1 h2 hw)
    clear hw
    go_enter Tryz.func70, Tryz.ntmps70
    go_wp2_with fail
    (refine wp_region_quietG (by kernel_rfl) (by kernel_rfl) (fun hG => ?_))
    repeat (go_big_quiet_step ((go_at_call 31; exact quietG (HC.out _ (RS.grw _ hn0) (RS.grw _ hl0)))))
    (refine wpQuiet_nil ?_); (clear hG); (rintro w3 ⟨⟨_, hb3⟩, rfl⟩); (try dsimp only); (first | (with_reducible have hc3 := bdC hb3) | have hc3 := bcC hb3); (first | (with_reducible have hf3 := bdF hb3) | have hf3 := bcF hb3); have hz3 := hb3.size; (try simp at hz3); (try have hp3_0 := p0_ w w3); (try have hp3_1 := p1_ w w3); (try have hp3_2 := p2_ w w3); (try have hp3_3 := p3_ w w3)
    go_wp2
    go_ret
    exact ⟨ret_bool HR.out.symm, by exact bel_⟩
  · have HC := Lib.hid (fun (v : World) (h1 : RP v (.slice An ns.length cn) ns) (h2 : RP v (.slice Al ls.length cl) ls) => iWinOk_at _ _ ns ls _ v h1 h2 hw)
    by_cases h0 : ls.length = 0
    · have HR : Hid (wholeB ns ls = false) := Lib.hid (by simp [wholeB, hw, h0])
      have e1 : decide ((0 : Int) < (ls.length : Int)) = false := by simp [h0]
      have e2 : ¬ (0 : Int) < (ls.length : Int) := by omega
      have e3 : decide (0 < ls.length) = false := by simp [h0]
      have e4 : ¬ 0 < ls.length := by omega
      clear hw h0
      go_enter Tryz.func70, Tryz.ntmps70
      go_wp2_with fail
      (refine wp_region_quietG (by kernel_rfl) (by kernel_rfl) (fun hG => ?_))
      repeat (go_big_quiet_step ((go_at_call 31; exact quietG (HC.out _ (RS.grw _ hn0) (RS.grw _ hl0)))))
      (refine wpQuiet_nil ?_); (clear hG); (rintro w3 ⟨⟨_, hb3⟩, rfl⟩); (try dsimp only); (first | (with_reducible have hc3 := bdC hb3) | have hc3 := bcC hb3); (first | (with_reducible have hf3 := bdF hb3) | have hf3 := bcF hb3); have hz3 := hb3.size; (try simp at hz3); (try have hp3_0 := p0_ w w3); (try have hp3_1 := p1_ w w3); (try have hp3_2 := p2_ w w3); (try have hp3_3 := p3_ w w3)
      go_wp2
      go_ret
      exact ⟨ret_bool HR.out.symm, by exact bel_⟩
    · have hok := winB_true.1 hw
      have hld : ∀ j : Nat, j < ls.length → leadB ns (ndI ls j) = true := fun j hj => (hok.2.2.2.2.2 j hj).1
      have hn1 := hok.1
      have hws := whole_set (ends_in hld) hok.1
      have HP := Lib.hid (fun (v : World) (h1 : RP v (.slice An ns.length cn) ns) (h2 : RP v (.slice Al ls.length cl) ls) => iPartOf_any _ _ ns ls 0 v h1 h2 hok.1 hok.2.1 hok.2.2.1 hld)
      have e0 : (2 : Nat) ^ 0 = 1 := rfl
      rw [e0] at HP
      have e2 : (0 : Int) < (ls.length : Int) := by omega
      have e1 : decide ((0 : Int) < (ls.length : Int)) = true := by simp; omega
      have e3 : decide (0 < ls.length) = true := by simp; omega
      have e4 : 0 < ls.length := by omega
      generalize memS (roundsS 1 ls ns.length) ns.length = G at *
      have HR : Hid (wholeB ns ls = ((G.length : Int) == (ns.length : Int))) := Lib.hid (by
        unfold wholeB
        rw [hw]
        have h1 : decide (0 < ls.length) = true := by simp; omega
        rw [h1, Bool.true_and, Bool.true_and]
        cases hq : (partsK ns.length ls ls.length).all (· == 0)
        · have : ¬ G.length = ns.length := fun h => by rw [hws.1 h] at hq; cases hq
          symm; simp; omega
        · have := hws.2 hq
          symm; simp; omega)
      have HN0 := Lib.hid hn0
      have HL0 := Lib.hid hl0
      clear hw h0 hok hld hws hn1 hn0 hl0 e0
      go_enter Tryz.func70, Tryz.ntmps70
      go_wp2_with fail
      go_region_held3 (fun w' => w'.cell? ⟨w.heap.size, 0, none⟩ = some (.slice An ns.length cn) ∧ w'.cell? ⟨w.heap.size, 1, none⟩ = some (.slice Al ls.length cl))
        (go_keep)
        (first | (go_at_call 31; refine (HC.out _ (hn.below (by exact bel_)) (hl.below (by exact bel_))).mono ?_; rintro e w1 ⟨rfl, hb1⟩; (first | (with_reducible have hc1 := bdC hb1) | have hc1 := bcC hb1); (first | (with_reducible have hf1 := bdF hb1) | have hf1 := bcF hb1); have hz1 := hb1.size; (try simp at hz1); (try have hp1_0 := p0_ w w1); (try have hp1_1 := p1_ w w1); (try have hp1_2 := p2_ w w1); (try have hp1_3 := p3_ w w1); have hbw1 : Below w.heap.size w w1 := (by exact bel_)) | (go_at_call 90; refine (HP.out _ (hn.below (by exact bel_)) (hl.below (by exact bel_))).mono ?_; rintro e w2 ⟨v2, rfl, ho2, hb2⟩; obtain ⟨A2, c2, rfl⟩ := ho2.form; (first | (with_reducible have hc2 := bdC hb2) | have hc2 := bcC hb2); (first | (with_reducible have hf2 := bdF hb2) | have hf2 := bcF hb2); have hz2 := hb2.size; (try simp at hz2); (try have hp2_0 := p0_ w w2); (try have hp2_1 := p1_ w w2); (try have hp2_2 := p2_ w w2); (try have hp2_3 := p3_ w w2)))
      rw [natI_length]
      go_wp2
      go_ret
      exact ⟨ret_bool HR.out.symm, by exact bel_⟩
end Go.Proofs.YtbennlajjfkdpaaGreatDoor
