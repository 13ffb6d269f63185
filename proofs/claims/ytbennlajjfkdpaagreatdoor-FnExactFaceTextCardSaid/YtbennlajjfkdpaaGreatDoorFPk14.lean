/- part 14 -/
import Derived.Test.YtbennlajjfkdpaaGreatDoorFPk9
import Derived.Test.YtbennlajjfkdpaaGreatDoorFPk13
import Derived.StillTailTactics
set_option linter.unusedSimpArgs false
set_option linter.unusedVariables false
namespace Go.Proofs.YtbennlajjfkdpaaGreatDoor
open Go.RowKit
attribute [local go_sem ↓] run_eqNode run_neNode run_mn2 run_mx2
theorem within_at (n lo hi : Int) (b : Bool) (w : World) (h : inB n lo hi = b) :
    Calls Tryz.prog 44 #[.int .i64 n, .int .i64 lo, .int .i64 hi] w fun e w' => e = .returned (.bool b) ∧ w = w' := by
  subst h; exact within_any n lo hi w
theorem l01In_at (n lo hi : Int) (b : Bool) (w : World) (h : inB n lo hi = b) :
    Calls Tryz.prog 35 #[.int .i64 n, .int .i64 lo, .int .i64 hi] w fun e w' => e = .returned (.bool b) ∧ w = w' := by
  subst h; exact l01In_any n lo hi w
theorem nodesOk_at (v : Value) (l : List Pr) (b : Bool) (w : World) (h : RP w v l) (hb : nodesB l = b) :
    Calls Tryz.prog 60 #[v] w fun e w' => e = .returned (.bool b) ∧ Below w.heap.size w w' := by
  subst hb; exact nodesOk_any v l w h
theorem iLeadOk_at (v : Value) (ns : List Pr) (l : Pr) (b : Bool) (w : World) (h : RP w v ns) (hok : nodesB ns = true) (hb : leadB ns l = b) :
    Calls Tryz.prog 62 #[v, .agg #[.int .i64 l.1, .int .i64 l.2]] w fun e w' => e = .returned (.bool b) ∧ Below w.heap.size w w' := by
  subst hb; exact iLeadOk_any v ns l.1 l.2 w h hok
theorem iCross_at (v : Value) (ns : List Pr) (l m : Pr) (b : Bool) (w : World) (h : RP w v ns) (hok : nodesB ns = true) (hb : crossB ns l m = b) :
    Calls Tryz.prog 63 #[v, .agg #[.int .i64 l.1, .int .i64 l.2], .agg #[.int .i64 m.1, .int .i64 m.2]] w fun e w' => e = .returned (.bool b) ∧ Below w.heap.size w w' := by
  subst hb; exact iCross_any v ns l.1 l.2 m.1 m.2 w h hok
theorem iOnLead_at (v : Value) (ns : List Pr) (l n : Pr) (b : Bool) (w : World) (h : RP w v ns) (hok : nodesB ns = true) (hb : onB ns l n = b) :
    Calls Tryz.prog 64 #[v, .agg #[.int .i64 l.1, .int .i64 l.2], .agg #[.int .i64 n.1, .int .i64 n.2]] w fun e w' => e = .returned (.bool b) ∧ Below w.heap.size w w' := by
  subst hb; exact iOnLead_any v ns l.1 l.2 n.1 n.2 w h hok
theorem dis_mem {ns : List Pr} {k : Nat} (hk : k < ns.length) : ((ndI ns k).1, (ndI ns k).2) ∈ ns.take k ↔ ∃ a : Nat, a < k ∧ sameP (ndI ns a) (ndI ns k) = true := by
  rw [List.mem_iff_getElem]
  constructor
  · rintro ⟨i, hi, h⟩
    rw [List.length_take] at hi
    refine ⟨i, by omega, ?_⟩
    rw [sameP_iff, ndI_nat ns i (by omega)]
    rw [List.getElem_take] at h
    exact h
  · rintro ⟨a, ha, h⟩
    refine ⟨a, by rw [List.length_take]; omega, ?_⟩
    rw [List.getElem_take, ← ndI_nat ns a (by omega)]
    exact sameP_iff.1 h
theorem win_no_size {ns ls : List Pr} (h : ¬ ((1 ≤ ns.length ∧ ns.length ≤ 12) ∧ ls.length ≤ 20)) : winB ns ls = false :=
  winB_false.2 fun hw => h ⟨⟨hw.1, hw.2.1⟩, hw.2.2.1⟩
theorem win_no_nodes {ns ls : List Pr} (h : nodesB ns = false) : winB ns ls = false :=
  winB_false.2 fun hw => by rw [hw.2.2.2.1] at h; cases h
theorem win_no_dis {ns ls : List Pr} {k : Nat} (hk : k < ns.length) (h : ((ndI ns k).1, (ndI ns k).2) ∈ ns.take k) : winB ns ls = false :=
  winB_false.2 fun hw => by
    obtain ⟨a, ha, h⟩ := (dis_mem hk).1 h
    rw [hw.2.2.2.2.1 a k ha hk] at h; cases h
theorem win_no_lead {ns ls : List Pr} {k : Nat} (hk : k < ls.length) (h : leadB ns (ndI ls k) = false) : winB ns ls = false :=
  winB_false.2 fun hw => by rw [(hw.2.2.2.2.2 k hk).1] at h; cases h
theorem win_no_cross {ns ls : List Pr} {k i : Nat} (hk : k < ls.length) (hi : i < k) (h : crossB ns (ndI ls k) (ndI ls i) = true) : winB ns ls = false :=
  winB_false.2 fun hw => by rw [(hw.2.2.2.2.2 k hk).2.1 i hi] at h; cases h
theorem win_no_on {ns ls : List Pr} {k i : Nat} (hk : k < ls.length) (hi : i < ns.length) (h1 : (i : Int) ≠ (ndI ls k).1) (h2 : (i : Int) ≠ (ndI ls k).2) (h : onB ns (ndI ls k) (ndI ns i) = true) : winB ns ls = false :=
  winB_false.2 fun hw => by rw [(hw.2.2.2.2.2 k hk).2.2 i hi h1 h2] at h; cases h
theorem win_yes {ns ls : List Pr} (h1 : (1 ≤ ns.length ∧ ns.length ≤ 12) ∧ ls.length ≤ 20) (h2 : nodesB ns = true) (h3 : Dis ns ns.length) (h4 : ∀ k : Nat, k < ls.length → LdOk ns ls k) : winB ns ls = true :=
  winB_true.2 ⟨h1.1.1, h1.1.2, h1.2, h2, h3, h4⟩
theorem ld_zero (ns ls : List Pr) : ∀ k : Nat, k < 0 → LdOk ns ls k := fun k hk => absurd hk (by omega)
theorem ld_succ {ns ls : List Pr} {m : Nat} (h : ∀ k : Nat, k < m → LdOk ns ls k) (hm : LdOk ns ls m) : ∀ k : Nat, k < m + 1 → LdOk ns ls k := by
  intro k hk
  rcases Nat.lt_succ_iff_lt_or_eq.1 hk with h1 | h1
  · exact h k h1
  · subst h1; exact hm
set_option maxHeartbeats 8000000 in
set_option maxRecDepth 100000 in
theorem iWinOk_any (vn vl : Value) (ns ls : List Pr) (w : World) (hn : RP w vn ns) (hl : RP w vl ls) :
    Calls Tryz.prog 31 #[.agg #[vn, vl]] w fun e w' => e = .returned (.bool (winB ns ls)) ∧ Below w.heap.size w w' := by
  obtain ⟨An, cn, rfl, hcn, hmn, hcelln⟩ := hn.formI
  obtain ⟨Al, cl, rfl, hcl, hml, hcelll⟩ := hl.formI
  unfold maxLen at hmn hml
  by_cases hE : (1 ≤ ns.length ∧ ns.length ≤ 12) ∧ ls.length ≤ 20
  case neg =>
    have HR := Lib.hid (win_no_size hE)
    have HE := Lib.hid hE
    obtain ⟨b, hb⟩ : ∃ b, nodesB ns = b := ⟨_, rfl⟩
    clear hE hcelln hcelll
    by_cases h1 : 1 ≤ ns.length ∧ ns.length ≤ 12
    · have i1 : inB (ns.length : Int) 1 12 = true := inB_true.2 (by omega)
      have i2 : (20 : Int) < (ls.length : Int) := by
        have : ¬ ls.length ≤ 20 := fun h => HE.out ⟨h1, h⟩
        omega
      clear h1
      go_enter Tryz.func31, Tryz.ntmps31
      go_wp2_with (go_at_call 44; refine (within_at _ _ _ _ _ i1).mono ?_; rintro e w' ⟨rfl, rfl⟩)
      go_ret
      exact ⟨ret_bool HR.out.symm, by exact bel_⟩
    · have i1 : inB (ns.length : Int) 1 12 = false := inB_false.2 (by omega)
      clear h1
      go_enter Tryz.func31, Tryz.ntmps31
      go_wp2_with (go_at_call 44; refine (within_at _ _ _ _ _ i1).mono ?_; rintro e w' ⟨rfl, rfl⟩)
      go_ret
      exact ⟨ret_bool HR.out.symm, by exact bel_⟩
  have i1 : inB (ns.length : Int) 1 12 = true := inB_true.2 (by omega)
  have i2 : ¬ (20 : Int) < (ls.length : Int) := by omega
  cases hok : nodesB ns
  · have HR := Lib.hid (win_no_nodes (ls := ls) hok)
    clear hcelln hcelll
    go_enter Tryz.func31, Tryz.ntmps31
    go_wp2_with (go_at_call 44; refine (within_at _ _ _ _ _ i1).mono ?_; rintro e w' ⟨rfl, rfl⟩)
    refine (nodesOk_at _ ns _ _ (hn.below (by exact bel_)) hok).mono ?_
    rintro e w1 ⟨rfl, hb1⟩; (first | (with_reducible have hc1 := bdC hb1) | have hc1 := bcC hb1); (first | (with_reducible have hf1 := bdF hb1) | have hf1 := bcF hb1); have hz1 := hb1.size; (try simp at hz1); (try have hp1_0 := p0_ w w1); (try have hp1_1 := p1_ w w1); (try have hp1_2 := p2_ w w1); (try have hp1_3 := p3_ w w1)
    go_wp2
    go_ret
    exact ⟨ret_bool HR.out.symm, by exact bel_⟩
  have HE := Lib.hid hE
  clear hE
  go_enter Tryz.func31, Tryz.ntmps31
  go_wp2_with (go_at_call 44; refine (within_at _ _ _ _ _ i1).mono ?_; rintro e w' ⟨rfl, rfl⟩)
  refine (nodesOk_at _ ns _ _ (hn.below (by exact bel_)) hok).mono ?_
  rintro e w1 ⟨rfl, hb1⟩; (first | (with_reducible have hc1 := bdC hb1) | have hc1 := bcC hb1); (first | (with_reducible have hf1 := bdF hb1) | have hf1 := bcF hb1); have hz1 := hb1.size; (try simp at hz1); (try have hp1_0 := p0_ w w1); (try have hp1_1 := p1_ w w1); (try have hp1_2 := p2_ w w1); (try have hp1_3 := p3_ w w1)
  have hW1 : Blk w1 w.heap.size 31 #[.slice An ns.length cn, .slice Al ls.length cl] := Blk.below (Blk.newAt rfl) hb1 sz_
  have hbw1 : Below w.heap.size w w1 := by exact bel_
  clear hb1 hc1 hf1 i1
  obtain ⟨a_0, a_1⟩ := hW1.c2
  go_wp2
  go_loopw [31] (fun i wr => ∃ k : Nat, k ≤ ns.length ∧ i = .int .i64 k ∧ Hid (Dis ns k) ∧ Blk wr w.heap.size 31 #[.slice An ns.length cn, .slice Al ls.length cl] ∧ Below w.heap.size w wr) (fun i _ => ns.length - (intOf i).toNat)
  case atStart => exact ⟨0, Nat.zero_le _, rfl, Lib.hid (Dis.zero ns), hW1, hbw1⟩
  case round =>
    obtain ⟨k, hk, rfl, HD, hW, hbl⟩ := hrel
    clear hW1 hbw1 a_0 a_1
    have hsz := hW.lt
    by_cases hlt : k < ns.length
    · obtain ⟨b, off, rfl, hb, hcc⟩ := hcelln (by omega)
      obtain ⟨k0, k1⟩ := hcc k hlt
      have q0 := (hbl.cell (p := ⟨b, off + k * 2, none⟩) hb).trans k0
      have q1 := (hbl.cell (p := ⟨b, off + k * 2 + 1, none⟩) hb).trans k1
      have hT := RP.take hn k hk
      have hi1 : (0 : Int) ≤ (k : Int) := by omega
      have hi2 : (k : Int) < (ns.length : Int) := by omega
      have hi3 : k ≤ cn := by omega
      have hi4 : (k : Int) ≤ (cn : Int) := by omega
      obtain ⟨a_0, a_1⟩ := hW.c2
      have hbr : b < wr.heap.size := by have := hbl.size; omega
      clear k0 k1 hcc hcelln
      by_cases hmem : ((ndI ns k).1, (ndI ns k).2) ∈ ns.take k
      · have HR := Lib.hid (win_no_dis (ls := ls) hlt hmem)
        have hd := decide_eq_true hmem
        go_wp2
        (refine wp_region_quietG (by kernel_rfl) (by kernel_rfl) (fun hG => ?_))
        repeat (go_big_quiet_step ((go_at_call 61; exact quietG (contains_any _ _ _ _ _ _ (RS.grw _ (RP.below hT (by exact bel_))) hd))))
        (refine wpQuiet_nil ?_); (clear hG); (rintro w2 ⟨⟨_, hb2⟩, rfl⟩); (try dsimp only); (first | (with_reducible have hc2 := bdC hb2) | have hc2 := bcC hb2); (first | (with_reducible have hf2 := bdF hb2) | have hf2 := bcF hb2); have hz2 := hb2.size; (try simp at hz2); (try have hp2_0 := p0_ w w2); (try have hp2_1 := p1_ w w2); (try have hp2_2 := p2_ w w2); (try have hp2_3 := p3_ w w2)
        go_wp2
        go_ret
        exact ⟨ret_bool HR.out.symm, by exact bel_⟩
      · have HX : Hid (Dis ns (k + 1)) := Lib.hid (HD.out.succ fun a ha => by
          cases h : sameP (ndI ns a) (ndI ns k)
          · rfl
          · exact absurd ((dis_mem hlt).2 ⟨a, ha, h⟩) hmem)
        have hd := decide_eq_false hmem
        go_wp2
        (refine wp_region_quietG (by kernel_rfl) (by kernel_rfl) (fun hG => ?_))
        repeat (go_big_quiet_step ((go_at_call 61; exact quietG (contains_any _ _ _ _ _ _ (RS.grw _ (RP.below hT (by exact bel_))) hd))))
        (refine wpQuiet_nil ?_); (clear hG); (rintro w2 ⟨⟨_, hb2⟩, rfl⟩); (try dsimp only); (first | (with_reducible have hc2 := bdC hb2) | have hc2 := bcC hb2); (first | (with_reducible have hf2 := bdF hb2) | have hf2 := bcF hb2); have hz2 := hb2.size; (try simp at hz2); (try have hp2_0 := p0_ w w2); (try have hp2_1 := p1_ w w2); (try have hp2_2 := p2_ w w2); (try have hp2_3 := p3_ w w2)
        have hW2 : Blk w2 w.heap.size 31 #[.slice (some ⟨b, off, none⟩) ns.length cn, .slice Al ls.length cl] := Blk.below (hW.alloc _) hb2 sz_
        have hbw2 : Below w.heap.size w w2 := by exact bel_
        go_wp2
        go_roundw
        case rel => exact ⟨k + 1, by omega, by go_num, HX, hW2, hbw2⟩
        case measure => simp [intOf]; omega
    · have hkk : k = ns.length := by omega
      subst hkk
      obtain ⟨a_0, a_1⟩ := hW.c2
      clear hlt
      have HDis := Lib.hid HD.out
      clear HD
      have hbl0 := hbl
      have hW0 := hW
      go_wp2
      go_loopw [46] (fun i wr => ∃ k : Nat, k ≤ ls.length ∧ i = .int .i64 k ∧ Hid (∀ j : Nat, j < k → LdOk ns ls j) ∧ Blk wr w.heap.size 31 #[.slice An ns.length cn, .slice Al ls.length cl] ∧ Below w.heap.size w wr) (fun i _ => ls.length - (intOf i).toNat)
      case atStart => exact ⟨0, Nat.zero_le _, rfl, Lib.hid (ld_zero ns ls), hW0, hbl0⟩
      case round =>
        obtain ⟨k, hk, rfl, HLD, hW, hbl⟩ := hrel
        clear hW0 hbl0 a_0 a_1
        have hsz := hW.lt
        by_cases hlt : k < ls.length
        · obtain ⟨b, off, rfl, hb, hcc⟩ := hcelll (by omega)
          obtain ⟨k0, k1⟩ := hcc k hlt
          have q0 := (hbl.cell (p := ⟨b, off + k * 2, none⟩) hb).trans k0
          have q1 := (hbl.cell (p := ⟨b, off + k * 2 + 1, none⟩) hb).trans k1
          have hi1 : (0 : Int) ≤ (k : Int) := by omega
          have hi2 : (k : Int) < (ls.length : Int) := by omega
          have hi3 : k ≤ cl := by omega
          have hi4 : (k : Int) ≤ (cl : Int) := by omega
          obtain ⟨a_0, a_1⟩ := hW.c2
          have hbr : b < wr.heap.size := by have := hbl.size; omega
          cases hld : leadB ns (ndI ls k)
          · have HR := Lib.hid (win_no_lead hlt hld)
            clear k0 k1 hcc hcelln
            go_wp2_with fail
            refine (iLeadOk_at _ ns (ndI ls k) _ _ (hn.below (by exact bel_)) hok hld).mono ?_
            rintro e w2 ⟨rfl, hb2⟩; (first | (with_reducible have hc2 := bdC hb2) | have hc2 := bcC hb2); (first | (with_reducible have hf2 := bdF hb2) | have hf2 := bcF hb2); have hz2 := hb2.size; (try simp at hz2); (try have hp2_0 := p0_ w w2); (try have hp2_1 := p1_ w w2); (try have hp2_2 := p2_ w w2); (try have hp2_3 := p3_ w w2)
            go_wp2
            go_ret
            exact ⟨ret_bool HR.out.symm, by exact bel_⟩
          · have HLK := Lib.hid hld
            clear k0 k1
            generalize hL : ndI ls (k : Int) = L at *
            have HL := Lib.hid hL
            clear hL
            have hbn : Below w.heap.size w (wr.alloc (.cells #[.int .i64 L.1, .int .i64 L.2] 62)) := by exact bel_
            go_wp2_with fail
            refine (iLeadOk_at _ ns L _ _ (hn.below (by exact bel_)) hok hld).mono ?_
            rintro e w2 ⟨rfl, hb2⟩; (first | (with_reducible have hc2 := bdC hb2) | have hc2 := bcC hb2); (first | (with_reducible have hf2 := bdF hb2) | have hf2 := bcF hb2); have hz2 := hb2.size; (try simp at hz2); (try have hp2_0 := p0_ w w2); (try have hp2_1 := p1_ w w2); (try have hp2_2 := p2_ w w2); (try have hp2_3 := p3_ w w2)
            have hW2 : Blk w2 w.heap.size 31 #[.slice An ns.length cn, .slice (some ⟨b, off, none⟩) ls.length cl] := Blk.below (hW.alloc _) hb2 sz_
            have hL2 : Blk w2 wr.heap.size 62 #[.int .i64 L.1, .int .i64 L.2] := Blk.below (Blk.newAt rfl) hb2 sz_
            have hbw2 : Below w.heap.size w w2 := by exact bel_
            have hnB : ¬ wr.heap.size = w.heap.size := by omega
            generalize wr.heap.size = B5 at *
            clear a_0 a_1 hb2 hc2 hf2 hz2 hbn hW hbl q0 q1
            obtain ⟨a_0, a_1⟩ := hW2.c2
            obtain ⟨x_0, x_1⟩ := hL2.c2
            have hX2 := hW2.lt
            have hY2 := hL2.lt
            go_wp2
            go_loopw [61] (fun i wr => ∃ j : Nat, j ≤ k ∧ i = .int .i64 j ∧ Hid (CrOk ns ls L j) ∧ Blk wr w.heap.size 31 #[.slice An ns.length cn, .slice (some ⟨b, off, none⟩) ls.length cl] ∧ Blk wr B5 62 #[.int .i64 L.1, .int .i64 L.2] ∧ Below w.heap.size w wr) (fun i _ => k - (intOf i).toNat)
            case atStart => exact ⟨0, Nat.zero_le _, rfl, Lib.hid (CrOk.zero ns ls L), hW2, hL2, hbw2⟩
            case round =>
              obtain ⟨j, hj, rfl, HC, hW, hLb, hbl⟩ := hrel
              clear hW2 hL2 hbw2 a_0 a_1 x_0 x_1 hX2 hY2
              have hsz := hW.lt
              have hsz5 := hLb.lt
              obtain ⟨a_0, a_1⟩ := hW.c2
              obtain ⟨x_0, x_1⟩ := hLb.c2
              by_cases hjk : j < k
              · obtain ⟨k0, k1⟩ := hcc j (by omega)
                have q0 := (hbl.cell (p := ⟨b, off + j * 2, none⟩) hb).trans k0
                have q1 := (hbl.cell (p := ⟨b, off + j * 2 + 1, none⟩) hb).trans k1
                have hi5 : (0 : Int) ≤ (j : Int) := by omega
                have hi6 : (j : Int) < (k : Int) := by omega
                have hbj : b < wr.heap.size := by have := hbl.size; omega
                clear k0 k1
                obtain ⟨E, hE⟩ : ∃ E, crossB ns L (ndI ls j) = E := ⟨_, rfl⟩
                have HX : Hid (E = true → winB ns ls = false) := Lib.hid (fun e => win_no_cross hlt hjk (by rw [HL.out, hE, e]))
                have HX2 : Hid (E = false → CrOk ns ls L (j + 1)) := Lib.hid (fun e => HC.out.succ (by rw [hE, e]))
                generalize ndI ls (j : Int) = M at *
                go_wp2_with fail
                refine (iCross_at _ ns L M _ _ (hn.below (by exact bel_)) hok hE).mono ?_
                rintro e w3 ⟨rfl, hb3⟩; (first | (with_reducible have hc3 := bdC hb3) | have hc3 := bcC hb3); (first | (with_reducible have hf3 := bdF hb3) | have hf3 := bcF hb3); have hz3 := hb3.size; (try simp at hz3); (try have hp3_0 := p0_ w w3); (try have hp3_1 := p1_ w w3); (try have hp3_2 := p2_ w w3); (try have hp3_3 := p3_ w w3)
                have hW3 : Blk w3 w.heap.size 31 #[.slice An ns.length cn, .slice (some ⟨b, off, none⟩) ls.length cl] := Blk.below (hW.alloc _) hb3 sz_
                have hL3 : Blk w3 B5 62 #[.int .i64 L.1, .int .i64 L.2] := Blk.below (hLb.alloc _) hb3 sz_
                have hbw3 : Below w.heap.size w w3 := by exact bel_
                clear hb3 hc3 hf3 hz3 hW hLb hbl a_0 a_1 x_0 x_1 q0 q1
                cases E
                · have HY := Lib.hid (HX2.out rfl)
                  go_wp2
                  go_roundw
                  case rel => exact ⟨j + 1, by omega, by go_num, HY, hW3, hL3, hbw3⟩
                  case measure => simp [intOf]; omega
                · have HY := Lib.hid (HX.out rfl)
                  go_wp2
                  go_ret
                  exact ⟨ret_bool HY.out.symm, hbw3⟩
              · have hjj : j = k := by omega
                subst hjj
                have HCR := Lib.hid HC.out
                have hW0 := hW
                have hL0 := hLb
                have hbl0 := hbl
                clear HC hjk
                go_wp2
                go_loopw [74] (fun i wr => ∃ m : Nat, m ≤ ns.length ∧ i = .int .i64 m ∧ Hid (OnOk ns L m) ∧ Blk wr w.heap.size 31 #[.slice An ns.length cn, .slice (some ⟨b, off, none⟩) ls.length cl] ∧ Blk wr B5 62 #[.int .i64 L.1, .int .i64 L.2] ∧ Below w.heap.size w wr) (fun i _ => ns.length - (intOf i).toNat)
                case atStart => exact ⟨0, Nat.zero_le _, rfl, Lib.hid (OnOk.zero ns L), hW0, hL0, hbl0⟩
                case round =>
                  obtain ⟨m, hm, rfl, HO, hW, hLb, hbl⟩ := hrel
                  clear hW0 hL0 hbl0 a_0 a_1 x_0 x_1 hsz hsz5
                  have hsz := hW.lt
                  have hsz5 := hLb.lt
                  obtain ⟨a_0, a_1⟩ := hW.c2
                  obtain ⟨x_0, x_1⟩ := hLb.c2
                  by_cases hmn2 : m < ns.length
                  · obtain ⟨bn, offn, rfl, hbn, hcn2⟩ := hcelln (by omega)
                    obtain ⟨k0, k1⟩ := hcn2 m hmn2
                    have q0 := (hbl.cell (p := ⟨bn, offn + m * 2, none⟩) hbn).trans k0
                    have q1 := (hbl.cell (p := ⟨bn, offn + m * 2 + 1, none⟩) hbn).trans k1
                    have hi5 : (0 : Int) ≤ (m : Int) := by omega
                    have hi6 : (m : Int) < (ns.length : Int) := by omega
                    have hbj : bn < wr.heap.size := by have := hbl.size; omega
                    clear k0 k1 hcn2 hcelln
                    by_cases h1 : (m : Int) = L.1
                    · have HY : Hid (OnOk ns L (m + 1)) := Lib.hid (HO.out.succ (fun h _ => absurd h1 h))
                      have hbw3 : Below w.heap.size w (wr.alloc (.cells #[.int .i64 (ndI ns m).1, .int .i64 (ndI ns m).2] 47)) := by exact bel_
                      have e1 : ((m : Int) != L.1) = false := by simp [h1]
                      have H1 := Lib.hid h1
                      clear h1
                      go_wp2
                      go_roundw
                      case rel => exact ⟨m + 1, by omega, by go_num, HY, hW.alloc _, hLb.alloc _, hbw3⟩
                      case measure => simp [intOf]; omega
                    · have e1 : ((m : Int) != L.1) = true := by simp [h1]
                      have H1 := Lib.hid h1
                      clear h1
                      by_cases h2 : (m : Int) = L.2
                      · have HY : Hid (OnOk ns L (m + 1)) := Lib.hid (HO.out.succ (fun _ h => absurd h2 h))
                        have hbw3 : Below w.heap.size w (wr.alloc (.cells #[.int .i64 (ndI ns m).1, .int .i64 (ndI ns m).2] 47)) := by exact bel_
                        have e2 : ((m : Int) != L.2) = false := by simp [h2]
                        have H2 := Lib.hid h2
                        clear h2
                        go_wp2
                        go_roundw
                        case rel => exact ⟨m + 1, by omega, by go_num, HY, hW.alloc _, hLb.alloc _, hbw3⟩
                        case measure => simp [intOf]; omega
                      · have e2 : ((m : Int) != L.2) = true := by simp [h2]
                        have H2 := Lib.hid h2
                        clear h2
                        obtain ⟨E, hE⟩ : ∃ E, onB ns L (ndI ns m) = E := ⟨_, rfl⟩
                        have HX : Hid (E = true → winB ns ls = false) := Lib.hid (fun e => win_no_on hlt hmn2 (by rw [HL.out]; exact H1.out) (by rw [HL.out]; exact H2.out) (by rw [HL.out, hE, e]))
                        have HX2 : Hid (E = false → OnOk ns L (m + 1)) := Lib.hid (fun e => HO.out.succ (fun _ _ => by rw [hE, e]))
                        generalize ndI ns (m : Int) = M at *
                        go_wp2_with fail
                        refine (iOnLead_at _ ns L M _ _ (hn.below (by exact bel_)) hok hE).mono ?_
                        rintro e w3 ⟨rfl, hb3⟩; (first | (with_reducible have hc3 := bdC hb3) | have hc3 := bcC hb3); (first | (with_reducible have hf3 := bdF hb3) | have hf3 := bcF hb3); have hz3 := hb3.size; (try simp at hz3); (try have hp3_0 := p0_ w w3); (try have hp3_1 := p1_ w w3); (try have hp3_2 := p2_ w w3); (try have hp3_3 := p3_ w w3)
                        have hW3 : Blk w3 w.heap.size 31 #[.slice (some ⟨bn, offn, none⟩) ns.length cn, .slice (some ⟨b, off, none⟩) ls.length cl] := Blk.below (hW.alloc _) hb3 sz_
                        have hL3 : Blk w3 B5 62 #[.int .i64 L.1, .int .i64 L.2] := Blk.below (hLb.alloc _) hb3 sz_
                        have hbw3 : Below w.heap.size w w3 := by exact bel_
                        clear hb3 hc3 hf3 hz3 hW hLb hbl a_0 a_1 x_0 x_1 q0 q1
                        cases E
                        · have HY := Lib.hid (HX2.out rfl)
                          go_wp2
                          go_roundw
                          case rel => exact ⟨m + 1, by omega, by go_num, HY, hW3, hL3, hbw3⟩
                          case measure => simp [intOf]; omega
                        · have HY := Lib.hid (HX.out rfl)
                          go_wp2
                          go_ret
                          exact ⟨ret_bool HY.out.symm, hbw3⟩
                  · have hmm : m = ns.length := by omega
                    subst hmm
                    have HY : Hid (∀ i : Nat, i < j + 1 → LdOk ns ls i) := Lib.hid (ld_succ HLD.out ⟨by rw [HL.out]; exact HLK.out, by rw [HL.out]; exact HCR.out, by rw [HL.out]; exact HO.out⟩)
                    clear hcelln
                    go_wp2
                    go_roundw
                    case rel => exact ⟨j + 1, by omega, by go_num, HY, hW, hbl⟩
                    case measure => simp [intOf]; omega
        · have hkk : k = ls.length := by omega
          subst hkk
          have HR := Lib.hid (win_yes HE.out hok HDis.out HLD.out)
          clear hlt hcelln hcelll
          go_wp2
          go_ret
          exact ⟨ret_bool HR.out.symm, hbl⟩
end Go.Proofs.YtbennlajjfkdpaaGreatDoor
