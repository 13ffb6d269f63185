/- part 15 -/
import Derived.Test.YtbennlajjfkdpaaGreatDoorFPk14
set_option linter.unusedSimpArgs false
set_option linter.unusedVariables false
namespace Go.Proofs.YtbennlajjfkdpaaGreatDoor
open Go.RowKit
attribute [local go_sem ↓] run_eqNode run_neNode run_mn2 run_mx2
theorem sNodeP_at (p : Pr) (b : Bool) (w : World) (h : nodeP p = b) :
    Calls Tryz.prog 77 #[.agg #[.int .i64 p.1, .int .i64 p.2]] w fun e w' => e = .returned (.bool b) ∧ Below w.heap.size w w' := sNodeOk_at p.1 p.2 b w h
theorem sLeadOk_at (v : Value) (ns : List Pr) (l : Pr) (b : Bool) (w : World) (h : RP w v ns) (hb : leadB ns l = b) :
    Calls Tryz.prog 78 #[v, .agg #[.int .i64 l.1, .int .i64 l.2]] w fun e w' => e = .returned (.bool b) ∧ Below w.heap.size w w' := by
  subst hb; exact sLeadOk_any v ns l.1 l.2 w h
theorem sCross_at (v : Value) (ns : List Pr) (l m : Pr) (b : Bool) (w : World) (h : RP w v ns) (hb : crossB ns m l = b) :
    Calls Tryz.prog 79 #[v, .agg #[.int .i64 l.1, .int .i64 l.2], .agg #[.int .i64 m.1, .int .i64 m.2]] w fun e w' => e = .returned (.bool b) ∧ Below w.heap.size w w' := by
  rw [crossB_comm] at hb
  subst hb; exact sCross_any v ns l.1 l.2 m.1 m.2 w h
theorem sOnLead_at (v : Value) (ns : List Pr) (l n : Pr) (b : Bool) (w : World) (h : RP w v ns) (hb : onB ns l n = b) :
    Calls Tryz.prog 80 #[v, .agg #[.int .i64 l.1, .int .i64 l.2], .agg #[.int .i64 n.1, .int .i64 n.2]] w fun e w' => e = .returned (.bool b) ∧ Below w.heap.size w w' := by
  subst hb; exact sOnLead_any v ns l.1 l.2 n.1 n.2 w h
theorem nodesB_take {ns : List Pr} {k : Nat} (hk : k < ns.length) (h : nodesB (ns.take k) = true) (h2 : nodeP (ndI ns k) = true) : nodesB (ns.take (k + 1)) = true := by
  unfold nodesB at h ⊢
  rw [List.take_succ_eq_append_getElem hk, List.all_append, h, ← ndI_nat ns k hk]
  simpa [nodeP] using h2
theorem win_no_node {ns ls : List Pr} {k : Nat} (hk : k < ns.length) (h : nodeP (ndI ns k) = false) : winB ns ls = false :=
  winB_false.2 fun hw => by rw [nodesB_at hw.2.2.2.1 k hk] at h; cases h
theorem win_no_same {ns ls : List Pr} {i k : Nat} (hi : i < k) (hk : k < ns.length) (h : sameP (ndI ns i) (ndI ns k) = true) : winB ns ls = false :=
  winB_false.2 fun hw => by rw [hw.2.2.2.2.1 i k hi hk] at h; cases h
set_option maxHeartbeats 8000000 in
set_option maxRecDepth 100000 in
theorem sWinOk_any (vn vl : Value) (ns ls : List Pr) (w : World) (hn : RP w vn ns) (hl : RP w vl ls) :
    Calls Tryz.prog 59 #[.agg #[vn, vl]] w fun e w' => e = .returned (.bool (winB ns ls)) ∧ Below w.heap.size w w' := by
  obtain ⟨An, cn, rfl, hcn, hmn, hcelln⟩ := hn.formI
  obtain ⟨Al, cl, rfl, hcl, hml, hcelll⟩ := hl.formI
  unfold maxLen at hmn hml
  by_cases hE : (1 ≤ ns.length ∧ ns.length ≤ 12) ∧ ls.length ≤ 20
  case neg =>
    have HR := Lib.hid (win_no_size hE)
    have HE := Lib.hid hE
    clear hE hcelln hcelll
    by_cases h1 : 1 ≤ ns.length ∧ ns.length ≤ 12
    · have i1 : inB (ns.length : Int) 1 12 = true := inB_true.2 (by omega)
      have i2 : (20 : Int) < (ls.length : Int) := by
        have : ¬ ls.length ≤ 20 := fun h => HE.out ⟨h1, h⟩
        omega
      clear h1
      go_enter Tryz.func59, Tryz.ntmps59
      go_wp2_with (go_at_call 35; refine (l01In_at _ _ _ _ _ i1).mono ?_; rintro e w' ⟨rfl, rfl⟩)
      go_ret
      exact ⟨ret_bool HR.out.symm, by exact bel_⟩
    · have i1 : inB (ns.length : Int) 1 12 = false := inB_false.2 (by omega)
      clear h1
      go_enter Tryz.func59, Tryz.ntmps59
      go_wp2_with (go_at_call 35; refine (l01In_at _ _ _ _ _ i1).mono ?_; rintro e w' ⟨rfl, rfl⟩)
      go_ret
      exact ⟨ret_bool HR.out.symm, by exact bel_⟩
  have i1 : inB (ns.length : Int) 1 12 = true := inB_true.2 (by omega)
  have i2 : ¬ (20 : Int) < (ls.length : Int) := by omega
  have HE := Lib.hid hE
  clear hE
  go_enter Tryz.func59, Tryz.ntmps59
  go_wp2_with (go_at_call 35; refine (l01In_at _ _ _ _ _ i1).mono ?_; rintro e w' ⟨rfl, rfl⟩)
  go_loopw [3] (fun i wr => ∃ k : Nat, k ≤ ns.length ∧ i = .int .i64 k ∧ Hid (nodesB (ns.take k) = true ∧ Dis ns k) ∧ Blk wr w.heap.size 31 #[.slice An ns.length cn, .slice Al ls.length cl] ∧ Below w.heap.size w wr) (fun i _ => ns.length - (intOf i).toNat)
  case atStart => exact ⟨0, Nat.zero_le _, rfl, Lib.hid ⟨by simp [nodesB], Dis.zero ns⟩, Blk.newAt rfl, by exact bel_⟩
  case round =>
    obtain ⟨k, hk, rfl, HD, hW, hbl⟩ := hrel
    have hsz := hW.lt
    obtain ⟨a_0, a_1⟩ := hW.c2
    by_cases hlt : k < ns.length
    · obtain ⟨b, off, rfl, hb, hcc⟩ := hcelln (by omega)
      obtain ⟨k0, k1⟩ := hcc k hlt
      have q0 := (hbl.cell (p := ⟨b, off + k * 2, none⟩) hb).trans k0
      have q1 := (hbl.cell (p := ⟨b, off + k * 2 + 1, none⟩) hb).trans k1
      have hi1 : (0 : Int) ≤ (k : Int) := by omega
      have hi2 : (k : Int) < (ns.length : Int) := by omega
      have hbr : b < wr.heap.size := by have := hbl.size; omega
      clear hcelln
      cases hnd : nodeP (ndI ns k)
      · have HR := Lib.hid (win_no_node (ls := ls) hlt hnd)
        clear k0 k1
        go_wp2_with fail
        refine (sNodeP_at (ndI ns k) _ _ hnd).mono ?_
        rintro e w2 ⟨rfl, hb2⟩; (first | (with_reducible have hc2 := bdC hb2) | have hc2 := bcC hb2); (first | (with_reducible have hf2 := bdF hb2) | have hf2 := bcF hb2); have hz2 := hb2.size; (try simp at hz2); (try have hp2_0 := p0_ w w2); (try have hp2_1 := p1_ w w2); (try have hp2_2 := p2_ w w2); (try have hp2_3 := p3_ w w2)
        go_wp2
        go_ret
        exact ⟨ret_bool HR.out.symm, by exact bel_⟩
      · have HND := Lib.hid (nodesB_take hlt HD.out.1 hnd)
        go_wp2_with fail
        refine (sNodeP_at (ndI ns k) _ _ hnd).mono ?_
        rintro e w2 ⟨rfl, hb2⟩; (first | (with_reducible have hc2 := bdC hb2) | have hc2 := bcC hb2); (first | (with_reducible have hf2 := bdF hb2) | have hf2 := bcF hb2); have hz2 := hb2.size; (try simp at hz2); (try have hp2_0 := p0_ w w2); (try have hp2_1 := p1_ w w2); (try have hp2_2 := p2_ w w2); (try have hp2_3 := p3_ w w2)
        have hW2 : Blk w2 w.heap.size 31 #[.slice (some ⟨b, off, none⟩) ns.length cn, .slice Al ls.length cl] := Blk.below hW hb2 sz_
        have hbw2 : Below w.heap.size w w2 := by exact bel_
        clear hb2 hc2 hf2 hz2 hW hbl q0 q1 a_0 a_1 hbr
        go_wp2
        go_loopw [4] (fun i wr => ∃ j : Nat, j ≤ k ∧ i = .int .i64 j ∧ Hid (∀ a : Nat, a < j → sameP (ndI ns a) (ndI ns k) = false) ∧ Blk wr w.heap.size 31 #[.slice (some ⟨b, off, none⟩) ns.length cn, .slice Al ls.length cl] ∧ Below w.heap.size w wr) (fun i _ => k - (intOf i).toNat)
        case atStart => exact ⟨0, Nat.zero_le _, rfl, Lib.hid (fun a ha => absurd ha (by omega)), hW2, hbw2⟩
        case round =>
          obtain ⟨j, hj, rfl, HS, hW, hbl⟩ := hrel
          clear hW2 hbw2
          have hsz := hW.lt
          obtain ⟨a_0, a_1⟩ := hW.c2
          by_cases hjk : j < k
          · obtain ⟨j0, j1⟩ := hcc j (by omega)
            have q0 := (hbl.cell (p := ⟨b, off + k * 2, none⟩) hb).trans k0
            have q1 := (hbl.cell (p := ⟨b, off + k * 2 + 1, none⟩) hb).trans k1
            have q2 := (hbl.cell (p := ⟨b, off + j * 2, none⟩) hb).trans j0
            have q3 := (hbl.cell (p := ⟨b, off + j * 2 + 1, none⟩) hb).trans j1
            have hi3 : (0 : Int) ≤ (j : Int) := by omega
            have hi4 : (j : Int) < (ns.length : Int) := by omega
            have hi5 : (j : Int) < (k : Int) := by omega
            have hbr : b < wr.heap.size := by have := hbl.size; omega
            clear k0 k1 j0 j1 hcc
            cases hsm : prB (ndI ns j).1 (ndI ns j).2 (ndI ns k).1 (ndI ns k).2
            · have HX : Hid (∀ a : Nat, a < j + 1 → sameP (ndI ns a) (ndI ns k) = false) := Lib.hid (by
                intro a ha
                rcases Nat.lt_succ_iff_lt_or_eq.1 ha with h | h
                · exact HS.out a h
                · subst h; exact hsm)
              go_wp2
              go_quiet (fail)
              go_wp2
              go_roundw
              case rel => exact ⟨j + 1, by omega, by go_num, HX, hW, by exact bel_⟩
              case measure => simp [intOf]; omega
            · have HR := Lib.hid (win_no_same (ls := ls) hjk hlt hsm)
              go_wp2
              go_quiet (fail)
              go_wp2
              go_ret
              exact ⟨ret_bool HR.out.symm, by exact bel_⟩
          · have hjj : j = k := by omega
            subst hjj
            have HX : Hid (nodesB (ns.take (j + 1)) = true ∧ Dis ns (j + 1)) := Lib.hid ⟨HND.out, HD.out.2.succ HS.out⟩
            clear k0 k1 hcc hjk
            go_wp2
            go_roundw
            case rel => exact ⟨j + 1, by omega, by go_num, HX, hW, hbl⟩
            case measure => simp [intOf]; omega
    · have hkk : k = ns.length := by omega
      subst hkk
      have hok : nodesB ns = true := by
        have := HD.out.1
        rwa [List.take_length] at this
      have HDis := Lib.hid HD.out.2
      clear HD hlt
      have hbl0 := hbl
      have hW0 := hW
      go_wp2
      go_loopw [5] (fun i wr => ∃ k : Nat, k ≤ ls.length ∧ i = .int .i64 k ∧ Hid (∀ j : Nat, j < k → LdOk ns ls j) ∧ Blk wr w.heap.size 31 #[.slice An ns.length cn, .slice Al ls.length cl] ∧ Below w.heap.size w wr) (fun i _ => ls.length - (intOf i).toNat)
      case atStart => exact ⟨0, Nat.zero_le _, rfl, Lib.hid (ld_zero ns ls), hW0, hbl0⟩
      case round =>
        obtain ⟨k, hk, rfl, HLD, hW, hbl⟩ := hrel
        clear hW0 hbl0 a_0 a_1
        have hsz := hW.lt
        by_cases hlt : k < ls.length
        · obtain ⟨b, off, rfl, hb, hcc⟩ := hcelll (by omega)
          obtain ⟨k0, k1⟩ := hcc k hlt
          have q0 := (hbl.cell (p := ⟨b, off + k * 2, none⟩) hb).trans k0
          have q1 := (hbl.cell (p := ⟨b, off + k * 2 + 1, none⟩) hb).trans k1
          have hi1 : (0 : Int) ≤ (k : Int) := by omega
          have hi2 : (k : Int) < (ls.length : Int) := by omega
          obtain ⟨a_0, a_1⟩ := hW.c2
          have hbr : b < wr.heap.size := by have := hbl.size; omega
          cases hld : leadB ns (ndI ls k)
          · have HR := Lib.hid (win_no_lead hlt hld)
            clear k0 k1 hcc hcelln
            go_wp2_with fail
            refine (sLeadOk_at _ ns (ndI ls k) _ _ (hn.below (by exact bel_)) hld).mono ?_
            rintro e w2 ⟨rfl, hb2⟩; (first | (with_reducible have hc2 := bdC hb2) | have hc2 := bcC hb2); (first | (with_reducible have hf2 := bdF hb2) | have hf2 := bcF hb2); have hz2 := hb2.size; (try simp at hz2); (try have hp2_0 := p0_ w w2); (try have hp2_1 := p1_ w w2); (try have hp2_2 := p2_ w w2); (try have hp2_3 := p3_ w w2)
            go_wp2
            go_ret
            exact ⟨ret_bool HR.out.symm, by exact bel_⟩
          · have HLK := Lib.hid hld
            clear k0 k1
            generalize hL : ndI ls (k : Int) = L at *
            have HL := Lib.hid hL
            clear hL
            go_wp2_with fail
            refine (sLeadOk_at _ ns L _ _ (hn.below (by exact bel_)) hld).mono ?_
            rintro e w2 ⟨rfl, hb2⟩; (first | (with_reducible have hc2 := bdC hb2) | have hc2 := bcC hb2); (first | (with_reducible have hf2 := bdF hb2) | have hf2 := bcF hb2); have hz2 := hb2.size; (try simp at hz2); (try have hp2_0 := p0_ w w2); (try have hp2_1 := p1_ w w2); (try have hp2_2 := p2_ w w2); (try have hp2_3 := p3_ w w2)
            have hW2 : Blk w2 w.heap.size 31 #[.slice An ns.length cn, .slice (some ⟨b, off, none⟩) ls.length cl] := Blk.below (hW.alloc _) hb2 sz_
            have hL2 : Blk w2 wr.heap.size 62 #[.int .i64 L.1, .int .i64 L.2] := Blk.below (Blk.newAt rfl) hb2 sz_
            have hbw2 : Below w.heap.size w w2 := by exact bel_
            have hnB : ¬ wr.heap.size = w.heap.size := by omega
            generalize wr.heap.size = B5 at *
            clear a_0 a_1 hb2 hc2 hf2 hz2 hW hbl q0 q1
            go_wp2
            go_loopw [7] (fun i wr => ∃ j : Nat, j ≤ k ∧ i = .int .i64 j ∧ Hid (CrOk ns ls L j) ∧ Blk wr w.heap.size 31 #[.slice An ns.length cn, .slice (some ⟨b, off, none⟩) ls.length cl] ∧ Blk wr B5 62 #[.int .i64 L.1, .int .i64 L.2] ∧ Below w.heap.size w wr) (fun i _ => k - (intOf i).toNat)
            case atStart => exact ⟨0, Nat.zero_le _, rfl, Lib.hid (CrOk.zero ns ls L), hW2, hL2, hbw2⟩
            case round =>
              obtain ⟨j, hj, rfl, HC, hW, hLb, hbl⟩ := hrel
              clear hW2 hL2 hbw2
              have hsz := hW.lt
              have hsz5 := hLb.lt
              obtain ⟨a_0, a_1⟩ := hW.c2
              obtain ⟨x_0, x_1⟩ := hLb.c2
              by_cases hjk : j < k
              · obtain ⟨k0, k1⟩ := hcc j (by omega)
                have q0 := (hbl.cell (p := ⟨b, off + j * 2, none⟩) hb).trans k0
                have q1 := (hbl.cell (p := ⟨b, off + j * 2 + 1, none⟩) hb).trans k1
                have hi5 : (0 : Int) ≤ (j : Int) := by omega
                have hi6 : (j : Int) < (k : Int) := by omega
                have hi7 : (j : Int) < (ls.length : Int) := by omega
                have hbj : b < wr.heap.size := by have := hbl.size; omega
                clear k0 k1
                obtain ⟨E, hE⟩ : ∃ E, crossB ns L (ndI ls j) = E := ⟨_, rfl⟩
                have HX : Hid (E = true → winB ns ls = false) := Lib.hid (fun e => win_no_cross hlt hjk (by rw [HL.out, hE, e]))
                have HX2 : Hid (E = false → CrOk ns ls L (j + 1)) := Lib.hid (fun e => HC.out.succ (by rw [hE, e]))
                generalize ndI ls (j : Int) = M at *
                have hnr : RP wr (.slice An ns.length cn) ns := hn.below hbl
                go_wp2_with fail
                (refine wp_region_quietG (by kernel_rfl) (by kernel_rfl) (fun hG => ?_))
                repeat (go_big_quiet_step ((go_at_call 79; exact quietG (sCross_at _ ns M L _ _ (RS.grw _ hnr) hE))))
                (refine wpQuiet_nil ?_); (clear hG); (rintro w3 ⟨⟨_, hb3⟩, rfl⟩); (try dsimp only); (first | (with_reducible have hc3 := bdC hb3) | have hc3 := bcC hb3); (first | (with_reducible have hf3 := bdF hb3) | have hf3 := bcF hb3); have hz3 := hb3.size; (try simp at hz3); (try have hp3_0 := p0_ w w3); (try have hp3_1 := p1_ w w3); (try have hp3_2 := p2_ w w3); (try have hp3_3 := p3_ w w3)
                have hW3 : Blk w3 w.heap.size 31 #[.slice An ns.length cn, .slice (some ⟨b, off, none⟩) ls.length cl] := Blk.below hW hb3 sz_
                have hL3 : Blk w3 B5 62 #[.int .i64 L.1, .int .i64 L.2] := Blk.below hLb hb3 sz_
                have hbw3 : Below w.heap.size w w3 := by exact bel_
                clear hb3 hc3 hf3 hz3 hW hLb hbl a_0 a_1 x_0 x_1 q0 q1 hnr
                cases E
                · have HY := Lib.hid (HX2.out rfl)
                  go_wp2
                  go_roundw
                  case rel => exact ⟨j + 1, by omega, by go_num, HY, hW3, hL3, hbw3⟩
                  case measure => simp [intOf]; omega
                · have HY := Lib.hid (HX.out rfl)
                  go_wp2
                  go_ret
                  exact ⟨ret_bool HY.out.symm, hbw3⟩
              · have hjj : j = k := by omega
                subst hjj
                have HCR := Lib.hid HC.out
                have hW0 := hW
                have hL0 := hLb
                have hbl0 := hbl
                clear HC hjk
                go_wp2
                go_loopw [8] (fun i wr => ∃ m : Nat, m ≤ ns.length ∧ i = .int .i64 m ∧ Hid (OnOk ns L m) ∧ Blk wr w.heap.size 31 #[.slice An ns.length cn, .slice (some ⟨b, off, none⟩) ls.length cl] ∧ Blk wr B5 62 #[.int .i64 L.1, .int .i64 L.2] ∧ Below w.heap.size w wr) (fun i _ => ns.length - (intOf i).toNat)
                case atStart => exact ⟨0, Nat.zero_le _, rfl, Lib.hid (OnOk.zero ns L), hW0, hL0, hbl0⟩
                case round =>
                  obtain ⟨m, hm, rfl, HO, hW, hLb, hbl⟩ := hrel
                  clear hW0 hL0 hbl0 a_0 a_1 x_0 x_1 hsz hsz5
                  have hsz := hW.lt
                  have hsz5 := hLb.lt
                  obtain ⟨a_0, a_1⟩ := hW.c2
                  obtain ⟨x_0, x_1⟩ := hLb.c2
                  by_cases hmn2 : m < ns.length
                  · obtain ⟨bn, offn, rfl, hbn, hcn2⟩ := hcelln (by omega)
                    obtain ⟨k0, k1⟩ := hcn2 m hmn2
                    have q0 := (hbl.cell (p := ⟨bn, offn + m * 2, none⟩) hbn).trans k0
                    have q1 := (hbl.cell (p := ⟨bn, offn + m * 2 + 1, none⟩) hbn).trans k1
                    have hi5 : (0 : Int) ≤ (m : Int) := by omega
                    have hi6 : (m : Int) < (ns.length : Int) := by omega
                    have hbj : bn < wr.heap.size := by have := hbl.size; omega
                    have hnr : RP wr (.slice (some ⟨bn, offn, none⟩) ns.length cn) ns := hn.below hbl
                    clear k0 k1 hcn2 hcelln
                    by_cases h1 : (m : Int) = L.1
                    · have HY : Hid (OnOk ns L (m + 1)) := Lib.hid (HO.out.succ (fun h _ => absurd h1 h))
                      have e1 : ((m : Int) != L.1) = false := by simp [h1]
                      have H1 := Lib.hid h1
                      clear h1
                      go_wp2_with fail
                      (refine wp_region_quietG (by kernel_rfl) (by kernel_rfl) (fun hG => ?_))
                      repeat (go_big_quiet_step (fail))
                      (refine wpQuiet_nil ?_); (clear hG); (rintro w3 ⟨⟨_, hb3⟩, rfl⟩); (try dsimp only); (first | (with_reducible have hc3 := bdC hb3) | have hc3 := bcC hb3); (first | (with_reducible have hf3 := bdF hb3) | have hf3 := bcF hb3); have hz3 := hb3.size; (try simp at hz3); (try have hp3_0 := p0_ w w3); (try have hp3_1 := p1_ w w3); (try have hp3_2 := p2_ w w3); (try have hp3_3 := p3_ w w3)
                      have hW3 : Blk w3 w.heap.size 31 #[.slice (some ⟨bn, offn, none⟩) ns.length cn, .slice (some ⟨b, off, none⟩) ls.length cl] := Blk.below hW hb3 sz_
                      have hL3 : Blk w3 B5 62 #[.int .i64 L.1, .int .i64 L.2] := Blk.below hLb hb3 sz_
                      have hbw3 : Below w.heap.size w w3 := by exact bel_
                      clear hb3 hc3 hf3 hz3 hW hLb hbl a_0 a_1 x_0 x_1 q0 q1 hnr
                      go_wp2
                      go_roundw
                      case rel => exact ⟨m + 1, by omega, by go_num, HY, hW3, hL3, hbw3⟩
                      case measure => simp [intOf]; omega
                    · have e1 : ((m : Int) != L.1) = true := by simp [h1]
                      have H1 := Lib.hid h1
                      clear h1
                      by_cases h2 : (m : Int) = L.2
                      · have HY : Hid (OnOk ns L (m + 1)) := Lib.hid (HO.out.succ (fun _ h => absurd h2 h))
                        have e2 : ((m : Int) != L.2) = false := by simp [h2]
                        have H2 := Lib.hid h2
                        clear h2
                        go_wp2_with fail
                        (refine wp_region_quietG (by kernel_rfl) (by kernel_rfl) (fun hG => ?_))
                        repeat (go_big_quiet_step (fail))
                        (refine wpQuiet_nil ?_); (clear hG); (rintro w3 ⟨⟨_, hb3⟩, rfl⟩); (try dsimp only); (first | (with_reducible have hc3 := bdC hb3) | have hc3 := bcC hb3); (first | (with_reducible have hf3 := bdF hb3) | have hf3 := bcF hb3); have hz3 := hb3.size; (try simp at hz3); (try have hp3_0 := p0_ w w3); (try have hp3_1 := p1_ w w3); (try have hp3_2 := p2_ w w3); (try have hp3_3 := p3_ w w3)
                        have hW3 : Blk w3 w.heap.size 31 #[.slice (some ⟨bn, offn, none⟩) ns.length cn, .slice (some ⟨b, off, none⟩) ls.length cl] := Blk.below hW hb3 sz_
                        have hL3 : Blk w3 B5 62 #[.int .i64 L.1, .int .i64 L.2] := Blk.below hLb hb3 sz_
                        have hbw3 : Below w.heap.size w w3 := by exact bel_
                        clear hb3 hc3 hf3 hz3 hW hLb hbl a_0 a_1 x_0 x_1 q0 q1 hnr
                        go_wp2
                        go_roundw
                        case rel => exact ⟨m + 1, by omega, by go_num, HY, hW3, hL3, hbw3⟩
                        case measure => simp [intOf]; omega
                      · have e2 : ((m : Int) != L.2) = true := by simp [h2]
                        have H2 := Lib.hid h2
                        clear h2
                        obtain ⟨E, hE⟩ : ∃ E, onB ns L (ndI ns m) = E := ⟨_, rfl⟩
                        have HX : Hid (E = true → winB ns ls = false) := Lib.hid (fun e => win_no_on hlt hmn2 (by rw [HL.out]; exact H1.out) (by rw [HL.out]; exact H2.out) (by rw [HL.out, hE, e]))
                        have HX2 : Hid (E = false → OnOk ns L (m + 1)) := Lib.hid (fun e => HO.out.succ (fun _ _ => by rw [hE, e]))
                        generalize ndI ns (m : Int) = M at *
                        go_wp2_with fail
                        (refine wp_region_quietG (by kernel_rfl) (by kernel_rfl) (fun hG => ?_))
                        repeat (go_big_quiet_step ((go_at_call 80; exact quietG (sOnLead_at _ ns L M _ _ (RS.grw _ hnr) hE))))
                        (refine wpQuiet_nil ?_); (clear hG); (rintro w3 ⟨⟨_, hb3⟩, rfl⟩); (try dsimp only); (first | (with_reducible have hc3 := bdC hb3) | have hc3 := bcC hb3); (first | (with_reducible have hf3 := bdF hb3) | have hf3 := bcF hb3); have hz3 := hb3.size; (try simp at hz3); (try have hp3_0 := p0_ w w3); (try have hp3_1 := p1_ w w3); (try have hp3_2 := p2_ w w3); (try have hp3_3 := p3_ w w3)
                        have hW3 : Blk w3 w.heap.size 31 #[.slice (some ⟨bn, offn, none⟩) ns.length cn, .slice (some ⟨b, off, none⟩) ls.length cl] := Blk.below hW hb3 sz_
                        have hL3 : Blk w3 B5 62 #[.int .i64 L.1, .int .i64 L.2] := Blk.below hLb hb3 sz_
                        have hbw3 : Below w.heap.size w w3 := by exact bel_
                        clear hb3 hc3 hf3 hz3 hW hLb hbl a_0 a_1 x_0 x_1 q0 q1 hnr
                        cases E
                        · have HY := Lib.hid (HX2.out rfl)
                          go_wp2
                          go_roundw
                          case rel => exact ⟨m + 1, by omega, by go_num, HY, hW3, hL3, hbw3⟩
                          case measure => simp [intOf]; omega
                        · have HY := Lib.hid (HX.out rfl)
                          go_wp2
                          go_ret
                          exact ⟨ret_bool HY.out.symm, hbw3⟩
                  · have hmm : m = ns.length := by omega
                    subst hmm
                    have HY : Hid (∀ i : Nat, i < j + 1 → LdOk ns ls i) := Lib.hid (ld_succ HLD.out ⟨by rw [HL.out]; exact HLK.out, by rw [HL.out]; exact HCR.out, by rw [HL.out]; exact HO.out⟩)
                    clear hcelln
                    go_wp2
                    go_roundw
                    case rel => exact ⟨j + 1, by omega, by go_num, HY, hW, hbl⟩
                    case measure => simp [intOf]; omega
        · have hkk : k = ls.length := by omega
          subst hkk
          have HR := Lib.hid (win_yes HE.out hok HDis.out HLD.out)
          obtain ⟨a_0, a_1⟩ := hW.c2
          clear hlt hcelln hcelll
          go_wp2
          go_ret
          exact ⟨ret_bool HR.out.symm, hbl⟩
end Go.Proofs.YtbennlajjfkdpaaGreatDoor
