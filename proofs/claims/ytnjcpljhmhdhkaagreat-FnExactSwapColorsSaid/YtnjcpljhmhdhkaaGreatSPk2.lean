/- part 2 -/
import Derived.Test.YtnjcpljhmhdhkaaGreatSPk1
import Derived.Test.YtnjcpljhmhdhkaaGreatRows
import Derived.ProofKit
import Derived.OpenShut
import Derived.Lib.SmallJoins
import Derived.Carry
set_option linter.unusedSimpArgs false
set_option linter.unusedVariables false
namespace Go.Proofs.YtnjcpljhmhdhkaaGreat
open Go.RowKit
def OwnW (base : Nat) (w : World) (vn vl : Value) (ns ls : List (Int × Int)) : Prop :=
  OwnP 106 base w vn ns ∧ OwnP 108 base w vl ls ∧ ∀ k, vn.ownBlock = some k → vl.ownBlock = some k → False
theorem OwnW.kept {base : Nat} {w w' : World} {vn vl : Value} {ns ls : List (Int × Int)} (h : OwnW base w vn vl ns ls) (hb : Below w.heap.size w w') : OwnW base w' vn vl ns ls := ⟨h.1.kept hb, h.2.1.kept hb, h.2.2⟩
theorem OwnW.mono {base base' : Nat} {w : World} {vn vl : Value} {ns ls : List (Int × Int)} (h : OwnW base w vn vl ns ls) (hb : base' ≤ base) : OwnW base' w vn vl ns ls := ⟨h.1.mono hb, h.2.1.mono hb, h.2.2⟩
def RetW (ns ls : List (Int × Int)) (w : World) (e : Ending) (w' : World) : Prop := ∃ An cn Al cl, e = .returned (.agg #[.slice An ns.length cn, .slice Al ls.length cl]) ∧ OwnW w.heap.size w' (.slice An ns.length cn) (.slice Al ls.length cl) ns ls ∧ Below w.heap.size w w'
def szW (n : Int) (a b : Nat) : Int := if n < a then -1 else if n - a < b then -1 else n - a - b
theorem szNodeS_at (v : Value) (l : List (Int × Int)) (n x : Int) (w : World) (h : RP w v l) (h0 : 0 ≤ n) (h1 : n ≤ 1000000000) (hx : Hid (szF n l.length = x)) :
    Calls Tryz.prog 220 #[v, .int .i64 n] w fun e w' => e = .returned (.int .i64 x) ∧ w = w' :=
  (szNodeS_any v l n w h h0 h1).mono fun e w' ⟨he, hw⟩ => ⟨he.trans (ret_int hx.out), hw⟩
theorem szLeadS_at (v : Value) (l : List (Int × Int)) (n x : Int) (w : World) (h : RP w v l) (h0 : 0 ≤ n) (h1 : n ≤ 1000000000) (hx : Hid (szF n l.length = x)) :
    Calls Tryz.prog 221 #[v, .int .i64 n] w fun e w' => e = .returned (.int .i64 x) ∧ w = w' :=
  (szLeadS_any v l n w h h0 h1).mono fun e w' ⟨he, hw⟩ => ⟨he.trans (ret_int hx.out), hw⟩
set_option maxHeartbeats 2000000 in
set_option maxRecDepth 100000 in
theorem szWindow_any (vn vl : Value) (ns ls : List (Int × Int)) (n : Int) (w : World) (hn : RP w vn ns) (hl : RP w vl ls) (h0 : 0 ≤ n) (h1 : n ≤ 1000000000) :
    Calls Tryz.prog 164 #[.agg #[vn, vl], .int .i64 n] w fun e w' => e = .returned (.int .i64 (szW n ns.length ls.length)) ∧ Below w.heap.size w w' := by
  by_cases ha : n < ns.length
  · have HF : Hid (szF n ns.length = -1) := Lib.hid (by unfold szF; rw [if_pos ha])
    have HW : Hid (szW n ns.length ls.length = -1) := Lib.hid (by unfold szW; rw [if_pos ha])
    clear ha
    go_enter Tryz.func164, Tryz.ntmps164
    go_wp2_with fail
    refine (szNodeS_at _ ns n (-1) _ (hn.below (by exact bel_)) h0 h1 HF).mono ?_
    rintro e w' ⟨rfl, rfl⟩
    go_wp2
    go_ret
    exact ⟨ret_int HW.out.symm, by exact bel_⟩
  · have HF : Hid (szF n ns.length = n - ns.length) := Lib.hid (by unfold szF; rw [if_neg ha])
    by_cases hb : n - ns.length < ls.length
    · have HG : Hid (szF (n - ns.length) ls.length = -1) := Lib.hid (by unfold szF; rw [if_pos hb])
      have HW : Hid (szW n ns.length ls.length = -1) := Lib.hid (by unfold szW; rw [if_neg ha, if_pos hb])
      have hge : 0 ≤ n - ns.length := by omega
      have hge2 : ¬ n - ns.length < 0 := by omega
      clear hb
      go_enter Tryz.func164, Tryz.ntmps164
      go_wp2_with fail
      refine (szNodeS_at _ ns n (n - ns.length) _ (hn.below (by exact bel_)) h0 h1 HF).mono ?_
      rintro e w' ⟨rfl, rfl⟩
      go_wp2_with fail
      refine (szLeadS_at _ ls (n - ns.length) (-1) _ (hl.below (by exact bel_)) hge (by omega) HG).mono ?_
      rintro e w' ⟨rfl, rfl⟩
      go_wp2
      go_ret
      exact ⟨ret_int HW.out.symm, by exact bel_⟩
    · have HG : Hid (szF (n - ns.length) ls.length = n - ns.length - ls.length) := Lib.hid (by unfold szF; rw [if_neg hb])
      have HW : Hid (szW n ns.length ls.length = n - ns.length - ls.length) := Lib.hid (by unfold szW; rw [if_neg ha, if_neg hb])
      have hge : 0 ≤ n - ns.length := by omega
      have hge2 : ¬ n - ns.length < 0 := by omega
      have hge3 : ¬ n - ns.length - ls.length < 0 := by omega
      clear hb
      go_enter Tryz.func164, Tryz.ntmps164
      go_wp2_with fail
      refine (szNodeS_at _ ns n (n - ns.length) _ (hn.below (by exact bel_)) h0 h1 HF).mono ?_
      rintro e w' ⟨rfl, rfl⟩
      go_wp2_with fail
      refine (szLeadS_at _ ls (n - ns.length) _ _ (hl.below (by exact bel_)) hge (by omega) HG).mono ?_
      rintro e w' ⟨rfl, rfl⟩
      go_wp2
      go_ret
      exact ⟨ret_int HW.out.symm, by exact bel_⟩
set_option maxHeartbeats 2000000 in
set_option maxRecDepth 100000 in
theorem toWindow_any (vn vl : Value) (ns ls : List (Int × Int)) (w : World) (hn : RP w vn ns) (hl : RP w vl ls) (h1 : ns.length ≤ 1048576) (h2 : ls.length ≤ 1048576) :
    Calls Tryz.prog 168 #[.agg #[vn, vl]] w (RetW ns ls w) := by
  go_enter Tryz.func168, Tryz.ntmps168
  go_wp2_with fail
  refine (toNodeS_any _ ns _ (hn.below (by exact bel_)) h1).mono ?_
  rintro e w1 ⟨A1, c1, rfl, ho1, hb1⟩; (first | (with_reducible have hcf1 := bcell_drew hb1) | have hcf1 := bcell hb1); obtain ⟨hc1, hf1⟩ := hcf1; have hz1 := hb1.size; (try simp at hz1); (try have hp1_0 : w.heap.size < w1.heap.size := by omega); (try have hp1_1 : w.heap.size + 1 < w1.heap.size := by omega); (try have hp1_2 : w.heap.size + 1 + 1 < w1.heap.size := by omega); (try have hp1_3 : w.heap.size + 1 + 1 + 1 < w1.heap.size := by omega)
  have hbw1 : Below w.heap.size w w1 := by exact bel_
  have o1 : OwnP 106 (w.heap.size + 1 + 1 + 1) w1 (.slice A1 ns.length c1) ns := by simpa using ho1
  have hlt1 := o1.lt
  go_wp2_with fail
  refine (toLeadS_any _ ls _ (hl.below (by exact bel_)) h2).mono ?_
  rintro e w2 ⟨A2, c2, rfl, ho2, hb2⟩; (first | (with_reducible have hcf2 := bcell_drew hb2) | have hcf2 := bcell hb2); obtain ⟨hc2, hf2⟩ := hcf2; have hz2 := hb2.size; (try simp at hz2); (try have hp2_0 : w.heap.size < w2.heap.size := by omega); (try have hp2_1 : w.heap.size + 1 < w2.heap.size := by omega); (try have hp2_2 : w.heap.size + 1 + 1 < w2.heap.size := by omega); (try have hp2_3 : w.heap.size + 1 + 1 + 1 < w2.heap.size := by omega)
  have o2 : OwnP 108 w1.heap.size w2 (.slice A2 ls.length c2) ls := by simpa using ho2
  have o1' := Lib.hid ((((((o1.setLow (p := ⟨w.heap.size + 1 + 1, 0, none⟩) (by simp) (.slice A1 ns.length c1)).kept hb2).setLow (p := ⟨w.heap.size + 1 + 1, 1, none⟩) (by simp) (.slice A2 ls.length c2)).setLow (p := ⟨w.heap.size + 1, 0, none⟩) sz_ (.slice A1 ns.length c1)).setLow (p := ⟨w.heap.size + 1, 1, none⟩) sz_ (.slice A2 ls.length c2)).mono (show w.heap.size ≤ _ by omega))
  have o2' := Lib.hid ((((o2.setLow (p := ⟨w.heap.size + 1 + 1, 1, none⟩) sz_ (.slice A2 ls.length c2)).setLow (p := ⟨w.heap.size + 1, 0, none⟩) sz_ (.slice A1 ns.length c1)).setLow (p := ⟨w.heap.size + 1, 1, none⟩) sz_ (.slice A2 ls.length c2)).mono (show w.heap.size ≤ _ by omega))
  have hap : Hid (∀ k, (Value.slice A1 ns.length c1).ownBlock = some k → (Value.slice A2 ls.length c2).ownBlock = some k → False) := Lib.hid (fun k h1 h2 => by
    have := (hlt1 k h1).2
    have := (o2.lt k h2).1
    omega)
  clear ho1 ho2 o1 o2 hlt1
  go_wp2
  exact bodyPost_ret (v := .agg #[.slice A1 ns.length c1, .slice A2 ls.length c2]) (by simp [results, Tryz.results168, go_sem, hp1_0, hp1_1, hp1_2, hp2_0, hp2_1, hp2_2, hc2, hc1]) rfl ⟨_, _, _, _, rfl, ⟨o1'.out, o2'.out, hap.out⟩, by exact bel_⟩
set_option maxHeartbeats 2000000 in
set_option maxRecDepth 100000 in
theorem eqWindow_any (vn vl un ul : Value) (ns ls : List (Int × Int)) (w : World) (hn : RP w vn ns) (hl : RP w vl ls) (hn' : RP w un ns) (hl' : RP w ul ls) :
    Calls Tryz.prog 172 #[.agg #[vn, vl], .agg #[un, ul]] w fun e w' => e = .returned (.bool true) ∧ Below w.heap.size w w' := by
  go_enter Tryz.func172, Tryz.ntmps172
  go_wp2_with fail
  refine (eqNodeS_any _ _ ns _ (hn.below (by exact bel_)) (hn'.below (by exact bel_))).mono ?_
  rintro e w1 ⟨rfl, hb1⟩; (first | (with_reducible have hcf1 := bcell_drew hb1) | have hcf1 := bcell hb1); obtain ⟨hc1, hf1⟩ := hcf1; have hz1 := hb1.size; (try simp at hz1); (try have hp1_0 : w.heap.size < w1.heap.size := by omega); (try have hp1_1 : w.heap.size + 1 < w1.heap.size := by omega); (try have hp1_2 : w.heap.size + 1 + 1 < w1.heap.size := by omega); (try have hp1_3 : w.heap.size + 1 + 1 + 1 < w1.heap.size := by omega)
  have hbw1 : Below w.heap.size w w1 := by exact bel_
  go_wp2_with fail
  refine (eqLeadS_any _ _ ls _ (hl.below hbw1) (hl'.below hbw1)).mono ?_
  rintro e w2 ⟨rfl, hb2⟩; (first | (with_reducible have hcf2 := bcell_drew hb2) | have hcf2 := bcell hb2); obtain ⟨hc2, hf2⟩ := hcf2; have hz2 := hb2.size; (try simp at hz2); (try have hp2_0 : w.heap.size < w2.heap.size := by omega); (try have hp2_1 : w.heap.size + 1 < w2.heap.size := by omega); (try have hp2_2 : w.heap.size + 1 + 1 < w2.heap.size := by omega); (try have hp2_3 : w.heap.size + 1 + 1 + 1 < w2.heap.size := by omega)
  go_wp2
  go_ret
  exact ⟨rfl, by exact bel_⟩
attribute [local go_sem ↓] run_eqNode run_eqLead run_neNode run_neLead
set_option maxHeartbeats 2000000 in
set_option maxRecDepth 100000 in
theorem slicesEqualNode_any (v u : Value) (zs ys : List (Int × Int)) (w : World) (hv : RP w v zs) (hu : RP w u ys) :
    Calls Tryz.prog 159 #[v, u] w fun e w' => e = .returned (.bool (decide (zs = ys))) ∧ Below w.heap.size w w' := by
  obtain ⟨A, c, rfl, hc, hm, hcell⟩ := hv.form
  obtain ⟨A', c', rfl, hc', hm', hcell'⟩ := hu.form
  unfold maxLen at hm hm'
  clear hv hu
  by_cases hlen : zs.length = ys.length
  · have e1 : ((zs.length : Int) != (ys.length : Int)) = false := by simp [hlen]
    have HLEN := Lib.hid hlen
    clear hlen
    go_enter Tryz.func159, Tryz.ntmps159
    go_wp2
    go_loopw [13] (fun i wr => ∃ k : Nat, k ≤ zs.length ∧ i = .int .i64 k ∧ Hid (zs.take k = ys.take k) ∧ Below w.heap.size w wr) (fun i _ => zs.length - (intOf i).toNat)
    case atStart => exact ⟨0, Nat.zero_le _, rfl, Lib.hid (by simp), Below.refl _ _⟩
    case round =>
      obtain ⟨k, hk, rfl, HT, hbl⟩ := hrel
      by_cases hlt : k < zs.length
      · obtain ⟨b, off, rfl, hb, hcl⟩ := hcell (by omega)
        have hlt' : k < ys.length := by rw [← HLEN.out]; exact hlt
        obtain ⟨b', off', rfl, hb', hcl'⟩ := hcell' (by omega)
        obtain ⟨k0, k1⟩ := hcl k hlt
        obtain ⟨j0, j1⟩ := hcl' k hlt'
        have q0 := (hbl.cell (p := ⟨b, off + k * 2, none⟩) hb).trans k0
        have q1 := (hbl.cell (p := ⟨b, off + k * 2 + 1, none⟩) hb).trans k1
        have p0 := (hbl.cell (p := ⟨b', off' + k * 2, none⟩) hb').trans j0
        have p1 := (hbl.cell (p := ⟨b', off' + k * 2 + 1, none⟩) hb').trans j1
        have hi1 : (0 : Int) ≤ (k : Int) := by omega
        have hi2 : (k : Int) < (zs.length : Int) := by omega
        have hi3 : (k : Int) < (ys.length : Int) := by omega
        clear hcl hcell hcl' hcell' k0 k1 j0 j1
        cases hxy : prB zs[k].1 zs[k].2 ys[k].1 ys[k].2
        · have HE : Hid (¬ zs[k] = ys[k]) := Lib.hid (fun h => by rw [h, prB_self] at hxy; cases hxy)
          go_wp2
          go_quiet (fail)
          go_wp2
          go_ret
          refine ⟨ret_bool ?_, by exact bel_⟩
          symm
          rw [decide_eq_false_iff_not]
          intro heq
          exact HE.out (by simp [heq])
        · have HE : Hid (zs[k] = ys[k]) := Lib.hid (prB_iff.1 hxy)
          go_wp2
          go_quiet (fail)
          go_wp2
          go_roundw
          case rel => exact ⟨k + 1, by omega, by go_num, Lib.hid (take_eq_succ HT.out hlt hlt' HE.out), by exact bel_⟩
          case measure => simp [intOf]; omega
      · have hkk : zs.length ≤ k := by omega
        have hke : zs = ys := by
          have h := HT.out
          rw [List.take_of_length_le hkk, List.take_of_length_le (by rw [← HLEN.out]; exact hkk)] at h
          exact h
        have HE := Lib.hid hke
        clear hke hcell hcell'
        go_wp2
        go_ret
        exact ⟨ret_bool (by symm; simpa using HE.out), hbl⟩
  · have e1 : ((zs.length : Int) != (ys.length : Int)) = true := by simp; omega
    have HE : Hid (¬ zs = ys) := Lib.hid (fun h => hlen (by rw [h]))
    have HLEN := Lib.hid hlen
    clear hlen
    go_enter Tryz.func159, Tryz.ntmps159
    go_wp2
    go_ret
    exact ⟨ret_bool (by symm; simpa using HE.out), Below.refl _ _⟩
set_option maxHeartbeats 2000000 in
set_option maxRecDepth 100000 in
theorem slicesEqualLead_any (v u : Value) (zs ys : List (Int × Int)) (w : World) (hv : RP w v zs) (hu : RP w u ys) :
    Calls Tryz.prog 160 #[v, u] w fun e w' => e = .returned (.bool (decide (zs = ys))) ∧ Below w.heap.size w w' := by
  obtain ⟨A, c, rfl, hc, hm, hcell⟩ := hv.form
  obtain ⟨A', c', rfl, hc', hm', hcell'⟩ := hu.form
  unfold maxLen at hm hm'
  clear hv hu
  by_cases hlen : zs.length = ys.length
  · have e1 : ((zs.length : Int) != (ys.length : Int)) = false := by simp [hlen]
    have HLEN := Lib.hid hlen
    clear hlen
    go_enter Tryz.func160, Tryz.ntmps160
    go_wp2
    go_loopw [13] (fun i wr => ∃ k : Nat, k ≤ zs.length ∧ i = .int .i64 k ∧ Hid (zs.take k = ys.take k) ∧ Below w.heap.size w wr) (fun i _ => zs.length - (intOf i).toNat)
    case atStart => exact ⟨0, Nat.zero_le _, rfl, Lib.hid (by simp), Below.refl _ _⟩
    case round =>
      obtain ⟨k, hk, rfl, HT, hbl⟩ := hrel
      by_cases hlt : k < zs.length
      · obtain ⟨b, off, rfl, hb, hcl⟩ := hcell (by omega)
        have hlt' : k < ys.length := by rw [← HLEN.out]; exact hlt
        obtain ⟨b', off', rfl, hb', hcl'⟩ := hcell' (by omega)
        obtain ⟨k0, k1⟩ := hcl k hlt
        obtain ⟨j0, j1⟩ := hcl' k hlt'
        have q0 := (hbl.cell (p := ⟨b, off + k * 2, none⟩) hb).trans k0
        have q1 := (hbl.cell (p := ⟨b, off + k * 2 + 1, none⟩) hb).trans k1
        have p0 := (hbl.cell (p := ⟨b', off' + k * 2, none⟩) hb').trans j0
        have p1 := (hbl.cell (p := ⟨b', off' + k * 2 + 1, none⟩) hb').trans j1
        have hi1 : (0 : Int) ≤ (k : Int) := by omega
        have hi2 : (k : Int) < (zs.length : Int) := by omega
        have hi3 : (k : Int) < (ys.length : Int) := by omega
        clear hcl hcell hcl' hcell' k0 k1 j0 j1
        cases hxy : prB zs[k].1 zs[k].2 ys[k].1 ys[k].2
        · have HE : Hid (¬ zs[k] = ys[k]) := Lib.hid (fun h => by rw [h, prB_self] at hxy; cases hxy)
          go_wp2
          go_quiet (fail)
          go_wp2
          go_ret
          refine ⟨ret_bool ?_, by exact bel_⟩
          symm
          rw [decide_eq_false_iff_not]
          intro heq
          exact HE.out (by simp [heq])
        · have HE : Hid (zs[k] = ys[k]) := Lib.hid (prB_iff.1 hxy)
          go_wp2
          go_quiet (fail)
          go_wp2
          go_roundw
          case rel => exact ⟨k + 1, by omega, by go_num, Lib.hid (take_eq_succ HT.out hlt hlt' HE.out), by exact bel_⟩
          case measure => simp [intOf]; omega
      · have hkk : zs.length ≤ k := by omega
        have hke : zs = ys := by
          have h := HT.out
          rw [List.take_of_length_le hkk, List.take_of_length_le (by rw [← HLEN.out]; exact hkk)] at h
          exact h
        have HE := Lib.hid hke
        clear hke hcell hcell'
        go_wp2
        go_ret
        exact ⟨ret_bool (by symm; simpa using HE.out), hbl⟩
  · have e1 : ((zs.length : Int) != (ys.length : Int)) = true := by simp; omega
    have HE : Hid (¬ zs = ys) := Lib.hid (fun h => hlen (by rw [h]))
    have HLEN := Lib.hid hlen
    clear hlen
    go_enter Tryz.func160, Tryz.ntmps160
    go_wp2
    go_ret
    exact ⟨ret_bool (by symm; simpa using HE.out), Below.refl _ _⟩
def sameWB (ns ls ns' ls' : List (Int × Int)) : Bool := decide (ns = ns') && decide (ls = ls')
theorem slicesEqualNode_at (v u : Value) (zs ys : List (Int × Int)) (b : Bool) (w : World) (hv : RP w v zs) (hu : RP w u ys) (hx : Hid (decide (zs = ys) = b)) :
    Calls Tryz.prog 159 #[v, u] w fun e w' => e = .returned (.bool b) ∧ Below w.heap.size w w' :=
  (slicesEqualNode_any v u zs ys w hv hu).mono fun e w' ⟨he, hw⟩ => ⟨he.trans (ret_bool hx.out), hw⟩
set_option maxHeartbeats 2000000 in
set_option maxRecDepth 100000 in
theorem iSameWindow_any (vn vl un ul : Value) (ns ls ns' ls' : List (Int × Int)) (w : World) (hn : RP w vn ns) (hl : RP w vl ls) (hn' : RP w un ns') (hl' : RP w ul ls') :
    Calls Tryz.prog 88 #[.agg #[vn, vl], .agg #[un, ul]] w fun e w' => e = .returned (.bool (sameWB ns ls ns' ls')) ∧ Below w.heap.size w w' := by
  cases h1 : decide (ns = ns')
  · have HF : Hid (sameWB ns ls ns' ls' = false) := Lib.hid (by simp [sameWB, h1])
    have H1 := Lib.hid h1
    clear h1
    go_enter Tryz.func88, Tryz.ntmps88
    go_wp2_with fail
    refine (slicesEqualNode_at _ _ ns ns' _ _ (hn.below (by exact bel_)) (hn'.below (by exact bel_)) H1).mono ?_
    rintro e w1 ⟨rfl, hb1⟩; (first | (with_reducible have hcf1 := bcell_drew hb1) | have hcf1 := bcell hb1); obtain ⟨hc1, hf1⟩ := hcf1; have hz1 := hb1.size; (try simp at hz1); (try have hp1_0 : w.heap.size < w1.heap.size := by omega); (try have hp1_1 : w.heap.size + 1 < w1.heap.size := by omega); (try have hp1_2 : w.heap.size + 1 + 1 < w1.heap.size := by omega); (try have hp1_3 : w.heap.size + 1 + 1 + 1 < w1.heap.size := by omega)
    go_wp2
    go_ret
    exact ⟨ret_bool HF.out.symm, by exact bel_⟩
  · have HF : Hid (sameWB ns ls ns' ls' = decide (ls = ls')) := Lib.hid (by simp [sameWB, h1])
    have H1 := Lib.hid h1
    clear h1
    go_enter Tryz.func88, Tryz.ntmps88
    go_wp2_with fail
    refine (slicesEqualNode_at _ _ ns ns' _ _ (hn.below (by exact bel_)) (hn'.below (by exact bel_)) H1).mono ?_
    rintro e w1 ⟨rfl, hb1⟩; (first | (with_reducible have hcf1 := bcell_drew hb1) | have hcf1 := bcell hb1); obtain ⟨hc1, hf1⟩ := hcf1; have hz1 := hb1.size; (try simp at hz1); (try have hp1_0 : w.heap.size < w1.heap.size := by omega); (try have hp1_1 : w.heap.size + 1 < w1.heap.size := by omega); (try have hp1_2 : w.heap.size + 1 + 1 < w1.heap.size := by omega); (try have hp1_3 : w.heap.size + 1 + 1 + 1 < w1.heap.size := by omega)
    have hbw1 : Below w.heap.size w w1 := by exact bel_
    go_wp2_with fail
    refine (slicesEqualLead_any _ _ ls ls' _ (hl.below hbw1) (hl'.below hbw1)).mono ?_
    rintro e w2 ⟨rfl, hb2⟩; (first | (with_reducible have hcf2 := bcell_drew hb2) | have hcf2 := bcell hb2); obtain ⟨hc2, hf2⟩ := hcf2; have hz2 := hb2.size; (try simp at hz2); (try have hp2_0 : w.heap.size < w2.heap.size := by omega); (try have hp2_1 : w.heap.size + 1 < w2.heap.size := by omega); (try have hp2_2 : w.heap.size + 1 + 1 < w2.heap.size := by omega); (try have hp2_3 : w.heap.size + 1 + 1 + 1 < w2.heap.size := by omega)
    rw [← HF.out]
    go_wp2
    go_ret
    exact ⟨rfl, by exact bel_⟩
end Go.Proofs.YtnjcpljhmhdhkaaGreat

namespace Go.Proofs.YtnjcpljhmhdhkaaGreat
open Go.ChangeShapes Go.WideShapes Go.ChangeAt Go.RowKit
theorem ownK : ownKnob Tryz.prog.godebug = none := by kernel_rfl
theorem laidOutK : laidOutB Tryz.prog = true := by kernel_rfl
theorem mapsRowedK : mapsRowed Tryz.prog = true := by kernel_rfl
def blankC : Char := Char.ofNat 32
def joinW : List (List Char) → List Char
  | [] => []
  | [w] => w
  | w :: v :: r => w ++ blankC :: joinW (v :: r)
theorem words_one : ∀ (w : List Char), (w.all fun c => c != blankC) = true → wordsSigns w = [w]
  | [], _ => rfl
  | c :: w, h => by
    simp only [List.all_cons, Bool.and_eq_true] at h
    have ih := words_one w h.2
    have hc : c ≠ blankC := by simpa using h.1
    unfold wordsSigns
    split
    · rename_i heq; cases heq
    · rename_i heq; injection heq with h1 _; exact absurd h1 hc
    · rename_i heq; injection heq with h1 h2; subst h1 h2; rw [ih]
theorem words_cons : ∀ (w r : List Char), (w.all fun c => c != blankC) = true → wordsSigns (w ++ blankC :: r) = w :: wordsSigns r
  | [], r, _ => rfl
  | c :: w, r, h => by
    simp only [List.all_cons, Bool.and_eq_true] at h
    have ih := words_cons w r h.2
    have hc : c ≠ blankC := by simpa using h.1
    rw [List.cons_append, wordsSigns.eq_def]
    split
    · rename_i heq; cases heq
    · rename_i heq; injection heq with h1 _; exact absurd h1 hc
    · rename_i heq; injection heq with h1 h2; subst h1 h2; rw [ih]
theorem words_join : ∀ (ws : List (List Char)), ws ≠ [] → (ws.all fun w => w.all fun c => c != blankC) = true → wordsSigns (joinW ws) = ws
  | [], h, _ => absurd rfl h
  | [w], _, h => by
    simp only [List.all_cons, List.all_nil, Bool.and_true] at h
    exact words_one w h
  | w :: v :: r, _, h => by
    rw [List.all_cons, Bool.and_eq_true] at h
    show wordsSigns (w ++ blankC :: joinW (v :: r)) = _
    rw [words_cons w _ h.1, words_join (v :: r) (by simp) h.2]
def headW : List (List Char) :=
  [[104, 97, 114, 110, 101, 115, 115],
    [98, 54, 97, 101, 99, 48, 57, 97, 48, 57, 100, 99, 50, 51, 56, 54, 52, 102, 52, 57, 99, 99, 52, 54, 49, 97, 56, 52, 51, 48, 50, 57, 98, 100, 102, 99, 48, 49, 48, 51, 56, 49, 54, 57, 48, 50, 99, 50, 49, 56, 101, 49, 101, 55, 55, 49, 98, 48, 57, 55, 51, 50, 97, 52],
    [99, 117, 116],
    [97, 116],
    [108, 111, 111, 112, 46, 101, 120, 97, 109, 112, 108, 101, 47, 103, 48, 51, 51, 48, 51, 47, 108, 97, 119, 115, 46, 70, 110, 84, 111, 112],
    [108, 111, 111, 112, 46, 101, 120, 97, 109, 112, 108, 101, 47, 103, 48, 51, 51, 48, 51, 47, 108, 97, 119, 115, 46, 70, 110, 69, 120, 97, 99, 116, 83, 119, 97, 112, 67, 111, 108, 111, 114, 115],
    [108, 111, 111, 112, 46, 101, 120, 97, 109, 112, 108, 101, 47, 103, 48, 51, 51, 48, 51, 47, 108, 97, 119, 115, 46, 70, 110, 69, 120, 97, 99, 116, 67, 111, 108, 111, 114, 65, 108, 108],
    [108, 111, 111, 112, 46, 101, 120, 97, 109, 112, 108, 101, 47, 103, 48, 51, 51, 48, 51, 47, 108, 97, 119, 115, 46, 70, 110, 83, 116, 117, 100, 105, 111, 115],
    [108, 111, 111, 112, 46, 101, 120, 97, 109, 112, 108, 101, 47, 103, 48, 51, 51, 48, 51, 47, 108, 97, 119, 115, 46, 70, 110, 69, 120, 97, 99, 116, 83, 116, 111, 114, 101, 80, 97, 110, 101],
    [108, 111, 111, 112, 46, 101, 120, 97, 109, 112, 108, 101, 47, 103, 48, 51, 51, 48, 51, 47, 108, 97, 119, 115, 46, 70, 110, 82, 101, 112, 108, 97, 121, 115],
    [108, 111, 111, 112, 46, 101, 120, 97, 109, 112, 108, 101, 47, 103, 48, 51, 51, 48, 51, 47, 108, 97, 119, 115, 46, 70, 110, 83, 99, 101, 110, 97, 114, 105, 111, 115],
    [108, 111, 111, 112, 46, 101, 120, 97, 109, 112, 108, 101, 47, 103, 48, 51, 51, 48, 51, 47, 108, 97, 119, 115, 46, 70, 110, 69, 120, 97, 99, 116, 73, 115, 82, 101, 112, 108, 97, 121],
    [108, 111, 111, 112, 46, 101, 120, 97, 109, 112, 108, 101, 47, 103, 48, 51, 51, 48, 51, 47, 108, 97, 119, 115, 46, 70, 110, 69, 120, 97, 99, 116, 68, 111, 65, 99, 116],
    [108, 111, 111, 112, 46, 101, 120, 97, 109, 112, 108, 101, 47, 103, 48, 51, 51, 48, 51, 47, 108, 97, 119, 115, 46, 70, 110, 69, 120, 97, 99, 116, 82, 117, 110, 65, 99, 116, 115]].map fun w => w.map Char.ofNat
theorem headK : wordsSigns Tryz.prog.initOrder.toList = headW := by
  have h : Tryz.prog.initOrder = String.ofList (joinW headW) := by kernel_rfl
  rw [h, String.toList_ofList]
  exact words_join headW (by decide) (by kernel_rfl)
theorem headWords : behindMainWord (wordsSigns Tryz.prog.initOrder.toList) = behindMainWord headW := by rw [headK]
theorem cutW : behindMainWord headW = "cut".toList :: headW.drop 3 := by kernel_rfl
theorem make_of {P : Program} {r : List (List Char)} (h : behindMainWord (wordsSigns P.initOrder.toList) = "cut".toList :: r) : P.make = some .cut := by
  unfold Program.make
  rw [h]
  show (if _ then _ else _) = _
  rw [if_neg (by decide), if_pos (by simp)]
theorem enter_of {P : Program} {r : List (List Char)} (h : behindMainWord (wordsSigns P.initOrder.toList) = "cut".toList :: r) (hs : stripLifts liftWords ("cut".toList :: r) = ([], "cut".toList :: r))
    (hd : P.doorFits [] = true) (hl : P.laysLater = false) (hb : P.bearsReflect = false) : P.mayEnter = true := by
  unfold Program.mayEnter
  rw [h]
  show (_ || _ || _) = true
  rw [hs, hd, hl, hb]
  simp only [Bool.or_eq_true]
  exact .inr (by simp)
theorem lifts_of {P : Program} {r : List (List Char)} (h : behindMainWord (wordsSigns P.initOrder.toList) = "cut".toList :: r) (hs : stripLifts liftWords ("cut".toList :: r) = ([], "cut".toList :: r)) : P.liftsFinal = false := by
  unfold Program.liftsFinal Program.headLifts
  rw [h, hs]
  have e : ("cut".toList == "carried".toList) = false := by decide
  simp [e]
theorem cutK : behindMainWord (wordsSigns Tryz.prog.initOrder.toList) = "cut".toList :: headW.drop 3 := headWords.trans cutW
theorem stripK : stripLifts liftWords ("cut".toList :: headW.drop 3) = ([], "cut".toList :: headW.drop 3) := by kernel_rfl
theorem doorK : Tryz.prog.doorFits [] = true := by kernel_rfl
theorem laterK : Tryz.prog.laysLater = false := by kernel_rfl
theorem reflectK : Tryz.prog.bearsReflect = false := by kernel_rfl
theorem mayEnterK : Tryz.prog.mayEnter = true := enter_of cutK stripK doorK laterK reflectK
theorem makeK : Tryz.prog.make = some .cut := make_of cutK
theorem liftsK : Tryz.prog.liftsFinal = false := lifts_of cutK stripK
theorem lift_eq {c : OpenClaim} (h : c.lifted = false) : (c.lifted == Tryz.prog.liftsFinal) = true := by rw [h, liftsK]; rfl
theorem make_eq {c : OpenClaim} (h : c.make = .cut) : (Tryz.prog.make == some c.make) = true := by rw [makeK, h]; rfl
section
variable {H : Type} {enc : TypeId × Value → H} {P : Program}
theorem trodAll_stays {ts : List TypeId} (hl : laidOutB P = true) {W W' : World} (hb : Below W.heap.size W W') {sp : Nat → Bool} :
    ∀ {vs : List Value} {ds : List (DataW H)} {ps : List MemPlace}, (∀ t ∈ ts, P.readableRec t = true ∧ t < P.types.size) →
      DataW.TrodAll enc P W 0 (fun _ => true) true ts vs ds ps → (∀ x ∈ ps, x.block < W.heap.size) → (∀ x ∈ ps, sp x.block = true) → DataW.TrodAll enc P W' 0 sp true ts vs ds ps := by
  induction ts with
  | nil =>
    intro vs ds ps _ h _ _
    obtain ⟨rfl, rfl, rfl⟩ := trodAll_nil h
    exact trodAll_mk0
  | cons t ts ih =>
    intro vs ds ps hr h hlt hsp
    obtain ⟨v, vs', d, ds', p, q, hargs, rfl, rfl, hd, hrest⟩ := trodAll_cons h
    subst hargs
    obtain ⟨h1, h2⟩ := hr t (by simp)
    refine trodAll_cons_mk ?_ (ih (fun t' ht' => hr t' (by simp [ht'])) hrest (fun x hx => hlt x (by simp [hx])) (fun x hx => hsp x (by simp [hx])))
    exact WideElems.Trod_stays hl h1 h2 hd (fun x hx => hb.same (hlt x (by simp [hx]))) (fun x hx => hsp x (by simp [hx]))
theorem post_of_below {f : Func} {s : ChangeSpec} {apart fresh handsOn again : Bool} {W W' : World} {args : Array Value} {v : Value} {ds gs : List (DataW H)} {before pa pv : List MemPlace}
    (hW : DataW.Whole enc P f.params.toList s.vars apart W args.toList ds gs before)
    (hres : ∀ (b : Nat) (sp : Nat → Bool) (hd : Bool), DataW.TrodAll enc P W' b sp hd f.resultTypes.toList (v.resultList f.resultTypes.size) (s.fn H (ds ++ gs)).results [])
    (hargs : ∀ sp : Nat → Bool, (∀ p ∈ before, sp p.block = true) → DataW.TrodAll enc P W' 0 sp true f.params.toList args.toList (s.fn H (ds ++ gs)).args pa)
    (hvars : ∀ sp : Nat → Bool, (∀ p ∈ before, sp p.block = true) → DataW.TrodVars enc P W' sp s.vars (s.fn H (ds ++ gs)).vars pv)
    (hps : before = pa ++ pv) (hb : Below W.heap.size W W')
    (hok : ∀ (j : Nat) (t : TypeId) (r : Value), f.resultTypes[j]? = some t → (v.resultList f.resultTypes.size)[j]? = some r → Value.okWide P W' .any 0 t r) :
    s.post enc P f apart fresh handsOn again W args v W' := by
  have hlt : ∀ p ∈ before, p.block < W.heap.size := fun p hp => hW.lt p hp
  have hold : ∀ p ∈ before, (fun b => decide (b < W.heap.size)) p.block = true := fun p hp => by simpa using hlt p hp
  refine ⟨ds, gs, before, [], pa, pv, hW, hres _ _ _, hargs _ hold, hvars _ hold, World.keptBut_mono (fun p hp => ⟨hp, ?_⟩) (hb.frame (· ∈ before)), fun _ => ?_⟩
  · rw [hps, List.mem_append] at hp
    exact Or.inr hp
  · obtain ⟨_, _, _, _, _, hz, hn⟩ := hW
    refine ⟨hok, _, _, ([] ++ pa) ++ pv, ⟨[] ++ pa, pv, trodAll_append (hargs _ (fun _ _ => rfl)) (hres _ _ _), hvars _ (fun _ _ => rfl), rfl, ?_, ?_⟩, ?_⟩
    · intro b off hp
      have hin : MemPlace.cell b off ∈ before := by rw [hps]; simpa using hp
      rw [hb.frozen (hlt _ hin)]
      exact hz b off hin
    · intro ha
      have := hn ha
      rw [hps] at this
      simpa using this
    · intro p hp _
      rw [hps]
      simpa using hp
theorem law_post {f : Func} {s : ChangeSpec} {apart fresh handsOn again : Bool} {W W' : World} {args : Array Value} {ds gs : List (DataW H)} {before : List MemPlace} {tb : TypeId}
    (hl : laidOutB P = true) (ht : P.underlying tb = some .bool) (hrt : f.resultTypes = #[tb]) (hv : s.vars = [])
    (hfn : ∀ ds : List (DataW H), ds.length = f.params.size → s.fn H (ds ++ []) = { results := [.lit (.bool true)], args := ds })
    (hp : ∀ t ∈ f.params.toList, P.readableRec t = true ∧ t < P.types.size)
    (hW : DataW.Whole enc P f.params.toList s.vars apart W args.toList ds gs before) (hlen : ds.length = f.params.size) (hb : Below W.heap.size W W') : s.post enc P f apart fresh handsOn again W args (.bool true) W' := by
  have hW' := hW
  obtain ⟨p, q, hA, hV, rfl, hfz, hnd⟩ := hW
  rw [hv] at hV
  obtain ⟨rfl, rfl⟩ := trodVars_none hV
  have hlt : ∀ x ∈ p, x.block < W.heap.size := fun x hx => hW'.lt x (by simp [hx])
  refine post_of_below (pa := p) (pv := []) hW' ?_ ?_ ?_ rfl hb ?_
  · intro b sp hd
    rw [hfn ds hlen, hrt]
    exact trodAll_mk1 (shut_bool ht true)
  · intro sp hsp
    rw [hfn ds hlen]
    exact trodAll_stays hl hb hp hA hlt (fun x hx => hsp x (by simp [hx]))
  · intro sp _
    rw [hfn ds hlen, hv]
    exact rfl
  · exact ok_one hrt rfl (okWide_bool_mk ht true)
end
end Go.Proofs.YtnjcpljhmhdhkaaGreat
