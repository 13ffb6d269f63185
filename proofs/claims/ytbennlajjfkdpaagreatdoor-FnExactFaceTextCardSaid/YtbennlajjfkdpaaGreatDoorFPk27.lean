/- part 27 -/
import Derived.Test.YtbennlajjfkdpaaGreatDoorFPk21
import Derived.Test.YtbennlajjfkdpaaGreatDoorFPk26
set_option linter.unusedSimpArgs false
set_option linter.unusedVariables false
namespace Go.Proofs.YtbennlajjfkdpaaGreatDoor
open Go.RowKit
def idxN (l : List Nat) (d : Nat) : Int := if d ∈ l then (l.idxOf d : Int) else -1
theorem idxN_no {l : List Nat} {d : Nat} (h : d ∉ l) : idxN l d = -1 := by simp [idxN, h]
theorem idxN_at {l : List Nat} {d k : Nat} (hk : k < l.length) (h : d ∉ l.take k) (hp : l.getD k 0 = d) : idxN l d = k := by
  have hp' : l[k] = d := by simpa [List.getD, hk] using hp
  have e : l = l.take k ++ d :: l.drop (k + 1) := by
    rw [← hp', ← List.drop_eq_getElem_cons hk, List.take_append_drop]
  have hm : d ∈ l := by rw [e]; simp
  unfold idxN
  rw [if_pos hm]
  have : l.idxOf d = k := by
    rw [e, List.idxOf_append, if_neg h, List.idxOf_cons_self]
    simp; omega
  rw [this]
theorem natI_get (l : List Nat) (k : Nat) : (natI l).getD k 0 = ((l.getD k 0 : Nat) : Int) := by
  unfold natI
  simp only [List.getD, List.getElem?_map]
  cases l[k]? <;> rfl
theorem not_take_succ {l : List Nat} {d k : Nat} (hk : k < l.length) (h : d ∉ l.take k) (hne : l.getD k 0 ≠ d) : d ∉ l.take (k + 1) := by
  rw [List.take_succ_eq_append_getElem hk, List.mem_append, List.mem_singleton]
  rintro (h2 | h2)
  · exact h h2
  · apply hne
    rw [h2]
    simp [List.getD, hk]
set_option maxHeartbeats 2000000 in
set_option maxRecDepth 100000 in
theorem indexInt_any (v : Value) (l : List Nat) (d : Nat) (w : World) (h : RI w v (natI l)) :
    Calls Tryz.prog 105 #[v, .int .i64 d] w fun e w' => e = .returned (.int .i64 (idxN l d)) ∧ w = w' := by
  obtain ⟨A, c, rfl, hc, hm, hcell⟩ := h.form
  rw [natI_length] at hc hm hcell ⊢
  unfold maxLen at hm
  clear h
  go_enter Tryz.func105, Tryz.ntmps105
  go_wp2
  go_loop [8] (fun i => ∃ k : Nat, k ≤ l.length ∧ i = .int .i64 k ∧ Hid (d ∉ l.take k)) (fun i => l.length - (intOf i).toNat)
  case atStart => exact ⟨0, Nat.zero_le _, rfl, Lib.hid (by simp)⟩
  case round =>
    obtain ⟨k, hk, rfl, HT⟩ := hrel
    by_cases hlt : k < l.length
    · obtain ⟨b, off, rfl, hb, hcl⟩ := hcell (by omega)
      have hck := hcl k hlt
      rw [natI_get] at hck
      clear hcl hcell
      have HS := Lib.hid (fun hne => not_take_succ hlt HT.out hne)
      have HY := Lib.hid (fun he => idxN_at hlt HT.out he)
      generalize l.getD k 0 = x at *
      by_cases he : x = d
      · have e1 : ((d : Int) == (x : Int)) = true := by simp [he]
        have e2 : ((x : Int) == (d : Int)) = true := by simp [he]
        have HX := Lib.hid (HY.out he)
        clear he
        go_wp2
        go_ret
        exact ⟨ret_int HX.out.symm, rfl⟩
      · have e1 : ((d : Int) == (x : Int)) = false := by simp; omega
        have e2 : ((x : Int) == (d : Int)) = false := by simp; omega
        have HX := Lib.hid (HS.out he)
        clear he
        go_wp2
        go_round
        case rel => exact ⟨k + 1, by omega, by go_num, HX⟩
        case measure => simp [intOf]; omega
    · have hkk : l.length ≤ k := by omega
      have h := HT.out
      rw [List.take_of_length_le hkk] at h
      have HX : Hid (idxN l d = -1) := Lib.hid (idxN_no h)
      clear h hcell
      go_wp2
      go_ret
      exact ⟨ret_int HX.out.symm, rfl⟩
theorem idxN_in {l : List Nat} {d : Nat} (h : d ∈ l) : idxN l d = (l.idxOf d : Int) := by simp [idxN, h]
theorem ring_facts {ns ls : List Pr} (hwin : WinOk ns ls) {d : Nat} (hd : d < 2 * ls.length) : ∃ (t : Nat) (G : List Nat) (i q : Nat), dFrom ls d = (t : Int) ∧ t < ns.length ∧ ardS ns ls t (2 * ls.length) = G ∧ idxN G d = (i : Int) ∧ i < G.length ∧ G.length ≤ 12 ∧ G.getD i 0 = d ∧ d ∉ G.take i ∧
    (i + G.length - 1) % G.length = q ∧ q < G.length ∧ G.getD q 0 = lastD ns ls d := by
  have hld : ∀ j : Nat, j < ls.length → leadB ns (ndI ls j) = true := fun j hj => (hwin.2.2.2.2.2 j hj).1
  obtain ⟨t, ht, htn⟩ := dFrom_nat hld hd
  have hr : ringD ns ls d = ardS ns ls t (2 * ls.length) := by unfold ringD; rw [ht, Int.toNat_natCast]
  have hm := ring_self hld hd
  have hil := List.idxOf_lt_length_of_mem hm
  have hpos := List.length_pos_of_mem hm
  have h12 := frD_le hwin t
  have hAS := iso_ard ns ls t (2 * ls.length)
  have hlen : (ringD ns ls d).length = (frD ls t (2 * ls.length)).length := by rw [hr, ← hAS, isoK_len _ _ _ (Nat.le_refl _)]
  refine ⟨t, ringD ns ls d, (ringD ns ls d).idxOf d, _, ht, htn, hr.symm, idxN_in hm, hil, by omega, ?_, ?_, rfl, Nat.mod_lt _ hpos, rfl⟩
  · rw [List.getD, List.getElem?_eq_getElem hil, List.getElem_idxOf hil]; rfl
  · intro hc
    have hn : (ringD ns ls d).Nodup := ardS_nodup _ _ _ _
    obtain ⟨j, hj, e⟩ := List.getElem_of_mem hc
    rw [List.length_take] at hj
    rw [List.getElem_take] at e
    have e2 := List.getElem_idxOf hil
    have := (List.getElem_inj hn (h₀ := by omega) (h₁ := hil)).1 (e.trans e2.symm)
    omega
set_option maxHeartbeats 4000000 in
set_option maxRecDepth 100000 in
theorem iBeside_any (vn vl : Value) (ns ls : List Pr) (d : Nat) (w : World) (hn : RP w vn ns) (hl : RP w vl ls) (hd : d < 2 * ls.length) (hwin : WinOk ns ls) :
    Calls Tryz.prog 91 #[.agg #[vn, vl], .int .i64 d, .int .i64 (-1)] w fun e w' => e = .returned (.int .i64 (lastD ns ls d)) ∧ Below w.heap.size w w' := by
  obtain ⟨t, G, i, q, ht, htn, hG, hidx, hil, h12, _, _, hq, hql, hlast⟩ := ring_facts hwin hd
  have HW := Lib.hid hwin
  have B0 : Blk (w.alloc (.cells #[vn, vl] 31)) w.heap.size 31 #[vn, vl] := Blk.newAt rfl
  have hb0 : Below w.heap.size w (w.alloc (.cells #[vn, vl] 31)) := by exact bel_
  have HBF := Lib.hid (fun (v : World) (hv : Below w.heap.size w v) => iFrom_any vn vl ls d v (hl.below hv) hd)
  have HAR := Lib.hid (fun (v : World) (hv : Below w.heap.size w v) => iAround_any vn vl ns ls t v (hn.below hv) (hl.below hv) htn HW.out)
  rw [ht] at HBF
  rw [hG] at HAR
  rw [← hlast]
  obtain ⟨x, hx⟩ : ∃ x, G.getD q 0 = x := ⟨_, rfl⟩
  rw [hx]
  have HX := Lib.hid hx
  clear hx
  have HID := Lib.hid hidx
  clear hidx hlast hG hwin ht
  have HQ := Lib.hid hq
  clear hq
  go_enter Tryz.func91, Tryz.ntmps91
  go_wp2_with fail
  go_region_held3 (fun w' => w'.cell? ⟨w.heap.size, 0, none⟩ = some vn ∧ w'.cell? ⟨w.heap.size, 1, none⟩ = some vl)
    (go_keep)
    (first | (go_at_call 45; refine (HBF.out _ (by exact bel_)).mono ?_; rintro e w1 ⟨rfl, hb1⟩; (first | (with_reducible have hc1 := bdC hb1) | have hc1 := bcC hb1); (first | (with_reducible have hf1 := bdF hb1) | have hf1 := bcF hb1); have hz1 := hb1.size; (try simp at hz1); (try have hp1_0 := p0_ w w1); (try have hp1_1 := p1_ w w1); (try have hp1_2 := p2_ w w1); (try have hp1_3 := p3_ w w1); have hbw1 : Below w.heap.size w w1 := (by exact bel_)) | (go_at_call 104; refine (HAR.out _ (by exact bel_)).mono ?_; rintro e w2 ⟨v2, rfl, ho2, hb2⟩; (first | (with_reducible have hc2 := bdC hb2) | have hc2 := bcC hb2); (first | (with_reducible have hf2 := bdF hb2) | have hf2 := bcF hb2); have hz2 := hb2.size; (try simp at hz2); (try have hp2_0 := p0_ w w2); (try have hp2_1 := p1_ w w2); (try have hp2_2 := p2_ w w2); (try have hp2_3 := p3_ w w2)))
  have hbw2 : Below w.heap.size w w2 := by exact bel_
  have hri := ho2.reads
  obtain ⟨A, c, rfl, hc, hm, hcell⟩ := hri.form
  rw [natI_length] at hc hm hcell hri ⊢
  obtain ⟨b, off, rfl, hbb, hcl⟩ := hcell (by omega)
  have hck := hcl q hql
  rw [natI_get] at hck
  clear hcl hcell hc1 hf1 hc2 hf2
  rw [HX.out] at hck
  have e1 : (i : Int) + -1 + (G.length : Int) = ((i + G.length - 1 : Nat) : Int) := by omega
  have e2 : ((i + G.length - 1 : Nat) : Int).tmod (G.length : Int) = (q : Int) := by
    rw [Int.tmod_eq_emod_of_nonneg (Int.natCast_nonneg _), ← Int.natCast_emod, HQ.out]
  have e3 : ((G.length : Int) == 0) = false := beq_eq_false_iff_ne.2 (by omega)
  have n0 : (G.length : Int) ≠ 0 := by omega
  have i1 : (0 : Int) ≤ (q : Int) := by omega
  have i2 : (q : Int) < (G.length : Int) := by omega
  go_wp2_with fail
  refine (indexInt_any _ G d _ hri).mono ?_
  rintro e w3 ⟨rfl, rfl⟩
  rw [HID.out]
  go_wp2
  go_ret
  exact ⟨rfl, by exact bel_⟩
set_option maxHeartbeats 4000000 in
set_option maxRecDepth 100000 in
theorem sStepD_any (vn vl : Value) (ns ls : List Pr) (d : Nat) (w : World) (hn : RP w vn ns) (hl : RP w vl ls) (hd : d < 2 * ls.length) (hwin : WinOk ns ls) :
    Calls Tryz.prog 102 #[.agg #[vn, vl], .int .i64 d, .int .i64 (-1)] w fun e w' => e = .returned (.int .i64 (lastD ns ls d)) ∧ Below w.heap.size w w' := by
  obtain ⟨t, G, i, q, ht, htn, hG, hidx, hil, h12, hgi, hni, hq, hql, hlast⟩ := ring_facts hwin hd
  have hld : ∀ j : Nat, j < ls.length → leadB ns (ndI ls j) = true := fun j hj => (hwin.2.2.2.2.2 j hj).1
  have HLD := Lib.hid hld
  have HNI := Lib.hid hni
  have HGI := Lib.hid hgi
  have HM := Lib.hid (And.intro hwin.2.2.1 hwin.2.1)
  rw [← hlast]
  obtain ⟨x, hx⟩ : ∃ x, G.getD q 0 = x := ⟨_, rfl⟩
  rw [hx]
  have HX := Lib.hid hx
  clear hx
  have HG := Lib.hid hG
  have HT := Lib.hid ht
  clear hidx hlast hG hwin ht hni hgi hld
  have HQ := Lib.hid hq
  clear hq
  go_enter Tryz.func102, Tryz.ntmps102
  go_wp2_with fail
  refine (sEnds_any _ _ ls d _ (hl.below (by exact bel_)) hd).mono ?_
  rintro e w1 ⟨rfl, hb1⟩; (first | (with_reducible have hc1 := bdC hb1) | have hc1 := bcC hb1); (first | (with_reducible have hf1 := bdF hb1) | have hf1 := bcF hb1); have hz1 := hb1.size; (try simp at hz1); (try have hp1_0 := p0_ w w1); (try have hp1_1 := p1_ w w1); (try have hp1_2 := p2_ w w1); (try have hp1_3 := p3_ w w1)
  have hbw1 : Below w.heap.size w w1 := by exact bel_
  rw [HT.out]
  go_wp2_with fail
  refine (sAround_any _ _ ns ls t _ (hn.below hbw1) (hl.below hbw1) htn HM.out.1 HM.out.2 HLD.out).mono ?_
  rw [HG.out]
  rintro e w2 ⟨v2, rfl, ho2, hb2⟩
  have hbw2 := hbw1.trans (hb2.mono hbw1.size)
  have hri := ho2.reads
  obtain ⟨A, c, rfl, hc, hm, hcell⟩ := hri.form
  rw [natI_length] at hc hm hcell hri ⊢
  obtain ⟨b, off, rfl, hbb, hcl⟩ := hcell (by omega)
  have hck := hcl q hql
  rw [natI_get] at hck
  have HCL := Lib.hid hcl
  clear hcl hcell hc1 hf1 hb1 hb2 ho2
  rw [HX.out] at hck
  have e1 : (i : Int) + -1 + (G.length : Int) = ((i + G.length - 1 : Nat) : Int) := by omega
  have e2 : ((i + G.length - 1 : Nat) : Int).tmod (G.length : Int) = (q : Int) := by
    rw [Int.tmod_eq_emod_of_nonneg (Int.natCast_nonneg _), ← Int.natCast_emod, HQ.out]
  have e3 : ((G.length : Int) == 0) = false := beq_eq_false_iff_ne.2 (by omega)
  have n0 : (G.length : Int) ≠ 0 := by omega
  have i1 : (0 : Int) ≤ (q : Int) := by omega
  have i2 : (q : Int) < (G.length : Int) := by omega
  go_wp2
  go_loop [10] (fun y => ∃ k : Nat, k ≤ i ∧ y = .int .i64 k) (fun y => i + 1 - (intOf y).toNat)
  case atStart => exact ⟨0, Nat.zero_le _, rfl⟩
  case round =>
    obtain ⟨k, hk, rfl⟩ := hrel
    have hkl : k < G.length := by omega
    have hkc := HCL.out k hkl
    rw [natI_get] at hkc
    by_cases hki : k = i
    · subst hki
      rw [HGI.out] at hkc
      have e4 : ((d : Int) == (d : Int)) = true := by simp
      go_wp2
      go_ret
      exact ⟨rfl, hbw2⟩
    · have hne : G.getD k 0 ≠ d := by
        intro h
        apply HNI.out
        rw [← h, List.getD, List.getElem?_eq_getElem hkl]
        simp only [Option.getD_some]
        rw [List.mem_take_iff_getElem]
        exact ⟨k, by omega, rfl⟩
      generalize G.getD k 0 = y at *
      have e4 : ((y : Int) == (d : Int)) = false := by simp; omega
      clear hne
      go_wp2
      go_round
      case rel => exact ⟨k + 1, by omega, by go_num⟩
      case measure => simp [intOf]; omega
theorem twin_xor_int (d : Nat) (h : d < 1000000) : bits .xor .i64 (d : Int) 1 = ((twin d : Nat) : Int) := by
  have x := bits_xor_nat (a := d) (b := 1) (by omega) (by omega)
  rw [twin_xor] at x
  exact x
set_option maxHeartbeats 1000000 in
set_option maxRecDepth 100000 in
theorem sNext_any (vn vl : Value) (ns ls : List Pr) (d : Nat) (w : World) (hn : RP w vn ns) (hl : RP w vl ls) (hd : d < 2 * ls.length) (hwin : WinOk ns ls) :
    Calls Tryz.prog 89 #[.agg #[vn, vl], .int .i64 d] w fun e w' => e = .returned (.int .i64 (nextD ns ls d)) ∧ Below w.heap.size w w' := by
  have hm20 := hwin.2.2.1
  have x1 := twin_xor_int d (by omega)
  have hb0 : Below w.heap.size w (w.alloc (.cells #[vn, vl] 31)) := by exact bel_
  have HC := Lib.hid (fun (v : World) (hv : Below w.heap.size w v) => sStepD_any vn vl ns ls (twin d) v (hn.below hv) (hl.below hv) (twin_lt hd) hwin)
  have HR : Hid (nextD ns ls d = lastD ns ls (twin d)) := Lib.hid rfl
  generalize twin d = e at *
  clear hwin
  go_enter Tryz.func89, Tryz.ntmps89
  go_wp2_with fail
  refine (HC.out _ hb0).mono ?_
  rintro e w1 ⟨rfl, hb1⟩; (first | (with_reducible have hc1 := bdC hb1) | have hc1 := bcC hb1); (first | (with_reducible have hf1 := bdF hb1) | have hf1 := bcF hb1); have hz1 := hb1.size; (try simp at hz1); (try have hp1_0 := p0_ w w1); (try have hp1_1 := p1_ w w1); (try have hp1_2 := p2_ w w1); (try have hp1_3 := p3_ w w1)
  go_wp2
  go_ret
  exact ⟨ret_int (by rw [HR.out]), by exact bel_⟩
end Go.Proofs.YtbennlajjfkdpaaGreatDoor
