/- part 30 -/
import Derived.Test.YtnjcpljhmhdhkaaGreatCPk29
set_option linter.unusedSimpArgs false
set_option linter.unusedVariables false
namespace Go.Proofs.YtnjcpljhmhdhkaaGreat
theorem orb_add (ns ls : List Pr) (d i : Nat) : ∀ j, orbD ns ls d (i + j) = orbD ns ls (orbD ns ls d i) j
  | 0 => rfl
  | j + 1 => by show nextD ns ls (orbD ns ls d (i + j)) = _; rw [orb_add ns ls d i j]; rfl
theorem orb_mul {ns ls : List Pr} {d p : Nat} (h : orbD ns ls d p = d) : ∀ q, orbD ns ls d (p * q) = d
  | 0 => rfl
  | q + 1 => by rw [Nat.mul_succ, orb_add, orb_mul h q, h]
section
variable {ns ls : List Pr} (hld : ∀ j : Nat, j < ls.length → leadB ns (ndI ls j) = true)
include hld
theorem walk_mem {d : Nat} (hd : d < 2 * ls.length) (e : Nat) : e ∈ walkD ns ls d ↔ ∃ i, orbD ns ls d i = e := by
  obtain ⟨h1, _, h3, _⟩ := per_spec hld hd
  unfold walkD walkK
  rw [List.mem_map]
  constructor
  · rintro ⟨i, _, h⟩; exact ⟨i, h⟩
  · rintro ⟨i, rfl⟩
    refine ⟨i % perD ns ls d, List.mem_range.2 (Nat.mod_lt _ h1), ?_⟩
    have e : orbD ns ls d (perD ns ls d * (i / perD ns ls d) + i % perD ns ls d) = orbD ns ls d (i % perD ns ls d) := by rw [orb_add, orb_mul h3]
    rw [← e, Nat.div_add_mod]
theorem walk_self {d : Nat} (hd : d < 2 * ls.length) : d ∈ walkD ns ls d := (walk_mem hld hd d).2 ⟨0, rfl⟩
theorem walk_nodup {d : Nat} (hd : d < 2 * ls.length) : (walkD ns ls d).Nodup := by
  obtain ⟨_, _, _, h4⟩ := per_spec hld hd
  unfold walkD walkK
  rw [List.nodup_iff_pairwise_ne, List.pairwise_map]
  refine List.Pairwise.imp_of_mem (R := fun a b => a < b) (fun {a b} ha hb hlt he => ?_) (List.pairwise_lt_range)
  have hb' := List.mem_range.1 hb
  have := orb_back hld hd a (b - a) (by rw [he, show a + (b - a) = b by omega])
  exact h4 (b - a) (by omega) (by omega) this
theorem walk_back {d e : Nat} (hd : d < 2 * ls.length) (h : e ∈ walkD ns ls d) : d ∈ walkD ns ls e := by
  have he := walk_bd hld hd e h
  obtain ⟨_, _, h3, _⟩ := per_spec hld hd
  unfold walkD walkK at h
  rw [List.mem_map] at h
  obtain ⟨i, hi, rfl⟩ := h
  have hi' := List.mem_range.1 hi
  refine (walk_mem hld he d).2 ⟨perD ns ls d - i, ?_⟩
  rw [← orb_add, show i + (perD ns ls d - i) = perD ns ls d by omega, h3]
theorem walk_trans {d e x : Nat} (hd : d < 2 * ls.length) (h : e ∈ walkD ns ls d) (h2 : x ∈ walkD ns ls e) : x ∈ walkD ns ls d := by
  obtain ⟨i, hi⟩ := (walk_mem hld hd e).1 h
  obtain ⟨j, hj⟩ := (walk_mem hld (walk_bd hld hd e h) x).1 h2
  exact (walk_mem hld hd x).2 ⟨i + j, by rw [orb_add, hi, hj]⟩
theorem facesK_all : ∀ m, m ≤ 2 * ls.length → (∀ d, d < m → d ∈ (facesK ns ls m).flatten) ∧ (facesK ns ls m).flatten.Nodup ∧ (∀ f ∈ facesK ns ls m, ∃ d, d < 2 * ls.length ∧ f = walkD ns ls d)
  | 0, _ => ⟨fun d h => absurd h (by omega), by simp [facesK], by simp [facesK]⟩
  | m + 1, hm => by
    obtain ⟨h1, h2, h3⟩ := facesK_all m (by omega)
    cases h : seenB (facesK ns ls m) m
    · rw [facesK_no h]
      have hnm : m ∉ (facesK ns ls m).flatten := by
        intro hc
        rw [List.mem_flatten] at hc
        obtain ⟨f, hf, hmf⟩ := hc
        have : seenB (facesK ns ls m) m = true := by
          unfold seenB
          rw [List.any_eq_true]
          exact ⟨f, hf, by simpa using hmf⟩
        rw [h] at this; cases this
      refine ⟨fun d hd => ?_, ?_, fun f hf => ?_⟩
      · rw [List.flatten_append, List.mem_append]
        by_cases he : d = m
        · subst he; right; simpa using walk_self hld (show d < 2 * ls.length by omega)
        · exact .inl (h1 d (by omega))
      · rw [List.flatten_append, List.nodup_append]
        refine ⟨h2, by simpa using walk_nodup hld (show m < 2 * ls.length by omega), fun x hx y hy => ?_⟩
        rintro rfl
        have hy' : x ∈ walkD ns ls m := by simpa using hy
        rw [List.mem_flatten] at hx
        obtain ⟨f, hf, hxf⟩ := hx
        obtain ⟨d, hd, rfl⟩ := h3 f hf
        apply hnm
        rw [List.mem_flatten]
        exact ⟨_, hf, walk_trans hld hd hxf (walk_back hld (by omega) hy')⟩
      · rw [List.mem_append, List.mem_singleton] at hf
        rcases hf with hf | rfl
        · exact h3 f hf
        · exact ⟨m, by omega, rfl⟩
    · rw [facesK_yes h]
      refine ⟨fun d hd => ?_, h2, h3⟩
      by_cases he : d = m
      · subst he
        unfold seenB at h
        rw [List.any_eq_true] at h
        obtain ⟨f, hf, hm'⟩ := h
        rw [List.mem_flatten]
        exact ⟨f, hf, by simpa using hm'⟩
      · exact h1 d (by omega)
end
end Go.Proofs.YtnjcpljhmhdhkaaGreat

namespace Go.Proofs.YtnjcpljhmhdhkaaGreat
open Go.RowKit
def idxN (l : List Nat) (d : Nat) : Int := if d ∈ l then (l.idxOf d : Int) else -1
theorem idxN_no {l : List Nat} {d : Nat} (h : d ∉ l) : idxN l d = -1 := by simp [idxN, h]
theorem idxN_at {l : List Nat} {d k : Nat} (hk : k < l.length) (h : d ∉ l.take k) (hp : l.getD k 0 = d) : idxN l d = k := by
  have hp' : l[k] = d := by simpa [List.getD, hk] using hp
  have e : l = l.take k ++ d :: l.drop (k + 1) := by
    rw [← hp', ← List.drop_eq_getElem_cons hk, List.take_append_drop]
  have hm : d ∈ l := by rw [e]; simp
  unfold idxN
  rw [if_pos hm]
  have : l.idxOf d = k := by
    rw [e, List.idxOf_append, if_neg h, List.idxOf_cons_self]
    simp; omega
  rw [this]
theorem natI_get (l : List Nat) (k : Nat) : (natI l).getD k 0 = ((l.getD k 0 : Nat) : Int) := by
  unfold natI
  simp only [List.getD, List.getElem?_map]
  cases l[k]? <;> rfl
theorem not_take_succ {l : List Nat} {d k : Nat} (hk : k < l.length) (h : d ∉ l.take k) (hne : l.getD k 0 ≠ d) : d ∉ l.take (k + 1) := by
  rw [List.take_succ_eq_append_getElem hk, List.mem_append, List.mem_singleton]
  rintro (h2 | h2)
  · exact h h2
  · apply hne
    rw [h2]
    simp [List.getD, hk]
set_option maxHeartbeats 2000000 in
set_option maxRecDepth 100000 in
theorem indexInt_any (v : Value) (l : List Nat) (d : Nat) (w : World) (h : RI w v (natI l)) :
    Calls Tryz.prog 85 #[v, .int .i64 d] w fun e w' => e = .returned (.int .i64 (idxN l d)) ∧ w = w' := by
  obtain ⟨A, c, rfl, hc, hm, hcell⟩ := h.form
  rw [natI_length] at hc hm hcell ⊢
  unfold maxLen at hm
  clear h
  go_enter Tryz.func85, Tryz.ntmps85
  go_wp2
  go_loop [8] (fun i => ∃ k : Nat, k ≤ l.length ∧ i = .int .i64 k ∧ Hid (d ∉ l.take k)) (fun i => l.length - (intOf i).toNat)
  case atStart => exact ⟨0, Nat.zero_le _, rfl, Lib.hid (by simp)⟩
  case round =>
    obtain ⟨k, hk, rfl, HT⟩ := hrel
    by_cases hlt : k < l.length
    · obtain ⟨b, off, rfl, hb, hcl⟩ := hcell (by omega)
      have hck := hcl k hlt
      rw [natI_get] at hck
      clear hcl hcell
      have HS := Lib.hid (fun hne => not_take_succ hlt HT.out hne)
      have HY := Lib.hid (fun he => idxN_at hlt HT.out he)
      generalize l.getD k 0 = x at *
      by_cases he : x = d
      · have e1 : ((d : Int) == (x : Int)) = true := by simp [he]
        have e2 : ((x : Int) == (d : Int)) = true := by simp [he]
        have HX := Lib.hid (HY.out he)
        clear he
        go_wp2
        go_ret
        exact ⟨ret_int HX.out.symm, rfl⟩
      · have e1 : ((d : Int) == (x : Int)) = false := by simp; omega
        have e2 : ((x : Int) == (d : Int)) = false := by simp; omega
        have HX := Lib.hid (HS.out he)
        clear he
        go_wp2
        go_round
        case rel => exact ⟨k + 1, by omega, by go_num, HX⟩
        case measure => simp [intOf]; omega
    · have hkk : l.length ≤ k := by omega
      have h := HT.out
      rw [List.take_of_length_le hkk] at h
      have HX : Hid (idxN l d = -1) := Lib.hid (idxN_no h)
      clear h hcell
      go_wp2
      go_ret
      exact ⟨ret_int HX.out.symm, rfl⟩
theorem idxN_in {l : List Nat} {d : Nat} (h : d ∈ l) : idxN l d = (l.idxOf d : Int) := by simp [idxN, h]
theorem ring_facts {ns ls : List Pr} (hwin : WinOk ns ls) {d : Nat} (hd : d < 2 * ls.length) : ∃ (t : Nat) (G : List Nat) (i q : Nat), dFrom ls d = (t : Int) ∧ t < ns.length ∧ ardS ns ls t (2 * ls.length) = G ∧ idxN G d = (i : Int) ∧ i < G.length ∧ G.length ≤ 12 ∧ G.getD i 0 = d ∧ d ∉ G.take i ∧
    (i + G.length - 1) % G.length = q ∧ q < G.length ∧ G.getD q 0 = lastD ns ls d := by
  have hld : ∀ j : Nat, j < ls.length → leadB ns (ndI ls j) = true := fun j hj => (hwin.2.2.2.2.2 j hj).1
  obtain ⟨t, ht, htn⟩ := dFrom_nat hld hd
  have hr : ringD ns ls d = ardS ns ls t (2 * ls.length) := by unfold ringD; rw [ht, Int.toNat_natCast]
  have hm := ring_self hld hd
  have hil := List.idxOf_lt_length_of_mem hm
  have hpos := List.length_pos_of_mem hm
  have h12 := frD_le hwin t
  have hAS := iso_ard ns ls t (2 * ls.length)
  have hlen : (ringD ns ls d).length = (frD ls t (2 * ls.length)).length := by rw [hr, ← hAS, isoK_len _ _ _ (Nat.le_refl _)]
  refine ⟨t, ringD ns ls d, (ringD ns ls d).idxOf d, _, ht, htn, hr.symm, idxN_in hm, hil, by omega, ?_, ?_, rfl, Nat.mod_lt _ hpos, rfl⟩
  · rw [List.getD, List.getElem?_eq_getElem hil, List.getElem_idxOf hil]; rfl
  · intro hc
    have hn : (ringD ns ls d).Nodup := ardS_nodup _ _ _ _
    obtain ⟨j, hj, e⟩ := List.getElem_of_mem hc
    rw [List.length_take] at hj
    rw [List.getElem_take] at e
    have e2 := List.getElem_idxOf hil
    have := (List.getElem_inj hn (h₀ := by omega) (h₁ := hil)).1 (e.trans e2.symm)
    omega
set_option maxHeartbeats 4000000 in
set_option maxRecDepth 100000 in
theorem iBeside_any (vn vl : Value) (ns ls : List Pr) (d : Nat) (w : World) (hn : RP w vn ns) (hl : RP w vl ls) (hd : d < 2 * ls.length) (hwin : WinOk ns ls) :
    Calls Tryz.prog 245 #[.agg #[vn, vl], .int .i64 d, .int .i64 (-1)] w fun e w' => e = .returned (.int .i64 (lastD ns ls d)) ∧ Below w.heap.size w w' := by
  obtain ⟨t, G, i, q, ht, htn, hG, hidx, hil, h12, _, _, hq, hql, hlast⟩ := ring_facts hwin hd
  have HW := Lib.hid hwin
  have B0 : Blk (w.alloc (.cells #[vn, vl] 27)) w.heap.size 27 #[vn, vl] := Blk.newAt rfl
  have hb0 : Below w.heap.size w (w.alloc (.cells #[vn, vl] 27)) := by exact bel_
  have HBF := Lib.hid (fun (v : World) (hv : Below w.heap.size w v) => iFrom_any vn vl ls d v (hl.below hv) hd)
  have HAR := Lib.hid (fun (v : World) (hv : Below w.heap.size w v) => iAround_any vn vl ns ls t v (hn.below hv) (hl.below hv) htn HW.out)
  rw [ht] at HBF
  rw [hG] at HAR
  rw [← hlast]
  obtain ⟨x, hx⟩ : ∃ x, G.getD q 0 = x := ⟨_, rfl⟩
  rw [hx]
  have HX := Lib.hid hx
  clear hx
  have HID := Lib.hid hidx
  clear hidx hlast hG hwin ht
  have HQ := Lib.hid hq
  clear hq
  go_enter Tryz.func245, Tryz.ntmps245
  go_wp2_with fail
  go_region_held3 (fun w' => w'.cell? ⟨w.heap.size, 0, none⟩ = some vn ∧ w'.cell? ⟨w.heap.size, 1, none⟩ = some vl)
    (go_keep)
    (first | (go_at_call 241; refine (HBF.out _ (by exact bel_)).mono ?_; rintro e w1 ⟨rfl, hb1⟩; (first | (with_reducible have hcf1 := bcell_drew hb1) | have hcf1 := bcell hb1); obtain ⟨hc1, hf1⟩ := hcf1; have hz1 := hb1.size; (try simp at hz1); (try have hp1_0 : w.heap.size < w1.heap.size := by omega); (try have hp1_1 : w.heap.size + 1 < w1.heap.size := by omega); (try have hp1_2 : w.heap.size + 1 + 1 < w1.heap.size := by omega); (try have hp1_3 : w.heap.size + 1 + 1 + 1 < w1.heap.size := by omega); have hbw1 : Below w.heap.size w w1 := (by exact bel_)) | (go_at_call 262; refine (HAR.out _ (by exact bel_)).mono ?_; rintro e w2 ⟨v2, rfl, ho2, hb2⟩; (first | (with_reducible have hcf2 := bcell_drew hb2) | have hcf2 := bcell hb2); obtain ⟨hc2, hf2⟩ := hcf2; have hz2 := hb2.size; (try simp at hz2); (try have hp2_0 : w.heap.size < w2.heap.size := by omega); (try have hp2_1 : w.heap.size + 1 < w2.heap.size := by omega); (try have hp2_2 : w.heap.size + 1 + 1 < w2.heap.size := by omega); (try have hp2_3 : w.heap.size + 1 + 1 + 1 < w2.heap.size := by omega)))
  have hbw2 : Below w.heap.size w w2 := by exact bel_
  have hri := ho2.reads
  obtain ⟨A, c, rfl, hc, hm, hcell⟩ := hri.form
  rw [natI_length] at hc hm hcell hri ⊢
  obtain ⟨b, off, rfl, hbb, hcl⟩ := hcell (by omega)
  have hck := hcl q hql
  rw [natI_get] at hck
  clear hcl hcell hc1 hf1 hc2 hf2
  rw [HX.out] at hck
  have e1 : (i : Int) + -1 + (G.length : Int) = ((i + G.length - 1 : Nat) : Int) := by omega
  have e2 : ((i + G.length - 1 : Nat) : Int).tmod (G.length : Int) = (q : Int) := by
    rw [Int.tmod_eq_emod_of_nonneg (Int.natCast_nonneg _), ← Int.natCast_emod, HQ.out]
  have e3 : ((G.length : Int) == 0) = false := beq_eq_false_iff_ne.2 (by omega)
  have n0 : (G.length : Int) ≠ 0 := by omega
  have i1 : (0 : Int) ≤ (q : Int) := by omega
  have i2 : (q : Int) < (G.length : Int) := by omega
  go_wp2_with fail
  refine (indexInt_any _ G d _ hri).mono ?_
  rintro e w3 ⟨rfl, rfl⟩
  rw [HID.out]
  go_wp2
  go_ret
  exact ⟨rfl, by exact bel_⟩
set_option maxHeartbeats 4000000 in
set_option maxRecDepth 100000 in
theorem sStepD_any (vn vl : Value) (ns ls : List Pr) (d : Nat) (w : World) (hn : RP w vn ns) (hl : RP w vl ls) (hd : d < 2 * ls.length) (hwin : WinOk ns ls) :
    Calls Tryz.prog 261 #[.agg #[vn, vl], .int .i64 d, .int .i64 (-1)] w fun e w' => e = .returned (.int .i64 (lastD ns ls d)) ∧ Below w.heap.size w w' := by
  obtain ⟨t, G, i, q, ht, htn, hG, hidx, hil, h12, hgi, hni, hq, hql, hlast⟩ := ring_facts hwin hd
  have hld : ∀ j : Nat, j < ls.length → leadB ns (ndI ls j) = true := fun j hj => (hwin.2.2.2.2.2 j hj).1
  have HLD := Lib.hid hld
  have HNI := Lib.hid hni
  have HGI := Lib.hid hgi
  have HM := Lib.hid (And.intro hwin.2.2.1 hwin.2.1)
  rw [← hlast]
  obtain ⟨x, hx⟩ : ∃ x, G.getD q 0 = x := ⟨_, rfl⟩
  rw [hx]
  have HX := Lib.hid hx
  clear hx
  have HG := Lib.hid hG
  have HT := Lib.hid ht
  clear hidx hlast hG hwin ht hni hgi hld
  have HQ := Lib.hid hq
  clear hq
  go_enter Tryz.func261, Tryz.ntmps261
  go_wp2_with fail
  refine (sEnds_any _ _ ls d _ (hl.below (by exact bel_)) hd).mono ?_
  rintro e w1 ⟨rfl, hb1⟩; (first | (with_reducible have hcf1 := bcell_drew hb1) | have hcf1 := bcell hb1); obtain ⟨hc1, hf1⟩ := hcf1; have hz1 := hb1.size; (try simp at hz1); (try have hp1_0 : w.heap.size < w1.heap.size := by omega); (try have hp1_1 : w.heap.size + 1 < w1.heap.size := by omega); (try have hp1_2 : w.heap.size + 1 + 1 < w1.heap.size := by omega); (try have hp1_3 : w.heap.size + 1 + 1 + 1 < w1.heap.size := by omega)
  have hbw1 : Below w.heap.size w w1 := by exact bel_
  rw [HT.out]
  go_wp2_with fail
  refine (sAround_any _ _ ns ls t _ (hn.below hbw1) (hl.below hbw1) htn HM.out.1 HM.out.2 HLD.out).mono ?_
  rw [HG.out]
  rintro e w2 ⟨v2, rfl, ho2, hb2⟩
  have hbw2 := hbw1.trans (hb2.mono hbw1.size)
  have hri := ho2.reads
  obtain ⟨A, c, rfl, hc, hm, hcell⟩ := hri.form
  rw [natI_length] at hc hm hcell hri ⊢
  obtain ⟨b, off, rfl, hbb, hcl⟩ := hcell (by omega)
  have hck := hcl q hql
  rw [natI_get] at hck
  have HCL := Lib.hid hcl
  clear hcl hcell hc1 hf1 hb1 hb2 ho2
  rw [HX.out] at hck
  have e1 : (i : Int) + -1 + (G.length : Int) = ((i + G.length - 1 : Nat) : Int) := by omega
  have e2 : ((i + G.length - 1 : Nat) : Int).tmod (G.length : Int) = (q : Int) := by
    rw [Int.tmod_eq_emod_of_nonneg (Int.natCast_nonneg _), ← Int.natCast_emod, HQ.out]
  have e3 : ((G.length : Int) == 0) = false := beq_eq_false_iff_ne.2 (by omega)
  have n0 : (G.length : Int) ≠ 0 := by omega
  have i1 : (0 : Int) ≤ (q : Int) := by omega
  have i2 : (q : Int) < (G.length : Int) := by omega
  go_wp2
  go_loop [10] (fun y => ∃ k : Nat, k ≤ i ∧ y = .int .i64 k) (fun y => i + 1 - (intOf y).toNat)
  case atStart => exact ⟨0, Nat.zero_le _, rfl⟩
  case round =>
    obtain ⟨k, hk, rfl⟩ := hrel
    have hkl : k < G.length := by omega
    have hkc := HCL.out k hkl
    rw [natI_get] at hkc
    by_cases hki : k = i
    · subst hki
      rw [HGI.out] at hkc
      have e4 : ((d : Int) == (d : Int)) = true := by simp
      go_wp2
      go_ret
      exact ⟨rfl, hbw2⟩
    · have hne : G.getD k 0 ≠ d := by
        intro h
        apply HNI.out
        rw [← h, List.getD, List.getElem?_eq_getElem hkl]
        simp only [Option.getD_some]
        rw [List.mem_take_iff_getElem]
        exact ⟨k, by omega, rfl⟩
      generalize G.getD k 0 = y at *
      have e4 : ((y : Int) == (d : Int)) = false := by simp; omega
      clear hne
      go_wp2
      go_round
      case rel => exact ⟨k + 1, by omega, by go_num⟩
      case measure => simp [intOf]; omega
theorem twin_xor_int (d : Nat) (h : d < 1000000) : bits .xor .i64 (d : Int) 1 = ((twin d : Nat) : Int) := by
  have x := bits_xor_nat (a := d) (b := 1) (by omega) (by omega)
  rw [twin_xor] at x
  exact x
set_option maxHeartbeats 1000000 in
set_option maxRecDepth 100000 in
theorem sNext_any (vn vl : Value) (ns ls : List Pr) (d : Nat) (w : World) (hn : RP w vn ns) (hl : RP w vl ls) (hd : d < 2 * ls.length) (hwin : WinOk ns ls) :
    Calls Tryz.prog 244 #[.agg #[vn, vl], .int .i64 d] w fun e w' => e = .returned (.int .i64 (nextD ns ls d)) ∧ Below w.heap.size w w' := by
  have hm20 := hwin.2.2.1
  have x1 := twin_xor_int d (by omega)
  have hb0 : Below w.heap.size w (w.alloc (.cells #[vn, vl] 27)) := by exact bel_
  have HC := Lib.hid (fun (v : World) (hv : Below w.heap.size w v) => sStepD_any vn vl ns ls (twin d) v (hn.below hv) (hl.below hv) (twin_lt hd) hwin)
  have HR : Hid (nextD ns ls d = lastD ns ls (twin d)) := Lib.hid rfl
  generalize twin d = e at *
  clear hwin
  go_enter Tryz.func244, Tryz.ntmps244
  go_wp2_with fail
  refine (HC.out _ hb0).mono ?_
  rintro e w1 ⟨rfl, hb1⟩; (first | (with_reducible have hcf1 := bcell_drew hb1) | have hcf1 := bcell hb1); obtain ⟨hc1, hf1⟩ := hcf1; have hz1 := hb1.size; (try simp at hz1); (try have hp1_0 : w.heap.size < w1.heap.size := by omega); (try have hp1_1 : w.heap.size + 1 < w1.heap.size := by omega); (try have hp1_2 : w.heap.size + 1 + 1 < w1.heap.size := by omega); (try have hp1_3 : w.heap.size + 1 + 1 + 1 < w1.heap.size := by omega)
  go_wp2
  go_ret
  exact ⟨ret_int (by rw [HR.out]), by exact bel_⟩
end Go.Proofs.YtnjcpljhmhdhkaaGreat

namespace Go.Proofs.YtnjcpljhmhdhkaaGreat
open Go.RowKit
def lenV : Value → Nat
  | .slice _ n _ => n
  | _ => 0
theorem OwnI.lenV {base : Nat} {w : World} {v : Value} {zs : List Int} (h : OwnI base w v zs) : lenV v = zs.length := by
  obtain ⟨A, c, rfl⟩ := h.form
  rfl
theorem OwnI.lit1 {base g : Nat} {w : World} {x : Int} (hg : g = w.heap.size) (hb : base ≤ w.heap.size) : OwnI base (w.alloc (.cells #[.int .i64 x] 3)) (.slice (some ⟨g, 0, none⟩) 1 1) [x] := by
  subst hg
  exact World.ownsRow_lit w #[.int .i64 x] 1 hb (by simp [maxLen]) rfl
set_option maxHeartbeats 4000000 in
set_option maxRecDepth 100000 in
theorem iWalk_any (vn vl : Value) (ns ls : List Pr) (d : Nat) (w : World) (hn : RP w vn ns) (hl : RP w vl ls) (hd : d < 2 * ls.length) (hwin : WinOk ns ls) :
    Calls Tryz.prog 208 #[.agg #[vn, vl], .int .i64 d] w (RetI (natI (walkD ns ls d)) w) := by
  have hm20 := hwin.2.2.1
  have hld : ∀ j : Nat, j < ls.length → leadB ns (ndI ls j) = true := fun j hj => (hwin.2.2.2.2.2 j hj).1
  obtain ⟨hp0, hpm, hpd, hpj⟩ := per_spec hld hd
  obtain ⟨i0, hi, iz0, iz1, iz2⟩ := info_parts infoInt
  have HNX := Lib.hid (fun (v : World) (e : Nat) (hv : Below w.heap.size w v) (he : e < 2 * ls.length) => iBeside_any vn vl ns ls (twin e) v (hn.below hv) (hl.below hv) (twin_lt he) hwin)
  have HOL := Lib.hid (fun k => orb_lt hld hd k)
  have HPJ := Lib.hid hpj
  have HPD := Lib.hid hpd
  have HWD : Hid (walkD ns ls d = walkK ns ls d (perD ns ls d)) := Lib.hid rfl
  have HWS := Lib.hid (fun k => walkK_succ ns ls d k)
  have HWL := Lib.hid (fun k => walkK_length ns ls d k)
  have HOS : Hid (∀ k, nextD ns ls (orbD ns ls d k) = orbD ns ls d (k + 1)) := Lib.hid (fun _ => rfl)
  have H01 : Hid (orbD ns ls d 1 = nextD ns ls d) := Lib.hid rfl
  have HW1 : Hid (walkK ns ls d 1 = [d]) := Lib.hid rfl
  generalize perD ns ls d = per at *
  have HTX := Lib.hid (fun (e : Nat) (he : e < 2 * ls.length) => twin_xor_int e (by omega))
  have x0 := HTX.out d hd
  have HNX : Hid (∀ (v : World) (e : Nat), Below w.heap.size w v → e < 2 * ls.length → Calls Tryz.prog 245 #[.agg #[vn, vl], .int .i64 (bits .xor .i64 (e : Int) 1), .int .i64 (-1)] v fun e' w' => e' = .returned (.int .i64 (nextD ns ls e)) ∧ Below v.heap.size v w') := Lib.hid (fun v e hv he => by rw [HTX.out e he]; exact HNX.out v e hv he)
  clear x0
  clear hwin hpj hpd hld
  go_enter Tryz.func208, Tryz.ntmps208
  go_wp2_with fail
  have hba : Below w.heap.size w ((w.alloc (.cells #[vn, vl] 27)).alloc (.cells #[.int .i64 d] 3)) := by exact bel_
  have hW0 : Blk ((w.alloc (.cells #[vn, vl] 27)).alloc (.cells #[.int .i64 d] 3)) w.heap.size 27 #[vn, vl] := (Blk.newAt rfl).alloc _
  have ho0 : OwnI (w.heap.size + 1) ((w.alloc (.cells #[vn, vl] 27)).alloc (.cells #[.int .i64 d] 3)) (.slice (some ⟨w.heap.size + 1, 0, none⟩) 1 1) [(d : Int)] := OwnI.lit1 (by simp) (by simp)
  refine (HNX.out _ d hba hd).mono ?_
  rintro e w1 ⟨rfl, hb1⟩
  have hbw1 := hba.trans (hb1.mono hba.size)
  have hW1 := hW0.below hb1 hW0.lt
  have ho1 := ho0.kept hb1
  clear hb1 hba hW0 ho0
  go_wp2
  go_loopw [5, 6] (fun v x wr => ∃ k : Nat, 1 ≤ k ∧ k ≤ per ∧ x = .int .i64 (orbD ns ls d k) ∧ OwnI (w.heap.size + 1) wr v (natI (walkK ns ls d k)) ∧ Blk wr w.heap.size 27 #[vn, vl] ∧ Below w.heap.size w wr) (fun v _ _ => per - lenV v)
  case atStart => exact ⟨1, Nat.le_refl _, hp0, by rw [H01.out], by rw [HW1.out]; exact ho1, hW1, hbw1⟩
  case round =>
    clear ho1 hW1 hbw1
    obtain ⟨k, hk1, hkp, rfl, ho, hW, hbl⟩ := hrel
    have hlv := ho.lenV
    have hsz := hW.lt
    rw [natI_length, HWL.out] at hlv
    obtain ⟨a_0, a_1⟩ := hW.c2
    have HK : Hid (k < per → orbD ns ls d k ≠ d) := Lib.hid (fun h => HPJ.out k (by omega) h)
    have hol := HOL.out k
    have HS : Hid (natI (walkK ns ls d (k + 1)) = natI (walkK ns ls d k) ++ [((orbD ns ls d k : Nat) : Int)]) := Lib.hid (by rw [HWS.out]; simp [natI])
    have HO1 := Lib.hid (HOS.out k)
    have HGL : Hid ((natI (walkK ns ls d k)).length = k) := Lib.hid (by rw [natI_length, HWL.out])
    have HE : Hid (k = per → orbD ns ls d k = d) := Lib.hid (fun h => by rw [h]; exact HPD.out)
    have HEW : Hid (k = per → walkD ns ls d = walkK ns ls d k) := Lib.hid (fun h => by rw [h]; exact HWD.out)
    generalize hxe : orbD ns ls d k = x at *
    clear hxe
    by_cases hkd : k < per
    · have hne := HK.out hkd
      have e1 : ((x : Int) != (d : Int)) = true := by simp; omega
      generalize walkK ns ls d k = G at *
      go_wp2_with (at_builtin; refine wpList_append_own _ rfl _ _ 31 rfl (w.heap.size + 1) 3 i0 (.int .i64 0) 1 8 Tryz.underlying31 hi iz0 iz1 iz2 rfl (by decide) _ _ _ rfl (World.ownsRow.alloc ho _) ⟨wr.heap.size, 0, none⟩ 1 1 [.int .i64 _] rfl rfl (cell_one_at (by simp)) (by intro u hu; simp at hu; subst hu; rfl) (by rw [HGL.out]; unfold maxLen; omega) (by rw [HGL.out]; omega) (by simp; omega) ?_)
      intro v2 w2 hown2 hg2 hne2
      have hbl2 : Below w.heap.size w w2 := (hbl.alloc (show w.heap.size ≤ wr.heap.size by omega) (.cells #[.int .i64 (x : Int)] 3)).grown hg2 (by simp; omega) (fun k hk => by have := (ho.lt k hk).1; omega)
      have hW2 : Blk w2 w.heap.size 27 #[vn, vl] := (hg2.block _ (by simp; omega) (fun e => by have := (ho.lt _ e.symm).1; omega)).trans (hW.alloc _)
      have hO2 := OwnI.snoc hown2
      have hz2 := hW2.lt
      have hl2 := hO2.lenV
      rw [List.length_append, HGL.out] at hl2
      simp at hl2
      clear hown2 hg2 ho hW hbl hne2 a_0 a_1
      obtain ⟨a_0, a_1⟩ := hW2.c2
      go_wp2_with fail
      refine (HNX.out _ x hbl2 hol).mono ?_
      rw [HO1.out]
      rintro e w3 ⟨rfl, hb3⟩
      have HO3 := Lib.hid (hO2.kept hb3)
      have HW3 := Lib.hid (hW2.below hb3 hz2)
      have hbl3 := hbl2.trans (hb3.mono hbl2.size)
      clear hb3 hO2 hW2 hbl2 a_0 a_1
      go_wp2
      go_roundw
      case rel => exact ⟨k + 1, by omega, by omega, rfl, by rw [HS.out]; exact HO3.out, HW3.out, hbl3⟩
      case measure => simp [hl2, hlv]; omega
    · have hkk : k = per := by omega
      have hxd := HE.out hkk
      have e1 : ((x : Int) != (d : Int)) = false := by simp [hxd]
      have HR := Lib.hid (HEW.out hkk)
      clear hkk hxd
      go_wp2
      go_ret
      exact ⟨_, rfl, by rw [HR.out]; exact ho.mono (by omega), hbl⟩
set_option maxHeartbeats 4000000 in
set_option maxRecDepth 100000 in
theorem sWalk_any (vn vl : Value) (ns ls : List Pr) (d : Nat) (w : World) (hn : RP w vn ns) (hl : RP w vl ls) (hd : d < 2 * ls.length) (hwin : WinOk ns ls) :
    Calls Tryz.prog 199 #[.agg #[vn, vl], .int .i64 d] w (RetI (natI (walkD ns ls d)) w) := by
  have hm20 := hwin.2.2.1
  have hld : ∀ j : Nat, j < ls.length → leadB ns (ndI ls j) = true := fun j hj => (hwin.2.2.2.2.2 j hj).1
  obtain ⟨hp0, hpm, hpd, hpj⟩ := per_spec hld hd
  obtain ⟨i0, hi, iz0, iz1, iz2⟩ := info_parts infoInt
  have HNX := Lib.hid (fun (v : World) (e : Nat) (hv : Below w.heap.size w v) (he : e < 2 * ls.length) => sNext_any vn vl ns ls e v (hn.below hv) (hl.below hv) he hwin)
  have HOL := Lib.hid (fun k => orb_lt hld hd k)
  have HPJ := Lib.hid hpj
  have HPD := Lib.hid hpd
  have HWD : Hid (walkD ns ls d = walkK ns ls d (perD ns ls d)) := Lib.hid rfl
  have HWS := Lib.hid (fun k => walkK_succ ns ls d k)
  have HWL := Lib.hid (fun k => walkK_length ns ls d k)
  have HOS : Hid (∀ k, nextD ns ls (orbD ns ls d k) = orbD ns ls d (k + 1)) := Lib.hid (fun _ => rfl)
  have H01 : Hid (orbD ns ls d 1 = nextD ns ls d) := Lib.hid rfl
  have HW1 : Hid (walkK ns ls d 1 = [d]) := Lib.hid rfl
  generalize perD ns ls d = per at *
  clear hwin hpj hpd hld
  go_enter Tryz.func199, Tryz.ntmps199
  go_wp2_with fail
  have hba : Below w.heap.size w ((w.alloc (.cells #[vn, vl] 27)).alloc (.cells #[.int .i64 d] 3)) := by exact bel_
  have hW0 : Blk ((w.alloc (.cells #[vn, vl] 27)).alloc (.cells #[.int .i64 d] 3)) w.heap.size 27 #[vn, vl] := (Blk.newAt rfl).alloc _
  have ho0 : OwnI (w.heap.size + 1) ((w.alloc (.cells #[vn, vl] 27)).alloc (.cells #[.int .i64 d] 3)) (.slice (some ⟨w.heap.size + 1, 0, none⟩) 1 1) [(d : Int)] := OwnI.lit1 (by simp) (by simp)
  refine (HNX.out _ d hba hd).mono ?_
  rintro e w1 ⟨rfl, hb1⟩
  have hbw1 := hba.trans (hb1.mono hba.size)
  have hW1 := hW0.below hb1 hW0.lt
  have ho1 := ho0.kept hb1
  clear hb1 hba hW0 ho0
  go_wp2
  go_loopw [5, 6] (fun v x wr => ∃ k : Nat, 1 ≤ k ∧ k ≤ per ∧ x = .int .i64 (orbD ns ls d k) ∧ OwnI (w.heap.size + 1) wr v (natI (walkK ns ls d k)) ∧ Blk wr w.heap.size 27 #[vn, vl] ∧ Below w.heap.size w wr) (fun v _ _ => per - lenV v)
  case atStart => exact ⟨1, Nat.le_refl _, hp0, by rw [H01.out], by rw [HW1.out]; exact ho1, hW1, hbw1⟩
  case round =>
    clear ho1 hW1 hbw1
    obtain ⟨k, hk1, hkp, rfl, ho, hW, hbl⟩ := hrel
    have hlv := ho.lenV
    have hsz := hW.lt
    rw [natI_length, HWL.out] at hlv
    obtain ⟨a_0, a_1⟩ := hW.c2
    have HK : Hid (k < per → orbD ns ls d k ≠ d) := Lib.hid (fun h => HPJ.out k (by omega) h)
    have hol := HOL.out k
    have HS : Hid (natI (walkK ns ls d (k + 1)) = natI (walkK ns ls d k) ++ [((orbD ns ls d k : Nat) : Int)]) := Lib.hid (by rw [HWS.out]; simp [natI])
    have HO1 := Lib.hid (HOS.out k)
    have HGL : Hid ((natI (walkK ns ls d k)).length = k) := Lib.hid (by rw [natI_length, HWL.out])
    have HE : Hid (k = per → orbD ns ls d k = d) := Lib.hid (fun h => by rw [h]; exact HPD.out)
    have HEW : Hid (k = per → walkD ns ls d = walkK ns ls d k) := Lib.hid (fun h => by rw [h]; exact HWD.out)
    generalize hxe : orbD ns ls d k = x at *
    clear hxe
    by_cases hkd : k < per
    · have hne := HK.out hkd
      have e1 : ((x : Int) != (d : Int)) = true := by simp; omega
      generalize walkK ns ls d k = G at *
      go_wp2_with (at_builtin; refine wpList_append_own _ rfl _ _ 31 rfl (w.heap.size + 1) 3 i0 (.int .i64 0) 1 8 Tryz.underlying31 hi iz0 iz1 iz2 rfl (by decide) _ _ _ rfl (World.ownsRow.alloc ho _) ⟨wr.heap.size, 0, none⟩ 1 1 [.int .i64 _] rfl rfl (cell_one_at (by simp)) (by intro u hu; simp at hu; subst hu; rfl) (by rw [HGL.out]; unfold maxLen; omega) (by rw [HGL.out]; omega) (by simp; omega) ?_)
      intro v2 w2 hown2 hg2 hne2
      have hbl2 : Below w.heap.size w w2 := (hbl.alloc (show w.heap.size ≤ wr.heap.size by omega) (.cells #[.int .i64 (x : Int)] 3)).grown hg2 (by simp; omega) (fun k hk => by have := (ho.lt k hk).1; omega)
      have hW2 : Blk w2 w.heap.size 27 #[vn, vl] := (hg2.block _ (by simp; omega) (fun e => by have := (ho.lt _ e.symm).1; omega)).trans (hW.alloc _)
      have hO2 := OwnI.snoc hown2
      have hz2 := hW2.lt
      have hl2 := hO2.lenV
      rw [List.length_append, HGL.out] at hl2
      simp at hl2
      clear hown2 hg2 ho hW hbl hne2 a_0 a_1
      obtain ⟨a_0, a_1⟩ := hW2.c2
      go_wp2_with fail
      refine (HNX.out _ x hbl2 hol).mono ?_
      rw [HO1.out]
      rintro e w3 ⟨rfl, hb3⟩
      have HO3 := Lib.hid (hO2.kept hb3)
      have HW3 := Lib.hid (hW2.below hb3 hz2)
      have hbl3 := hbl2.trans (hb3.mono hbl2.size)
      clear hb3 hO2 hW2 hbl2 a_0 a_1
      go_wp2
      go_roundw
      case rel => exact ⟨k + 1, by omega, by omega, rfl, by rw [HS.out]; exact HO3.out, HW3.out, hbl3⟩
      case measure => simp [hl2, hlv]; omega
    · have hkk : k = per := by omega
      have hxd := HE.out hkk
      have e1 : ((x : Int) != (d : Int)) = false := by simp [hxd]
      have HR := Lib.hid (HEW.out hkk)
      clear hkk hxd
      go_wp2
      go_ret
      exact ⟨_, rfl, by rw [HR.out]; exact ho.mono (by omega), hbl⟩
end Go.Proofs.YtnjcpljhmhdhkaaGreat
