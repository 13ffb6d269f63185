/-
  slices.Index and slices.Contains over pairs, walked; the first part of a list.
-/
import Derived.Test.YtoknmjpnelbplaaGreatPlane
import Derived.Test.YtoknmjpnelbplaaGreatQG
import Derived.Deep.DeepCutAuto
set_option linter.unusedSimpArgs false
set_option linter.unusedVariables false
namespace Go.Proofs.YtoknmjpnelbplaaGreat
open Go.RowKit

attribute [local go_sem ↓] run_eqNode run_eqLead run_neNode run_neLead

/-- The place of a pair, or -1. -/
def idxP (l : List Pr) (p : Pr) : Int := if p ∈ l then (l.idxOf p : Int) else -1

theorem idxP_no {l : List Pr} {p : Pr} (h : p ∉ l) : idxP l p = -1 := by simp [idxP, h]

theorem idxP_at {l : List Pr} {p : Pr} {k : Nat} (hk : k < l.length) (h : p ∉ l.take k) (hp : ndI l k = p) : idxP l p = k := by
  rw [ndI_nat l k hk] at hp
  have e : l = l.take k ++ p :: l.drop (k + 1) := by
    rw [← hp, ← List.drop_eq_getElem_cons hk, List.take_append_drop]
  have hm : p ∈ l := by rw [e]; simp
  unfold idxP
  rw [if_pos hm]
  have : l.idxOf p = k := by
    rw [e, List.idxOf_append, if_neg h, List.idxOf_cons_self]
    simp; omega
  rw [this]

theorem idxP_nonneg {l : List Pr} {p : Pr} : (0 ≤ idxP l p) ↔ p ∈ l := by
  unfold idxP
  by_cases h : p ∈ l
  · rw [if_pos h]; exact ⟨fun _ => h, fun _ => by omega⟩
  · rw [if_neg h]; exact ⟨fun h' => absurd h' (by omega), fun h' => absurd h' h⟩

theorem RP.take {w : World} {A : Option Addr} {n c : Nat} {l : List (Int × Int)} (h : RP w (.slice A n c) l) (k : Nat) (hk : k ≤ l.length) : RP w (.slice A k c) (l.take k) := by
  obtain ⟨h0, A', c', hv, h1, h2, h3⟩ := h
  cases hv
  have hlen : (l.take k).length = k := by simp; omega
  refine ⟨flat_len prc 2 (fun _ => rfl) _, A, c, by rw [hlen], by omega, by omega, fun hn => ?_⟩
  obtain ⟨b, off, e1, e2, e3⟩ := h3 (by omega)
  refine ⟨b, off, e1, e2, fun j u hu => e3 j u ?_⟩
  have hj := (List.getElem?_eq_some_iff.1 hu).1
  rw [flat_len prc 2 (fun _ => rfl), hlen] at hj
  have g1 := flat_get prc 2 (fun _ => rfl) (l.take k) (j / 2) (j % 2) (by omega) (by omega)
  have g2 := flat_get prc 2 (fun _ => rfl) l (j / 2) (j % 2) (by omega) (by omega)
  rw [show j / 2 * 2 + j % 2 = j by omega] at g1 g2
  rw [g2, ← hu, g1]
  simp

set_option maxHeartbeats 2000000 in
set_option maxRecDepth 100000 in
theorem indexNode_any (v : Value) (l : List Pr) (x y : Int) (w : World) (h : RP w v l) :
    Calls Tryz.prog 217 #[v, .agg #[.int .i64 x, .int .i64 y]] w fun e w' => e = .returned (.int .i64 (idxP l (x, y))) ∧ Below w.heap.size w w' := by
  obtain ⟨A, c, rfl, hc, hm, hcell⟩ := h.formI
  unfold maxLen at hm
  clear h
  go_enter Tryz.func217, Tryz.ntmps217
  go_wp2
  go_loopw [8] (fun i wr => ∃ k : Nat, k ≤ l.length ∧ i = .int .i64 k ∧ Hid ((x, y) ∉ l.take k) ∧ Blk wr w.heap.size 141 #[.int .i64 x, .int .i64 y] ∧ Below w.heap.size w wr) (fun i _ => l.length - (intOf i).toNat)
  case atStart => exact ⟨0, Nat.zero_le _, rfl, Lib.hid (by simp), Blk.newAt rfl, by (repeat' (first | (with_reducible exact Below.refl _ _) | (with_reducible assumption) | (with_reducible refine Below.drew ?_) | (with_reducible refine below_drewN ?_ _) | (with_reducible refine Below.alloc ?_ ?_ _) | (with_reducible refine Below.setCell ?_ ?_ _) | (with_reducible refine Below.step (by assumption) ?_ ?_))); all_goals (first | omega | (simp; done) | (simp; omega))⟩
  case round =>
    obtain ⟨k, hk, rfl, HT, hB, hbl⟩ := hrel
    have hsz := hbl.size
    by_cases hlt : k < l.length
    · obtain ⟨b, off, rfl, hb, hcl⟩ := hcell (by omega)
      obtain ⟨k0, k1⟩ := hcl k hlt
      have q0 := (hbl.cell (p := ⟨b, off + k * 2, none⟩) hb).trans k0
      have q1 := (hbl.cell (p := ⟨b, off + k * 2 + 1, none⟩) hb).trans k1
      have hi1 : (0 : Int) ≤ (k : Int) := by omega
      have hi2 : (k : Int) < (l.length : Int) := by omega
      (have a_0 := hB.cell 0); (have a_1 := hB.cell 1); simp only [List.getElem?_toArray, List.getElem?_cons_succ, List.getElem?_cons_zero] at a_0 a_1
      clear k0 k1 hcl hcell
      cases hxy : prB x y (ndI l k).1 (ndI l k).2
      · have HX : Hid ((x, y) ∉ l.take (k + 1)) := Lib.hid (by
          rw [List.take_succ_eq_append_getElem hlt, List.mem_append, List.mem_singleton, ← ndI_nat l k hlt]
          rintro (h | h)
          · exact HT.out h
          · rw [← h] at hxy
            simp [prB_self] at hxy)
        go_wp2
        go_quiet (fail)
        go_wp2
        go_roundw
        case rel => exact ⟨k + 1, by omega, by go_num, HX, hB, by (repeat' (first | (with_reducible exact Below.refl _ _) | (with_reducible assumption) | (with_reducible refine Below.drew ?_) | (with_reducible refine below_drewN ?_ _) | (with_reducible refine Below.alloc ?_ ?_ _) | (with_reducible refine Below.setCell ?_ ?_ _) | (with_reducible refine Below.step (by assumption) ?_ ?_))); all_goals (first | omega | (simp; done) | (simp; omega))⟩
        case measure => simp [intOf]; omega
      · have HX : Hid (idxP l (x, y) = k) := Lib.hid (idxP_at hlt HT.out (prB_iff.1 hxy).symm)
        go_wp2
        go_quiet (fail)
        go_wp2
        go_ret
        exact ⟨ret_int HX.out.symm, by (repeat' (first | (with_reducible exact Below.refl _ _) | (with_reducible assumption) | (with_reducible refine Below.drew ?_) | (with_reducible refine below_drewN ?_ _) | (with_reducible refine Below.alloc ?_ ?_ _) | (with_reducible refine Below.setCell ?_ ?_ _) | (with_reducible refine Below.step (by assumption) ?_ ?_))); all_goals (first | omega | (simp; done) | (simp; omega))⟩
    · have hkk : l.length ≤ k := by omega
      have h := HT.out
      rw [List.take_of_length_le hkk] at h
      have HX : Hid (idxP l (x, y) = -1) := Lib.hid (idxP_no h)
      clear h hcell
      go_wp2
      go_ret
      exact ⟨ret_int HX.out.symm, hbl⟩



set_option maxHeartbeats 1000000 in
theorem contains_any (v : Value) (l : List Pr) (x y : Int) (b : Bool) (w : World) (h : RP w v l) (hb : decide ((x, y) ∈ l) = b) :
    Calls Tryz.prog 176 #[v, .agg #[.int .i64 x, .int .i64 y]] w fun e w' => e = .returned (.bool b) ∧ Below w.heap.size w w' := by
  obtain ⟨z, hz⟩ : ∃ z, idxP l (x, y) = z := ⟨_, rfl⟩
  have HZ : Hid (decide (0 ≤ z) = b) := Lib.hid (by rw [← hz, ← hb]; simp [idxP_nonneg])
  go_enter Tryz.func176, Tryz.ntmps176
  go_wp2_with fail
  refine (indexNode_any _ l _ _ _ (h.below (by (repeat' (first | (with_reducible exact Below.refl _ _) | (with_reducible assumption) | (with_reducible refine Below.drew ?_) | (with_reducible refine below_drewN ?_ _) | (with_reducible refine Below.alloc ?_ ?_ _) | (with_reducible refine Below.setCell ?_ ?_ _) | (with_reducible refine Below.step (by assumption) ?_ ?_))); all_goals (first | omega | (simp; done) | (simp; omega))))).mono ?_
  rw [hz]
  rintro e w1 ⟨rfl, hb1⟩; (first | (with_reducible have hcf1 := bcell_drew hb1) | have hcf1 := bcell hb1); obtain ⟨hc1, hf1⟩ := hcf1; have hz1 := hb1.size; (try simp at hz1); (try have hp1_0 : w.heap.size < w1.heap.size := by omega); (try have hp1_1 : w.heap.size + 1 < w1.heap.size := by omega); (try have hp1_2 : w.heap.size + 1 + 1 < w1.heap.size := by omega); (try have hp1_3 : w.heap.size + 1 + 1 + 1 < w1.heap.size := by omega)
  go_wp2
  go_ret
  exact ⟨ret_bool HZ.out, by (repeat' (first | (with_reducible exact Below.refl _ _) | (with_reducible assumption) | (with_reducible refine Below.drew ?_) | (with_reducible refine below_drewN ?_ _) | (with_reducible refine Below.alloc ?_ ?_ _) | (with_reducible refine Below.setCell ?_ ?_ _) | (with_reducible refine Below.step (by assumption) ?_ ?_))); all_goals (first | omega | (simp; done) | (simp; omega))⟩

end Go.Proofs.YtoknmjpnelbplaaGreat
