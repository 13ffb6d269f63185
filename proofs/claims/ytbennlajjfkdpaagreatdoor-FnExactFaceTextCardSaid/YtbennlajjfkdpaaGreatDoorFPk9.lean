/- part 9 -/
import Derived.Test.YtbennlajjfkdpaaGreatDoorFPk6
import Derived.Test.YtbennlajjfkdpaaGreatDoorFPk8
import Derived.Deep.DeepCutAuto
set_option linter.unusedSimpArgs false
set_option linter.unusedVariables false
namespace Go.Proofs.YtbennlajjfkdpaaGreatDoor
open Go.RowKit
attribute [local go_sem ↓] run_eqNode run_eqLead run_neNode run_neLead
def idxP (l : List Pr) (p : Pr) : Int := if p ∈ l then (l.idxOf p : Int) else -1
theorem idxP_no {l : List Pr} {p : Pr} (h : p ∉ l) : idxP l p = -1 := by simp [idxP, h]
theorem idxP_at {l : List Pr} {p : Pr} {k : Nat} (hk : k < l.length) (h : p ∉ l.take k) (hp : ndI l k = p) : idxP l p = k := by
  rw [ndI_nat l k hk] at hp
  have e : l = l.take k ++ p :: l.drop (k + 1) := by
    rw [← hp, ← List.drop_eq_getElem_cons hk, List.take_append_drop]
  have hm : p ∈ l := by rw [e]; simp
  unfold idxP
  rw [if_pos hm]
  have : l.idxOf p = k := by
    rw [e, List.idxOf_append, if_neg h, List.idxOf_cons_self]
    simp; omega
  rw [this]
theorem idxP_nonneg {l : List Pr} {p : Pr} : (0 ≤ idxP l p) ↔ p ∈ l := by
  unfold idxP
  by_cases h : p ∈ l
  · rw [if_pos h]; exact ⟨fun _ => h, fun _ => by omega⟩
  · rw [if_neg h]; exact ⟨fun h' => absurd h' (by omega), fun h' => absurd h' h⟩
theorem RP.take {w : World} {A : Option Addr} {n c : Nat} {l : List (Int × Int)} (h : RP w (.slice A n c) l) (k : Nat) (hk : k ≤ l.length) : RP w (.slice A k c) (l.take k) := by
  obtain ⟨h0, A', c', hv, h1, h2, h3⟩ := h
  cases hv
  have hlen : (l.take k).length = k := by simp; omega
  refine ⟨flat_len prc 2 (fun _ => rfl) _, A, c, by rw [hlen], by omega, by omega, fun hn => ?_⟩
  obtain ⟨b, off, e1, e2, e3⟩ := h3 (by omega)
  refine ⟨b, off, e1, e2, fun j u hu => e3 j u ?_⟩
  have hj := (List.getElem?_eq_some_iff.1 hu).1
  rw [flat_len prc 2 (fun _ => rfl), hlen] at hj
  have g1 := flat_get prc 2 (fun _ => rfl) (l.take k) (j / 2) (j % 2) (by omega) (by omega)
  have g2 := flat_get prc 2 (fun _ => rfl) l (j / 2) (j % 2) (by omega) (by omega)
  rw [show j / 2 * 2 + j % 2 = j by omega] at g1 g2
  rw [g2, ← hu, g1]
  simp
set_option maxHeartbeats 2000000 in
set_option maxRecDepth 100000 in
theorem indexNode_any (v : Value) (l : List Pr) (x y : Int) (w : World) (h : RP w v l) :
    Calls Tryz.prog 81 #[v, .agg #[.int .i64 x, .int .i64 y]] w fun e w' => e = .returned (.int .i64 (idxP l (x, y))) ∧ Below w.heap.size w w' := by
  obtain ⟨A, c, rfl, hc, hm, hcell⟩ := h.formI
  unfold maxLen at hm
  clear h
  go_enter Tryz.func81, Tryz.ntmps81
  go_wp2
  go_loopw [8] (fun i wr => ∃ k : Nat, k ≤ l.length ∧ i = .int .i64 k ∧ Hid ((x, y) ∉ l.take k) ∧ Blk wr w.heap.size 47 #[.int .i64 x, .int .i64 y] ∧ Below w.heap.size w wr) (fun i _ => l.length - (intOf i).toNat)
  case atStart => exact ⟨0, Nat.zero_le _, rfl, Lib.hid (by simp), Blk.newAt rfl, by exact bel_⟩
  case round =>
    obtain ⟨k, hk, rfl, HT, hB, hbl⟩ := hrel
    have hsz := hbl.size
    by_cases hlt : k < l.length
    · obtain ⟨b, off, rfl, hb, hcl⟩ := hcell (by omega)
      obtain ⟨k0, k1⟩ := hcl k hlt
      have q0 := (hbl.cell (p := ⟨b, off + k * 2, none⟩) hb).trans k0
      have q1 := (hbl.cell (p := ⟨b, off + k * 2 + 1, none⟩) hb).trans k1
      have hi1 : (0 : Int) ≤ (k : Int) := by omega
      have hi2 : (k : Int) < (l.length : Int) := by omega
      obtain ⟨a_0, a_1⟩ := hB.c2
      clear k0 k1 hcl hcell
      cases hxy : prB x y (ndI l k).1 (ndI l k).2
      · have HX : Hid ((x, y) ∉ l.take (k + 1)) := Lib.hid (by
          rw [List.take_succ_eq_append_getElem hlt, List.mem_append, List.mem_singleton, ← ndI_nat l k hlt]
          rintro (h | h)
          · exact HT.out h
          · rw [← h] at hxy
            simp [prB_self] at hxy)
        go_wp2
        go_quiet (fail)
        go_wp2
        go_roundw
        case rel => exact ⟨k + 1, by omega, by go_num, HX, hB, by exact bel_⟩
        case measure => simp [intOf]; omega
      · have HX : Hid (idxP l (x, y) = k) := Lib.hid (idxP_at hlt HT.out (prB_iff.1 hxy).symm)
        go_wp2
        go_quiet (fail)
        go_wp2
        go_ret
        exact ⟨ret_int HX.out.symm, by exact bel_⟩
    · have hkk : l.length ≤ k := by omega
      have h := HT.out
      rw [List.take_of_length_le hkk] at h
      have HX : Hid (idxP l (x, y) = -1) := Lib.hid (idxP_no h)
      clear h hcell
      go_wp2
      go_ret
      exact ⟨ret_int HX.out.symm, hbl⟩
set_option maxHeartbeats 1000000 in
theorem contains_any (v : Value) (l : List Pr) (x y : Int) (b : Bool) (w : World) (h : RP w v l) (hb : decide ((x, y) ∈ l) = b) :
    Calls Tryz.prog 61 #[v, .agg #[.int .i64 x, .int .i64 y]] w fun e w' => e = .returned (.bool b) ∧ Below w.heap.size w w' := by
  obtain ⟨z, hz⟩ : ∃ z, idxP l (x, y) = z := ⟨_, rfl⟩
  have HZ : Hid (decide (0 ≤ z) = b) := Lib.hid (by rw [← hz, ← hb]; simp [idxP_nonneg])
  go_enter Tryz.func61, Tryz.ntmps61
  go_wp2_with fail
  refine (indexNode_any _ l _ _ _ (h.below (by exact bel_))).mono ?_
  rw [hz]
  rintro e w1 ⟨rfl, hb1⟩; (first | (with_reducible have hc1 := bdC hb1) | have hc1 := bcC hb1); (first | (with_reducible have hf1 := bdF hb1) | have hf1 := bcF hb1); have hz1 := hb1.size; (try simp at hz1); (try have hp1_0 := p0_ w w1); (try have hp1_1 := p1_ w w1); (try have hp1_2 := p2_ w w1); (try have hp1_3 := p3_ w w1)
  go_wp2
  go_ret
  exact ⟨ret_bool HZ.out, by exact bel_⟩
end Go.Proofs.YtbennlajjfkdpaaGreatDoor

namespace Go.Proofs.YtbennlajjfkdpaaGreatDoor
open Go.RowKit
section
variable {P : Program} {md : Region.Mode} {ops : Array Oper} {Q : Exit → Act → World → Prop} {S : World → Prop}
def anyE (P : Program) (md : Region.Mode) (ops : Array Oper) (Q : Exit → Act → World → Prop) (S : World → Prop) (n : Nat) : Nat → Array Bool → Act → World → Prop
  | 0, listed, a, w => Region.ready md ops listed = [] ∧ Q .normal a w
  | fuel + 1, listed, a, w =>
    (Region.ready md ops listed = [] → Q .normal a w) ∧
    ∀ i ∈ Region.ready md ops listed, wpOp P ops Q i (fun a' w' => ((listed.setIfInBounds i true).getD n true = false → S w') ∧ anyE P md ops Q S n fuel (listed.setIfInBounds i true) a' w') a w
theorem any_of_E {n : Nat} : ∀ (fuel : Nat) (listed : Array Bool) (a : Act) (w : World), anyE P md ops Q S n fuel listed a w → wpAny P md ops Q fuel listed a w
  | 0, _, _, _, h => h
  | fuel + 1, _, _, _, h => ⟨h.1, fun i hi => wpOp_mono (fun a' w' h' => any_of_E fuel _ a' w' h'.2) (h.2 i hi)⟩
theorem E_first {n i : Nat} {oi on : Oper} {v : Value} (hi : ops[i]? = some oi) (hon : ops[n]? = some on) (hwait : ∃ e ∈ on.after, Region.binds md e = true ∧ e.on = i) (hsel : ∀ (j : Nat) (o : Oper) cs b, ops[j]? = some o → o.op ≠ .select cs b)
    (hQ : ∀ c a w, Q (.panic c) (a.put oi.dst v) w → Q (.panic c) a w) :
    ∀ (fuel : Nat) (listed : Array Bool) (a : Act) (w : World),
      (∀ j oj, ops[j]? = some oj → j ≠ i → listed.getD j true = false → (∀ e ∈ oj.after, Region.binds md e = true → e.on ≠ i) → oi.apart ops oj = true) →
      i ∈ Region.ready md ops listed → listed.getD n true = false → YieldsIf P ops S oi v a → S w →
      anyE P md ops Q S n fuel (listed.setIfInBounds i true) (a.put oi.dst v) w → anyE P md ops Q S n (fuel + 1) listed a w := by
  intro fuel
  induction fuel with
  | zero =>
    intro listed a w _ hr hn hy hS H
    refine ⟨fun h => (by rw [h] at hr; cases hr), fun j hj => ?_⟩
    by_cases hji : j = i
    · subst hji
      exact hy.wpOp hi hS ⟨fun _ => hS, H⟩
    · have := ready_mono hj hji
      rw [H.1] at this
      cases this
  | succ fuel ih =>
    intro listed a w hfree hr hn hy hS H
    refine ⟨fun h => (by rw [h] at hr; cases hr), fun j hj => ?_⟩
    by_cases hji : j = i
    · subst hji
      exact hy.wpOp hi hS ⟨fun _ => hS, H⟩
    · have h1 := H.2 j (ready_mono hj hji)
      obtain ⟨hjun, oj, hoj, hall⟩ := mem_ready.1 hj
      have hnot : ∀ e ∈ oj.after, Region.binds md e = true → e.on ≠ i := fun e he hb heq => by
        have g1 := hall e he hb
        have g0 := (mem_ready.1 hr).1
        rw [heq] at g1
        rcases Nat.lt_or_ge i listed.size with h' | h'
        · simp [h'] at g0 g1; rw [g0] at g1; cases g1
        · simp [Array.getElem?_eq_none h'] at g1
      have hjn : j ≠ n := by
        rintro rfl
        rw [hon] at hoj
        cases hoj
        obtain ⟨e, he, hb, heq⟩ := hwait
        exact hnot e he hb heq
      have hin : i ≠ n := by
        rintro rfl
        rw [hon] at hi
        cases hi
        obtain ⟨e, he, hb, heq⟩ := hwait
        obtain ⟨h0, o', ho', hall'⟩ := mem_ready.1 hr
        rw [hon] at ho'
        cases ho'
        have g1 := hall' e he hb
        rw [heq] at g1
        rcases Nat.lt_or_ge i listed.size with h' | h'
        · simp [h'] at h0 g1; rw [h0] at g1; cases g1
        · simp [Array.getElem?_eq_none h'] at g1
      have h2 := wpOp_putIf hoj (hfree j oj hoj hji hjun hnot) (fun cs b => hsel i oi cs b hi) (fun cs b => hsel j oj cs b hoj) hQ hy h1
      have hfree' : ∀ k ok, ops[k]? = some ok → k ≠ i → (listed.setIfInBounds j true).getD k true = false →
          (∀ e ∈ ok.after, Region.binds md e = true → e.on ≠ i) → oi.apart ops ok = true := fun k ok hk hki hun hno => by
        refine hfree k ok hk hki ?_ hno
        by_cases hjk : j = k
        · subst hjk; exact hjun
        · rw [getD_set_ne true hjk] at hun; exact hun
      have hnf : ((listed.setIfInBounds i true).setIfInBounds j true).getD n true = false := by rw [getD_set_ne true hjn, getD_set_ne true hin]; exact hn
      refine wpOp_mono (fun a' w' h3 => ⟨fun _ => h3.2.1 hnf, ih (listed.setIfInBounds j true) a' w' hfree' (ready_mono hr (Ne.symm hji)) (by rw [getD_set_ne true hjn]; exact hn) h3.1 (h3.2.1 hnf) ?_⟩) h2
      rw [Array.setIfInBounds_comm _ _ hji]
      exact h3.2.2
theorem E_take {n i : Nat} {oi on : Oper} {v : Value} {fuel : Nat} {listed : Array Bool} {a : Act} {w : World} (hi' : (ops.toList.drop i).head? = some oi) (hon' : (ops.toList.drop n).head? = some on) (hwait : (on.after.any fun e => Region.binds md e && e.on == i) = true)
    (hs : Region.noSelect ops = true) (hf : Region.free md ops listed i = true) (hr : (Region.ready md ops listed).contains i = true) (hn : listed.getD n true = false)
    (hQ : ∀ c a w, Q (.panic c) (a.put oi.dst v) w → Q (.panic c) a w) (hy : YieldsIf P ops S oi v a) (hS : S w)
    (h : anyE P md ops Q S n fuel (listed.setIfInBounds i true) (a.put oi.dst v) w) : anyE P md ops Q S n (fuel + 1) listed a w := by
  have hi := op_of_head hi'
  have hon := op_of_head hon'
  refine E_first hi hon ?_ (Region.noSelect_spec hs) hQ fuel listed a w (Region.free_spec hi hf) (by simpa using hr) hn hy hS h
  rw [Array.any_eq_true] at hwait
  obtain ⟨k, hk, h⟩ := hwait
  rw [Bool.and_eq_true] at h
  exact ⟨on.after[k], Array.getElem_mem hk, h.1, by simpa using h.2⟩
theorem E_step {n i : Nat} {o : Oper} {fuel : Nat} {listed : Array Bool} {a : Act} {w : World} (ho' : (ops.toList.drop i).head? = some o) (hr : Region.ready md ops listed = [i])
    (h : ∀ K' : Act → World → Prop, (∀ a w, ((listed.setIfInBounds i true).getD n true = false → S w) → (((listed.setIfInBounds i true).getD n true = false → S w) → anyE P md ops Q S n fuel (listed.setIfInBounds i true) a w) → K' a w) → if Region.wanted o (yielded ops a.tmps) = true then Oper.wp P o a w K' Q else K' (a.put o.dst undef) w) :
    anyE P md ops Q S n (fuel + 1) listed a w := by
  have ho := op_of_head ho'
  refine ⟨fun h0 => (by rw [hr] at h0; cases h0), fun j hj => ?_⟩
  rw [hr, List.mem_singleton] at hj
  subst hj
  exact wpOp_step ho (fun K' hK => h K' (fun a w hS hW => hK a w ⟨hS, hW hS⟩))
theorem E_done {n : Nat} {listed : Array Bool} {a : Act} {w : World} (hr : Region.ready md ops listed = []) (h : Q .normal a w) : ∀ fuel, anyE P md ops Q S n fuel listed a w
  | 0 => ⟨hr, h⟩
  | _ + 1 => ⟨fun _ => h, by rw [hr]; simp⟩
theorem region_E {id n : Nat} {a : Act} {w : World} (hm : P.follows .mixedOrders = true) (hS : S w.drew)
    (h : S w.drew → anyE P .any ops Q S n ops.size (Array.replicate ops.size false) a w.drew) : (Code.region id ops true).wp P Q a w :=
  wp_region_any hm (any_of_E _ _ _ _ (h hS))
end
end Go.Proofs.YtbennlajjfkdpaaGreatDoor
