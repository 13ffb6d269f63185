/-
  Nodes: valid ones, turns, between.
-/
import Derived.Test.YtbennlajjfkdpaaDoorPrL
import Derived.Test.YtbennlajjfkdpaaDoorSmall
import Derived.Outline
set_option linter.unusedSimpArgs false
set_option linter.unusedVariables false
namespace Go.Proofs.YtbennlajjfkdpaaDoor
open Go.RowKit

attribute [local go_sem ↓] run_eqNode run_neNode run_mn2 run_mx2

/-- A valid node. -/
def nodeB (x y : Int) : Bool := inB x 0 20 && inB y 0 20

theorem nodeB_bd {x y : Int} (h : nodeB x y = true) : 0 ≤ x ∧ x ≤ 20 ∧ 0 ≤ y ∧ y ≤ 20 := by
  simp [nodeB, inB] at h; omega

/-- The turn at a of b and c. -/
def turnI (ax ay bx by' cx cy : Int) : Int := (bx - ax) * (cy - ay) - (by' - ay) * (cx - ax)

/-- c lies between a and b. -/
def betwB (ax ay bx by' cx cy : Int) : Bool :=
  nodeB ax ay && nodeB bx by' && nodeB cx cy && !(prB ax ay bx by') && !(prB bx by' cx cy) && !(prB ax ay cx cy) && (turnI ax ay bx by' cx cy == 0) && inB cx (mn2 ax bx) (mx2 ax bx) && inB cy (mn2 ay by') (mx2 ay by')

theorem mul_bd {u v : Int} (h1 : -20 ≤ u) (h2 : u ≤ 20) (h3 : -20 ≤ v) (h4 : v ≤ 20) : -400 ≤ u * v ∧ u * v ≤ 400 := by
  have h : (u * v).natAbs ≤ 20 * 20 := by
    rw [Int.natAbs_mul]
    exact Nat.mul_le_mul (by omega) (by omega)
  omega

theorem turnI_bd {ax ay bx by' cx cy : Int} (ha : nodeB ax ay = true) (hb : nodeB bx by' = true) (hc : nodeB cx cy = true) : -800 ≤ turnI ax ay bx by' cx cy ∧ turnI ax ay bx by' cx cy ≤ 800 := by
  have h1 := nodeB_bd ha
  have h2 := nodeB_bd hb
  have h3 := nodeB_bd hc
  have m1 := mul_bd (u := bx - ax) (v := cy - ay) (by omega) (by omega) (by omega) (by omega)
  have m2 := mul_bd (u := by' - ay) (v := cx - ax) (by omega) (by omega) (by omega) (by omega)
  unfold turnI
  omega

set_option maxHeartbeats 400000 in
theorem sNodeOk_any (x y : Int) (w : World) :
    Calls Tryd.prog 42 #[.agg #[.int .i64 x, .int .i64 y]] w fun e w' => e = .returned (.bool (nodeB x y)) ∧ Below w.heap.size w w' := by
  go_enter Tryd.func42, Tryd.ntmps42
  go_wp2_with (go_at_call 14; refine (l01In_any _ _ _ _).mono ?_; rintro e w' ⟨rfl, rfl⟩)
  all_goals go_ret
  all_goals refine ⟨ret_bool ?_, by exact bel_⟩
  all_goals simp_all [nodeB]

set_option maxHeartbeats 400000 in
theorem iNodeOk_any (x y : Int) (w : World) :
    Calls Tryd.prog 69 #[.agg #[.int .i64 x, .int .i64 y]] w fun e w' => e = .returned (.bool (nodeB x y)) ∧ Below w.heap.size w w' := by
  go_enter Tryd.func69, Tryd.ntmps69
  go_wp2_with (go_at_call 49; refine (within_any _ _ _ _).mono ?_; rintro e w' ⟨rfl, rfl⟩)
  all_goals go_ret
  all_goals refine ⟨ret_bool ?_, by exact bel_⟩
  all_goals simp_all [nodeB]

def nodesB (l : List (Int × Int)) : Bool := l.all fun p => nodeB p.1 p.2

set_option maxHeartbeats 2000000 in
theorem nodesOk_any (v : Value) (l : List (Int × Int)) (w : World) (h : RP w v l) :
    Calls Tryd.prog 50 #[v] w fun e w' => e = .returned (.bool (nodesB l)) ∧ Below w.heap.size w w' := by
  obtain ⟨A, c, rfl, hc, hm, hcell⟩ := h.form
  unfold maxLen at hm
  clear h
  go_enter Tryd.func50, Tryd.ntmps50
  go_wp2
  go_loopw [7] (fun i wr => ∃ k : Nat, k ≤ l.length ∧ i = .int .i64 k ∧ Hid (nodesB (l.take k) = true) ∧ Below w.heap.size w wr) (fun i _ => l.length - (intOf i).toNat)
  case atStart => exact ⟨0, Nat.zero_le _, rfl, Lib.hid (by simp [nodesB]), Below.refl _ _⟩
  case round =>
    obtain ⟨k, hk, rfl, HT, hbl⟩ := hrel
    have hsz := hbl.size
    by_cases hlt : k < l.length
    · obtain ⟨b, off, rfl, hb, hcl⟩ := hcell (by omega)
      obtain ⟨k0, k1⟩ := hcl k hlt
      have q0 := (hbl.cell (p := ⟨b, off + k * 2, none⟩) hb).trans k0
      have q1 := (hbl.cell (p := ⟨b, off + k * 2 + 1, none⟩) hb).trans k1
      clear k0 k1 hcl hcell
      cases hok : nodeB l[k].1 l[k].2
      · have HOK := Lib.hid hok
        have HF : Hid (nodesB l = false) := Lib.hid (by
          unfold nodesB
          rw [List.all_eq_false]
          exact ⟨l[k], List.getElem_mem hlt, by rw [hok]; simp⟩)
        clear hok
        go_wp2_with fail
        refine (iNodeOk_any _ _ _).mono ?_
        rintro e w1 ⟨rfl, hb1⟩; (first | (with_reducible have hc1 := bdC hb1) | have hc1 := bcC hb1); (first | (with_reducible have hf1 := bdF hb1) | have hf1 := bcF hb1); have hz1 := hb1.size; (try simp at hz1); (try have hp1_0 := p0_ w w1); (try have hp1_1 := p1_ w w1); (try have hp1_2 := p2_ w w1); (try have hp1_3 := p3_ w w1)
        rw [HOK.out]
        go_wp2
        go_ret
        exact ⟨ret_bool HF.out.symm, by exact bel_⟩
      · have HOK := Lib.hid hok
        have HT' : Hid (nodesB (l.take (k + 1)) = true) := Lib.hid (by
          unfold nodesB
          rw [List.take_succ_eq_append_getElem hlt, List.all_append]
          have := HT.out
          unfold nodesB at this
          rw [this]
          simp [hok])
        clear hok
        go_wp2_with fail
        refine (iNodeOk_any _ _ _).mono ?_
        rintro e w1 ⟨rfl, hb1⟩; (first | (with_reducible have hc1 := bdC hb1) | have hc1 := bcC hb1); (first | (with_reducible have hf1 := bdF hb1) | have hf1 := bcF hb1); have hz1 := hb1.size; (try simp at hz1); (try have hp1_0 := p0_ w w1); (try have hp1_1 := p1_ w w1); (try have hp1_2 := p2_ w w1); (try have hp1_3 := p3_ w w1)
        rw [HOK.out]
        go_wp2
        go_roundw
        case rel => exact ⟨k + 1, by omega, by go_num, HT', by exact bel_⟩
        case measure => simp [intOf]; omega
    · have hkk : l.length ≤ k := by omega
      have h := HT.out
      rw [List.take_of_length_le hkk] at h
      have HF := Lib.hid h
      clear h hcell
      go_wp2
      go_ret
      exact ⟨ret_bool HF.out.symm, hbl⟩

theorem nodes3_any (v : Value) (ax ay bx by' cx cy : Int) (w : World) (h : RP w v [(ax, ay), (bx, by'), (cx, cy)]) :
    Calls Tryd.prog 50 #[v] w fun e w' => e = .returned (.bool (nodeB ax ay && nodeB bx by' && nodeB cx cy)) ∧ Below w.heap.size w w' :=
  (nodesOk_any v _ w h).mono fun e w' ⟨he, hw⟩ => ⟨he.trans (ret_bool (by simp [nodesB, Bool.and_assoc])), hw⟩

set_option maxHeartbeats 1000000 in
set_option maxRecDepth 100000 in
theorem sTurn_any (ax ay bx by' cx cy : Int) (w : World) (ha : nodeB ax ay = true) (hb : nodeB bx by' = true) (hc : nodeB cx cy = true) :
    Calls Tryd.prog 64 #[.agg #[.int .i64 ax, .int .i64 ay], .agg #[.int .i64 bx, .int .i64 by'], .agg #[.int .i64 cx, .int .i64 cy]] w
      fun e w' => e = .returned (.int .i64 (turnI ax ay bx by' cx cy)) ∧ Below w.heap.size w w' := by
  have h1 := nodeB_bd ha
  have h2 := nodeB_bd hb
  have h3 := nodeB_bd hc
  have m1 := mul_bd (u := bx - ax) (v := cy - ay) (by omega) (by omega) (by omega) (by omega)
  have m2 := mul_bd (u := by' - ay) (v := cx - ax) (by omega) (by omega) (by omega) (by omega)
  clear ha hb hc
  go_enter Tryd.func64, Tryd.ntmps64
  go_wp2
  go_ret
  exact ⟨rfl, by exact bel_⟩

set_option maxHeartbeats 1000000 in
set_option maxRecDepth 100000 in
theorem iTurn_any (ax ay bx by' cx cy : Int) (w : World) (ha : nodeB ax ay = true) (hb : nodeB bx by' = true) (hc : nodeB cx cy = true) :
    Calls Tryd.prog 72 #[.agg #[.int .i64 ax, .int .i64 ay], .agg #[.int .i64 bx, .int .i64 by'], .agg #[.int .i64 cx, .int .i64 cy]] w
      fun e w' => e = .returned (.int .i64 (turnI ax ay bx by' cx cy)) ∧ Below w.heap.size w w' := by
  have h1 := nodeB_bd ha
  have h2 := nodeB_bd hb
  have h3 := nodeB_bd hc
  have m1 := mul_bd (u := bx - ax) (v := cy - ay) (by omega) (by omega) (by omega) (by omega)
  have m2 := mul_bd (u := by' - ay) (v := cx - ax) (by omega) (by omega) (by omega) (by omega)
  have HN : Hid ((nodeB ax ay && nodeB bx by' && nodeB cx cy) = true) := Lib.hid (by rw [ha, hb, hc]; rfl)
  clear ha hb hc
  go_enter Tryd.func72, Tryd.ntmps72
  go_wp2_with fail
  refine (nodes3_any _ ax ay bx by' cx cy _ (RP_lit (by simp) rfl rfl rfl (by simp [maxLen]))).mono ?_
  rintro e w1 ⟨rfl, hb1⟩; (first | (with_reducible have hc1 := bdC hb1) | have hc1 := bcC hb1); (first | (with_reducible have hf1 := bdF hb1) | have hf1 := bcF hb1); have hz1 := hb1.size; (try simp at hz1); (try have hp1_0 := p0_ w w1); (try have hp1_1 := p1_ w w1); (try have hp1_2 := p2_ w w1); (try have hp1_3 := p3_ w w1)
  rw [HN.out]
  go_wp2
  go_ret
  exact ⟨rfl, by exact bel_⟩

end Go.Proofs.YtbennlajjfkdpaaDoor
