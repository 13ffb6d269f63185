/- part 6 -/
import Derived.Test.YtbennlajjfkdpaaGreatDoorFPk1
import Derived.Test.YtbennlajjfkdpaaGreatDoorFPk5
import Derived.Outline
set_option linter.unusedSimpArgs false
set_option linter.unusedVariables false
namespace Go.Proofs.YtbennlajjfkdpaaGreatDoor
open Go.RowKit
attribute [local go_sem ↓] run_eqNode run_neNode run_mn2 run_mx2
def nodeB (x y : Int) : Bool := inB x 0 20 && inB y 0 20
theorem nodeB_bd {x y : Int} (h : nodeB x y = true) : 0 ≤ x ∧ x ≤ 20 ∧ 0 ≤ y ∧ y ≤ 20 := by
  simp [nodeB, inB] at h; omega
def turnI (ax ay bx by' cx cy : Int) : Int := (bx - ax) * (cy - ay) - (by' - ay) * (cx - ax)
def betwB (ax ay bx by' cx cy : Int) : Bool :=
  nodeB ax ay && nodeB bx by' && nodeB cx cy && !(prB ax ay bx by') && !(prB bx by' cx cy) && !(prB ax ay cx cy) && (turnI ax ay bx by' cx cy == 0) && inB cx (mn2 ax bx) (mx2 ax bx) && inB cy (mn2 ay by') (mx2 ay by')
theorem mul_bd {u v : Int} (h1 : -20 ≤ u) (h2 : u ≤ 20) (h3 : -20 ≤ v) (h4 : v ≤ 20) : -400 ≤ u * v ∧ u * v ≤ 400 := by
  have h : (u * v).natAbs ≤ 20 * 20 := by
    rw [Int.natAbs_mul]
    exact Nat.mul_le_mul (by omega) (by omega)
  omega
theorem turnI_bd {ax ay bx by' cx cy : Int} (ha : nodeB ax ay = true) (hb : nodeB bx by' = true) (hc : nodeB cx cy = true) : -800 ≤ turnI ax ay bx by' cx cy ∧ turnI ax ay bx by' cx cy ≤ 800 := by
  have h1 := nodeB_bd ha
  have h2 := nodeB_bd hb
  have h3 := nodeB_bd hc
  have m1 := mul_bd (u := bx - ax) (v := cy - ay) (by omega) (by omega) (by omega) (by omega)
  have m2 := mul_bd (u := by' - ay) (v := cx - ax) (by omega) (by omega) (by omega) (by omega)
  unfold turnI
  omega
set_option maxHeartbeats 400000 in
theorem sNodeOk_any (x y : Int) (w : World) :
    Calls Tryz.prog 77 #[.agg #[.int .i64 x, .int .i64 y]] w fun e w' => e = .returned (.bool (nodeB x y)) ∧ Below w.heap.size w w' := by
  go_enter Tryz.func77, Tryz.ntmps77
  go_wp2_with (go_at_call 35; refine (l01In_any _ _ _ _).mono ?_; rintro e w' ⟨rfl, rfl⟩)
  all_goals go_ret
  all_goals refine ⟨ret_bool ?_, by exact bel_⟩
  all_goals simp_all [nodeB]
set_option maxHeartbeats 400000 in
theorem iNodeOk_any (x y : Int) (w : World) :
    Calls Tryz.prog 39 #[.agg #[.int .i64 x, .int .i64 y]] w fun e w' => e = .returned (.bool (nodeB x y)) ∧ Below w.heap.size w w' := by
  go_enter Tryz.func39, Tryz.ntmps39
  go_wp2_with (go_at_call 44; refine (within_any _ _ _ _).mono ?_; rintro e w' ⟨rfl, rfl⟩)
  all_goals go_ret
  all_goals refine ⟨ret_bool ?_, by exact bel_⟩
  all_goals simp_all [nodeB]
def nodesB (l : List (Int × Int)) : Bool := l.all fun p => nodeB p.1 p.2
set_option maxHeartbeats 2000000 in
theorem nodesOk_any (v : Value) (l : List (Int × Int)) (w : World) (h : RP w v l) :
    Calls Tryz.prog 60 #[v] w fun e w' => e = .returned (.bool (nodesB l)) ∧ Below w.heap.size w w' := by
  obtain ⟨A, c, rfl, hc, hm, hcell⟩ := h.form
  unfold maxLen at hm
  clear h
  go_enter Tryz.func60, Tryz.ntmps60
  go_wp2
  go_loopw [7] (fun i wr => ∃ k : Nat, k ≤ l.length ∧ i = .int .i64 k ∧ Hid (nodesB (l.take k) = true) ∧ Below w.heap.size w wr) (fun i _ => l.length - (intOf i).toNat)
  case atStart => exact ⟨0, Nat.zero_le _, rfl, Lib.hid (by simp [nodesB]), Below.refl _ _⟩
  case round =>
    obtain ⟨k, hk, rfl, HT, hbl⟩ := hrel
    have hsz := hbl.size
    by_cases hlt : k < l.length
    · obtain ⟨b, off, rfl, hb, hcl⟩ := hcell (by omega)
      obtain ⟨k0, k1⟩ := hcl k hlt
      have q0 := (hbl.cell (p := ⟨b, off + k * 2, none⟩) hb).trans k0
      have q1 := (hbl.cell (p := ⟨b, off + k * 2 + 1, none⟩) hb).trans k1
      clear k0 k1 hcl hcell
      cases hok : nodeB l[k].1 l[k].2
      · have HOK := Lib.hid hok
        have HF : Hid (nodesB l = false) := Lib.hid (by
          unfold nodesB
          rw [List.all_eq_false]
          exact ⟨l[k], List.getElem_mem hlt, by rw [hok]; simp⟩)
        clear hok
        go_wp2_with fail
        refine (iNodeOk_any _ _ _).mono ?_
        rintro e w1 ⟨rfl, hb1⟩; (first | (with_reducible have hc1 := bdC hb1) | have hc1 := bcC hb1); (first | (with_reducible have hf1 := bdF hb1) | have hf1 := bcF hb1); have hz1 := hb1.size; (try simp at hz1); (try have hp1_0 := p0_ w w1); (try have hp1_1 := p1_ w w1); (try have hp1_2 := p2_ w w1); (try have hp1_3 := p3_ w w1)
        rw [HOK.out]
        go_wp2
        go_ret
        exact ⟨ret_bool HF.out.symm, by exact bel_⟩
      · have HOK := Lib.hid hok
        have HT' : Hid (nodesB (l.take (k + 1)) = true) := Lib.hid (by
          unfold nodesB
          rw [List.take_succ_eq_append_getElem hlt, List.all_append]
          have := HT.out
          unfold nodesB at this
          rw [this]
          simp [hok])
        clear hok
        go_wp2_with fail
        refine (iNodeOk_any _ _ _).mono ?_
        rintro e w1 ⟨rfl, hb1⟩; (first | (with_reducible have hc1 := bdC hb1) | have hc1 := bcC hb1); (first | (with_reducible have hf1 := bdF hb1) | have hf1 := bcF hb1); have hz1 := hb1.size; (try simp at hz1); (try have hp1_0 := p0_ w w1); (try have hp1_1 := p1_ w w1); (try have hp1_2 := p2_ w w1); (try have hp1_3 := p3_ w w1)
        rw [HOK.out]
        go_wp2
        go_roundw
        case rel => exact ⟨k + 1, by omega, by go_num, HT', by exact bel_⟩
        case measure => simp [intOf]; omega
    · have hkk : l.length ≤ k := by omega
      have h := HT.out
      rw [List.take_of_length_le hkk] at h
      have HF := Lib.hid h
      clear h hcell
      go_wp2
      go_ret
      exact ⟨ret_bool HF.out.symm, hbl⟩
theorem nodes3_any (v : Value) (ax ay bx by' cx cy : Int) (w : World) (h : RP w v [(ax, ay), (bx, by'), (cx, cy)]) :
    Calls Tryz.prog 60 #[v] w fun e w' => e = .returned (.bool (nodeB ax ay && nodeB bx by' && nodeB cx cy)) ∧ Below w.heap.size w w' :=
  (nodesOk_any v _ w h).mono fun e w' ⟨he, hw⟩ => ⟨he.trans (ret_bool (by simp [nodesB, Bool.and_assoc])), hw⟩
set_option maxHeartbeats 1000000 in
set_option maxRecDepth 100000 in
theorem sTurn_any (ax ay bx by' cx cy : Int) (w : World) (ha : nodeB ax ay = true) (hb : nodeB bx by' = true) (hc : nodeB cx cy = true) :
    Calls Tryz.prog 97 #[.agg #[.int .i64 ax, .int .i64 ay], .agg #[.int .i64 bx, .int .i64 by'], .agg #[.int .i64 cx, .int .i64 cy]] w
      fun e w' => e = .returned (.int .i64 (turnI ax ay bx by' cx cy)) ∧ Below w.heap.size w w' := by
  have h1 := nodeB_bd ha
  have h2 := nodeB_bd hb
  have h3 := nodeB_bd hc
  have m1 := mul_bd (u := bx - ax) (v := cy - ay) (by omega) (by omega) (by omega) (by omega)
  have m2 := mul_bd (u := by' - ay) (v := cx - ax) (by omega) (by omega) (by omega) (by omega)
  clear ha hb hc
  go_enter Tryz.func97, Tryz.ntmps97
  go_wp2
  go_ret
  exact ⟨rfl, by exact bel_⟩
set_option maxHeartbeats 1000000 in
set_option maxRecDepth 100000 in
theorem iTurn_any (ax ay bx by' cx cy : Int) (w : World) (ha : nodeB ax ay = true) (hb : nodeB bx by' = true) (hc : nodeB cx cy = true) :
    Calls Tryz.prog 83 #[.agg #[.int .i64 ax, .int .i64 ay], .agg #[.int .i64 bx, .int .i64 by'], .agg #[.int .i64 cx, .int .i64 cy]] w
      fun e w' => e = .returned (.int .i64 (turnI ax ay bx by' cx cy)) ∧ Below w.heap.size w w' := by
  have h1 := nodeB_bd ha
  have h2 := nodeB_bd hb
  have h3 := nodeB_bd hc
  have m1 := mul_bd (u := bx - ax) (v := cy - ay) (by omega) (by omega) (by omega) (by omega)
  have m2 := mul_bd (u := by' - ay) (v := cx - ax) (by omega) (by omega) (by omega) (by omega)
  have HN : Hid ((nodeB ax ay && nodeB bx by' && nodeB cx cy) = true) := Lib.hid (by rw [ha, hb, hc]; rfl)
  clear ha hb hc
  go_enter Tryz.func83, Tryz.ntmps83
  go_wp2_with fail
  refine (nodes3_any _ ax ay bx by' cx cy _ (RP_lit (by simp) rfl rfl rfl (by simp [maxLen]))).mono ?_
  rintro e w1 ⟨rfl, hb1⟩; (first | (with_reducible have hc1 := bdC hb1) | have hc1 := bcC hb1); (first | (with_reducible have hf1 := bdF hb1) | have hf1 := bcF hb1); have hz1 := hb1.size; (try simp at hz1); (try have hp1_0 := p0_ w w1); (try have hp1_1 := p1_ w w1); (try have hp1_2 := p2_ w w1); (try have hp1_3 := p3_ w w1)
  rw [HN.out]
  go_wp2
  go_ret
  exact ⟨rfl, by exact bel_⟩
end Go.Proofs.YtbennlajjfkdpaaGreatDoor

namespace Go.Proofs.YtbennlajjfkdpaaGreatDoor
open Go.RowKit
abbrev Pr := Int × Int
def nodeP (p : Pr) : Bool := nodeB p.1 p.2
def turnP (a b c : Pr) : Int := turnI a.1 a.2 b.1 b.2 c.1 c.2
def betwP (a b c : Pr) : Bool := betwB a.1 a.2 b.1 b.2 c.1 c.2
def sameP (a b : Pr) : Bool := prB a.1 a.2 b.1 b.2
theorem sameP_iff {a b : Pr} : sameP a b = true ↔ a = b := prB_iff
def ndI (ns : List Pr) (i : Int) : Pr := ns.getD i.toNat (0, 0)
theorem ndI_nat (ns : List Pr) (k : Nat) (h : k < ns.length) : ndI ns k = ns[k] := by
  simp [ndI, List.getD, h]
def leadB (ns : List Pr) (l : Pr) : Bool :=
  decide (0 ≤ l.1) && decide (l.1 < l.2) && decide (l.2 < ns.length) && nodeP (ndI ns l.1) && nodeP (ndI ns l.2) && !(sameP (ndI ns l.1) (ndI ns l.2))
theorem leadB_iff {ns : List Pr} {l : Pr} : leadB ns l = true ↔ 0 ≤ l.1 ∧ l.1 < l.2 ∧ l.2 < ns.length ∧ nodeP (ndI ns l.1) = true ∧ nodeP (ndI ns l.2) = true ∧ sameP (ndI ns l.1) (ndI ns l.2) = false := by
  simp [leadB, and_assoc]
def crossP (a b c d : Pr) : Bool :=
  (sameP a c && sameP b d || sameP a d && sameP b c) || (betwP a b c || betwP a b d || betwP c d a || betwP c d b) ||
    (decide (turnP a b c * turnP a b d < 0) && decide (turnP c d a * turnP c d b < 0))
def crossB (ns : List Pr) (l m : Pr) : Bool := leadB ns l && leadB ns m && crossP (ndI ns l.1) (ndI ns l.2) (ndI ns m.1) (ndI ns m.2)
def onB (ns : List Pr) (l n : Pr) : Bool := leadB ns l && (sameP n (ndI ns l.1) || sameP n (ndI ns l.2) || betwP (ndI ns l.1) (ndI ns l.2) n)
theorem sameP_comm (a b : Pr) : sameP a b = sameP b a := by
  have h : ∀ a b : Pr, sameP a b = true → sameP b a = true := fun a b h => sameP_iff.2 (sameP_iff.1 h).symm
  cases h1 : sameP a b
  · cases h2 : sameP b a
    · rfl
    · rw [h b a h2] at h1; cases h1
  · rw [h a b h1]
theorem crossP_comm (a b c d : Pr) : crossP a b c d = crossP c d a b := by
  unfold crossP
  rw [sameP_comm c a, sameP_comm d b, sameP_comm c b, sameP_comm d a]
  cases sameP a c <;> cases sameP b d <;> cases sameP a d <;> cases sameP b c <;> cases betwP a b c <;> cases betwP a b d <;> cases betwP c d a <;> cases betwP c d b <;> simp [Bool.and_comm]
theorem crossB_comm (ns : List Pr) (l m : Pr) : crossB ns l m = crossB ns m l := by
  unfold crossB
  rw [crossP_comm, Bool.and_comm (leadB ns l)]
theorem turn_self1 (a b : Pr) : turnP a b a = 0 := by simp [turnP, turnI]
theorem turn_self2 (a b : Pr) : turnP a b b = 0 := by
  unfold turnP turnI; rw [Int.mul_comm]; omega
theorem sign_mul_neg (x y : Int) : Int.sign x * Int.sign y < 0 ↔ x * y < 0 := by
  rw [← Int.sign_mul, Int.sign_neg_iff]
def Dis (ns : List Pr) (i : Nat) : Prop := ∀ a b : Nat, a < b → b < i → sameP (ndI ns a) (ndI ns b) = false
def CrOk (ns ls : List Pr) (l : Pr) (i : Nat) : Prop := ∀ j : Nat, j < i → crossB ns l (ndI ls j) = false
def OnOk (ns : List Pr) (l : Pr) (i : Nat) : Prop := ∀ j : Nat, j < i → (j : Int) ≠ l.1 → (j : Int) ≠ l.2 → onB ns l (ndI ns j) = false
def LdOk (ns ls : List Pr) (k : Nat) : Prop := leadB ns (ndI ls k) = true ∧ CrOk ns ls (ndI ls k) k ∧ OnOk ns (ndI ls k) ns.length
def WinOk (ns ls : List Pr) : Prop :=
  1 ≤ ns.length ∧ ns.length ≤ 12 ∧ ls.length ≤ 20 ∧ nodesB ns = true ∧ Dis ns ns.length ∧ ∀ k : Nat, k < ls.length → LdOk ns ls k
noncomputable def winB (ns ls : List Pr) : Bool := @decide (WinOk ns ls) (Classical.propDecidable _)
theorem winB_true {ns ls : List Pr} : winB ns ls = true ↔ WinOk ns ls := by simp [winB]
theorem winB_false {ns ls : List Pr} : winB ns ls = false ↔ ¬ WinOk ns ls := by simp [winB]
theorem nodesB_mem {ns : List Pr} (h : nodesB ns = true) : ∀ p ∈ ns, nodeP p = true := by
  unfold nodesB at h
  rw [List.all_eq_true] at h
  exact h
theorem nodesB_at {ns : List Pr} (h : nodesB ns = true) (k : Nat) (hk : k < ns.length) : nodeP (ndI ns k) = true := by
  rw [ndI_nat ns k hk]; exact nodesB_mem h _ (List.getElem_mem hk)
theorem Dis.zero (ns : List Pr) : Dis ns 0 := fun a b h hb => absurd hb (by omega)
theorem Dis.succ {ns : List Pr} {i : Nat} (h : Dis ns i) (hi : ∀ a : Nat, a < i → sameP (ndI ns a) (ndI ns i) = false) : Dis ns (i + 1) := by
  intro a b hab hb
  rcases Nat.lt_succ_iff_lt_or_eq.1 hb with h1 | h1
  · exact h a b hab h1
  · subst h1; exact hi a hab
theorem CrOk.zero (ns ls : List Pr) (l : Pr) : CrOk ns ls l 0 := fun j hj => absurd hj (by omega)
theorem CrOk.succ {ns ls : List Pr} {l : Pr} {i : Nat} (h : CrOk ns ls l i) (hi : crossB ns l (ndI ls i) = false) : CrOk ns ls l (i + 1) := by
  intro j hj
  rcases Nat.lt_succ_iff_lt_or_eq.1 hj with h1 | h1
  · exact h j h1
  · subst h1; exact hi
theorem OnOk.zero (ns : List Pr) (l : Pr) : OnOk ns l 0 := fun j hj => absurd hj (by omega)
theorem OnOk.succ {ns : List Pr} {l : Pr} {i : Nat} (h : OnOk ns l i) (hi : (i : Int) ≠ l.1 → (i : Int) ≠ l.2 → onB ns l (ndI ns i) = false) : OnOk ns l (i + 1) := by
  intro j hj
  rcases Nat.lt_succ_iff_lt_or_eq.1 hj with h1 | h1
  · exact h j h1
  · subst h1; exact hi
theorem RP.formI {w : World} {v : Value} {l : List (Int × Int)} (h : RP w v l) : ∃ A c, v = .slice A l.length c ∧ l.length ≤ c ∧ l.length ≤ maxLen ∧
    (0 < l.length → ∃ b off, A = some ⟨b, off, none⟩ ∧ b < w.heap.size ∧ ∀ k : Nat, k < l.length → w.cell? ⟨b, off + k * 2, none⟩ = some (.int .i64 (ndI l k).1) ∧ w.cell? ⟨b, off + k * 2 + 1, none⟩ = some (.int .i64 (ndI l k).2)) := by
  obtain ⟨A, c, h1, h2, h3, h4⟩ := h.form
  refine ⟨A, c, h1, h2, h3, fun hn => ?_⟩
  obtain ⟨b, off, e1, e2, e3⟩ := h4 hn
  exact ⟨b, off, e1, e2, fun k hk => by rw [ndI_nat l k hk]; exact e3 k hk⟩
end Go.Proofs.YtbennlajjfkdpaaGreatDoor

namespace Go.Proofs.YtbennlajjfkdpaaGreatDoor
open Go.RowKit
attribute [local go_sem ↓] run_eqNode run_neNode run_mn2 run_mx2
theorem betw_inv {ax ay bx by' cx cy : Int} (h : ¬ (nodeB ax ay = true ∧ nodeB bx by' = true ∧ nodeB cx cy = true)) : betwB ax ay bx by' cx cy = false := by
  unfold betwB
  cases h1 : nodeB ax ay <;> cases h2 : nodeB bx by' <;> cases h3 : nodeB cx cy <;> simp_all
set_option maxHeartbeats 2000000 in
set_option maxRecDepth 100000 in
theorem sBetween_any (ax ay bx by' cx cy : Int) (w : World) :
    Calls Tryz.prog 95 #[.agg #[.int .i64 ax, .int .i64 ay], .agg #[.int .i64 bx, .int .i64 by'], .agg #[.int .i64 cx, .int .i64 cy]] w
      fun e w' => e = .returned (.bool (betwB ax ay bx by' cx cy)) ∧ Below w.heap.size w w' := by
  cases h1 : nodeB ax ay
  · have HR := Lib.hid (betw_inv (ax := ax) (ay := ay) (bx := bx) (by' := by') (cx := cx) (cy := cy) (by rw [h1]; simp))
    go_enter Tryz.func95, Tryz.ntmps95
    go_wp2_with fail
    refine (sNodeOk_any _ _ _).mono ?_
    rintro e w1 ⟨rfl, hb1⟩; (first | (with_reducible have hc1 := bdC hb1) | have hc1 := bcC hb1); (first | (with_reducible have hf1 := bdF hb1) | have hf1 := bcF hb1); have hz1 := hb1.size; (try simp at hz1); (try have hp1_0 := p0_ w w1); (try have hp1_1 := p1_ w w1); (try have hp1_2 := p2_ w w1); (try have hp1_3 := p3_ w w1)
    rw [h1]
    go_wp2
    go_ret
    exact ⟨ret_bool HR.out.symm, by exact bel_⟩
  cases h2 : nodeB bx by'
  · have HR := Lib.hid (betw_inv (ax := ax) (ay := ay) (bx := bx) (by' := by') (cx := cx) (cy := cy) (by rw [h2]; simp))
    go_enter Tryz.func95, Tryz.ntmps95
    go_wp2_with fail
    refine (sNodeOk_any _ _ _).mono ?_
    rintro e w1 ⟨rfl, hb1⟩; (first | (with_reducible have hc1 := bdC hb1) | have hc1 := bcC hb1); (first | (with_reducible have hf1 := bdF hb1) | have hf1 := bcF hb1); have hz1 := hb1.size; (try simp at hz1); (try have hp1_0 := p0_ w w1); (try have hp1_1 := p1_ w w1); (try have hp1_2 := p2_ w w1); (try have hp1_3 := p3_ w w1)
    rw [h1]
    go_wp2_with fail
    refine (sNodeOk_any _ _ _).mono ?_
    rintro e w2 ⟨rfl, hb2⟩; (first | (with_reducible have hc2 := bdC hb2) | have hc2 := bcC hb2); (first | (with_reducible have hf2 := bdF hb2) | have hf2 := bcF hb2); have hz2 := hb2.size; (try simp at hz2); (try have hp2_0 := p0_ w w2); (try have hp2_1 := p1_ w w2); (try have hp2_2 := p2_ w w2); (try have hp2_3 := p3_ w w2)
    rw [h2]
    go_wp2
    go_ret
    exact ⟨ret_bool HR.out.symm, by exact bel_⟩
  cases h3 : nodeB cx cy
  · have HR := Lib.hid (betw_inv (ax := ax) (ay := ay) (bx := bx) (by' := by') (cx := cx) (cy := cy) (by rw [h3]; simp))
    go_enter Tryz.func95, Tryz.ntmps95
    go_wp2_with fail
    refine (sNodeOk_any _ _ _).mono ?_
    rintro e w1 ⟨rfl, hb1⟩; (first | (with_reducible have hc1 := bdC hb1) | have hc1 := bcC hb1); (first | (with_reducible have hf1 := bdF hb1) | have hf1 := bcF hb1); have hz1 := hb1.size; (try simp at hz1); (try have hp1_0 := p0_ w w1); (try have hp1_1 := p1_ w w1); (try have hp1_2 := p2_ w w1); (try have hp1_3 := p3_ w w1)
    rw [h1]
    go_wp2_with fail
    refine (sNodeOk_any _ _ _).mono ?_
    rintro e w2 ⟨rfl, hb2⟩; (first | (with_reducible have hc2 := bdC hb2) | have hc2 := bcC hb2); (first | (with_reducible have hf2 := bdF hb2) | have hf2 := bcF hb2); have hz2 := hb2.size; (try simp at hz2); (try have hp2_0 := p0_ w w2); (try have hp2_1 := p1_ w w2); (try have hp2_2 := p2_ w w2); (try have hp2_3 := p3_ w w2)
    rw [h2]
    go_wp2_with fail
    refine (sNodeOk_any _ _ _).mono ?_
    rintro e w3 ⟨rfl, hb3⟩; (first | (with_reducible have hc3 := bdC hb3) | have hc3 := bcC hb3); (first | (with_reducible have hf3 := bdF hb3) | have hf3 := bcF hb3); have hz3 := hb3.size; (try simp at hz3); (try have hp3_0 := p0_ w w3); (try have hp3_1 := p1_ w w3); (try have hp3_2 := p2_ w w3); (try have hp3_3 := p3_ w w3)
    rw [h3]
    go_wp2
    go_ret
    exact ⟨ret_bool HR.out.symm, by exact bel_⟩
  · have HR : Hid (betwB ax ay bx by' cx cy = (!(prB ax ay bx by') && !(prB bx by' cx cy) && !(prB ax ay cx cy) && (turnI ax ay bx by' cx cy == 0) && inB cx (mn2 ax bx) (mx2 ax bx) && inB cy (mn2 ay by') (mx2 ay by'))) := Lib.hid (by unfold betwB; rw [h1, h2, h3]; rfl)
    go_enter Tryz.func95, Tryz.ntmps95
    go_wp2_with fail
    refine (sNodeOk_any _ _ _).mono ?_
    rintro e w1 ⟨rfl, hb1⟩; (first | (with_reducible have hc1 := bdC hb1) | have hc1 := bcC hb1); (first | (with_reducible have hf1 := bdF hb1) | have hf1 := bcF hb1); have hz1 := hb1.size; (try simp at hz1); (try have hp1_0 := p0_ w w1); (try have hp1_1 := p1_ w w1); (try have hp1_2 := p2_ w w1); (try have hp1_3 := p3_ w w1)
    rw [h1]
    go_wp2_with fail
    refine (sNodeOk_any _ _ _).mono ?_
    rintro e w2 ⟨rfl, hb2⟩; (first | (with_reducible have hc2 := bdC hb2) | have hc2 := bcC hb2); (first | (with_reducible have hf2 := bdF hb2) | have hf2 := bcF hb2); have hz2 := hb2.size; (try simp at hz2); (try have hp2_0 := p0_ w w2); (try have hp2_1 := p1_ w w2); (try have hp2_2 := p2_ w w2); (try have hp2_3 := p3_ w w2)
    rw [h2]
    go_wp2_with fail
    refine (sNodeOk_any _ _ _).mono ?_
    rintro e w3 ⟨rfl, hb3⟩; (first | (with_reducible have hc3 := bdC hb3) | have hc3 := bcC hb3); (first | (with_reducible have hf3 := bdF hb3) | have hf3 := bcF hb3); have hz3 := hb3.size; (try simp at hz3); (try have hp3_0 := p0_ w w3); (try have hp3_1 := p1_ w w3); (try have hp3_2 := p2_ w w3); (try have hp3_3 := p3_ w w3)
    rw [h3]
    go_wp2_with (first | (go_at_call 97; refine (sTurn_any _ _ _ _ _ _ _ h1 h2 h3).mono ?_; rintro e w4 ⟨rfl, hb4⟩; (first | (with_reducible have hc4 := bdC hb4) | have hc4 := bcC hb4); (first | (with_reducible have hf4 := bdF hb4) | have hf4 := bcF hb4); have hz4 := hb4.size; (try simp at hz4); (try have hp4_0 := p0_ w w4); (try have hp4_1 := p1_ w w4); (try have hp4_2 := p2_ w w4); (try have hp4_3 := p3_ w w4)) | (go_at_call 35; refine (l01In_any _ _ _ _).mono ?_; rintro e w' ⟨rfl, rfl⟩))
    all_goals go_ret
    all_goals refine ⟨ret_bool ?_, by exact bel_⟩
    all_goals rw [HR.out]
    all_goals simp_all
set_option maxHeartbeats 2000000 in
set_option maxRecDepth 100000 in
theorem iBetween_any (ax ay bx by' cx cy : Int) (w : World) :
    Calls Tryz.prog 82 #[.agg #[.int .i64 ax, .int .i64 ay], .agg #[.int .i64 bx, .int .i64 by'], .agg #[.int .i64 cx, .int .i64 cy]] w
      fun e w' => e = .returned (.bool (betwB ax ay bx by' cx cy)) ∧ Below w.heap.size w w' := by
  by_cases hv : nodeB ax ay = true ∧ nodeB bx by' = true ∧ nodeB cx cy = true
  · obtain ⟨h1, h2, h3⟩ := hv
    have HN : Hid ((nodeB ax ay && nodeB bx by' && nodeB cx cy) = true) := Lib.hid (by rw [h1, h2, h3]; rfl)
    have HR : Hid (betwB ax ay bx by' cx cy = (!(prB ax ay bx by') && !(prB bx by' cx cy) && !(prB ax ay cx cy) && (turnI ax ay bx by' cx cy == 0) && inB cx (mn2 ax bx) (mx2 ax bx) && inB cy (mn2 ay by') (mx2 ay by'))) := Lib.hid (by unfold betwB; rw [h1, h2, h3]; rfl)
    go_enter Tryz.func82, Tryz.ntmps82
    go_wp2_with fail
    refine (nodes3_any _ ax ay bx by' cx cy _ (RP_lit (by simp) rfl rfl rfl (by simp [maxLen]))).mono ?_
    rintro e w1 ⟨rfl, hb1⟩; (first | (with_reducible have hc1 := bdC hb1) | have hc1 := bcC hb1); (first | (with_reducible have hf1 := bdF hb1) | have hf1 := bcF hb1); have hz1 := hb1.size; (try simp at hz1); (try have hp1_0 := p0_ w w1); (try have hp1_1 := p1_ w w1); (try have hp1_2 := p2_ w w1); (try have hp1_3 := p3_ w w1)
    rw [HN.out]
    go_wp2_with (first | (go_at_call 83; refine (iTurn_any _ _ _ _ _ _ _ h1 h2 h3).mono ?_; rintro e w4 ⟨rfl, hb4⟩; (first | (with_reducible have hc4 := bdC hb4) | have hc4 := bcC hb4); (first | (with_reducible have hf4 := bdF hb4) | have hf4 := bcF hb4); have hz4 := hb4.size; (try simp at hz4); (try have hp4_0 := p0_ w w4); (try have hp4_1 := p1_ w w4); (try have hp4_2 := p2_ w w4); (try have hp4_3 := p3_ w w4)) | (go_at_call 44; refine (within_any _ _ _ _).mono ?_; rintro e w' ⟨rfl, rfl⟩))
    all_goals go_ret
    all_goals refine ⟨ret_bool ?_, by exact bel_⟩
    all_goals rw [HR.out]
    all_goals simp_all
  · have HN : Hid ((nodeB ax ay && nodeB bx by' && nodeB cx cy) = false) := Lib.hid (by
      cases h1 : nodeB ax ay <;> cases h2 : nodeB bx by' <;> cases h3 : nodeB cx cy <;> simp_all)
    have HR := Lib.hid (betw_inv hv)
    clear hv
    go_enter Tryz.func82, Tryz.ntmps82
    go_wp2_with fail
    refine (nodes3_any _ ax ay bx by' cx cy _ (RP_lit (by simp) rfl rfl rfl (by simp [maxLen]))).mono ?_
    rintro e w1 ⟨rfl, hb1⟩; (first | (with_reducible have hc1 := bdC hb1) | have hc1 := bcC hb1); (first | (with_reducible have hf1 := bdF hb1) | have hf1 := bcF hb1); have hz1 := hb1.size; (try simp at hz1); (try have hp1_0 := p0_ w w1); (try have hp1_1 := p1_ w w1); (try have hp1_2 := p2_ w w1); (try have hp1_3 := p3_ w w1)
    rw [HN.out]
    go_wp2
    go_ret
    exact ⟨ret_bool HR.out.symm, by exact bel_⟩
end Go.Proofs.YtbennlajjfkdpaaGreatDoor
