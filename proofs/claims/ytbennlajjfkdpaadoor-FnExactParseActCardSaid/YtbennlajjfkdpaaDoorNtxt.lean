/-
  A node's text.
-/
import Derived.Test.YtbennlajjfkdpaaDoorFmt
import Derived.Test.YtbennlajjfkdpaaDoorGeo
import Derived.Test.YtbennlajjfkdpaaDoorQG
set_option linter.unusedSimpArgs false
set_option linter.unusedVariables false
namespace Go.Proofs.YtbennlajjfkdpaaDoor
open Go.RowKit

theorem dec_len (x : Nat) (h : x < 100) : (Lib.decDigits x).length ≤ 2 := by
  rw [Lib.decDigits]
  split
  · simp
  · rw [Lib.decDigits, dif_pos (by omega)]
    simp

/-- A small number's text. -/
def dS (x : Int) : ByteArray := ⟨(Lib.decDigits x.toNat).toArray⟩
theorem dS_size (x : Int) (h : x < 100) : (dS x).size ≤ 2 := by
  have := dec_len x.toNat (by omega)
  simpa [dS, ByteArray.size] using this

theorem iFmtI_any (x : Int) (h0 : 0 ≤ x) (h1 : x < 100) (w : World) :
    Calls Tryd.prog 37 #[.int .i64 x] w fun e w' => e = .returned (.string (dS x)) ∧ Below w.heap.size w w' := by
  obtain ⟨n, rfl⟩ : ∃ n : Nat, x = (n : Int) := ⟨x.toNat, by omega⟩
  exact (iFmt_any n (by omega) w).mono fun e w' ⟨he, hw⟩ => ⟨he, hw ▸ Below.refl _ _⟩

theorem sFmtI_any (x : Int) (h0 : 0 ≤ x) (h1 : x < 100) (w : World) :
    Calls Tryd.prog 36 #[.int .i64 x] w fun e w' => e = .returned (.string (dS x)) ∧ Below w.heap.size w w' := by
  obtain ⟨n, rfl⟩ : ∃ n : Nat, x = (n : Int) := ⟨x.toNat, by omega⟩
  exact sFmt_any n (by omega) w

def nodeS (x y : Int) : ByteArray := if nodeB x y then (dS x ++ ⟨#[44]⟩) ++ dS y else ⟨#[]⟩

set_option maxHeartbeats 4000000 in
set_option maxRecDepth 100000 in
theorem iNodeText_any (x y : Int) (w : World) :
    Calls Tryd.prog 55 #[.agg #[.int .i64 x, .int .i64 y]] w fun e w' => e = .returned (.string (nodeS x y)) ∧ Below w.heap.size w w' := by
  cases hb : nodeB x y
  · have HS : Hid (nodeS x y = ⟨#[]⟩) := Lib.hid (by simp [nodeS, hb])
    go_enter Tryd.func55, Tryd.ntmps55
    go_wp2_with fail
    refine (iNodeOk_any _ _ _).mono ?_
    rw [hb]
    rintro e w1 ⟨rfl, hb1⟩; (first | (with_reducible have hc1 := bdC hb1) | have hc1 := bcC hb1); (first | (with_reducible have hf1 := bdF hb1) | have hf1 := bcF hb1); have hz1 := hb1.size; (try simp at hz1); (try have hp1_0 := p0_ w w1); (try have hp1_1 := p1_ w w1); (try have hp1_2 := p2_ w w1); (try have hp1_3 := p3_ w w1)
    go_wp2
    go_ret
    exact ⟨by rw [HS.out]; rfl, by exact bel_⟩
  · have HS : Hid (nodeS x y = (dS x ++ ⟨#[44]⟩) ++ dS y) := Lib.hid (by simp [nodeS, hb])
    have hxy : (0 ≤ x ∧ x ≤ 20) ∧ (0 ≤ y ∧ y ≤ 20) := by
      unfold nodeB at hb
      rw [Bool.and_eq_true] at hb
      exact ⟨inB_true.1 hb.1, inB_true.1 hb.2⟩
    obtain ⟨⟨x0, x1⟩, y0, y1⟩ := hxy
    have z1 := dS_size x (by omega)
    have z2 := dS_size y (by omega)
    go_enter Tryd.func55, Tryd.ntmps55
    go_wp2_with fail
    refine (iNodeOk_any _ _ _).mono ?_
    rw [hb]
    rintro e w1 ⟨rfl, hb1⟩; (first | (with_reducible have hc1 := bdC hb1) | have hc1 := bcC hb1); (first | (with_reducible have hf1 := bdF hb1) | have hf1 := bcF hb1); have hz1 := hb1.size; (try simp at hz1); (try have hp1_0 := p0_ w w1); (try have hp1_1 := p1_ w w1); (try have hp1_2 := p2_ w w1); (try have hp1_3 := p3_ w w1)
    have hA1 : Blk w1 w.heap.size 52 #[.int .i64 x, .int .i64 y] := Blk.below (Blk.newAt rfl) hb1 sz_
    obtain ⟨a_0, a_1⟩ := hA1.c2
    have c1 : (((dS x).size + 1 : Nat) : Int) ≤ 9223372036854775807 := by omega
    have c2 : (((dS x).size + 1 + (dS y).size : Nat) : Int) ≤ 9223372036854775807 := by omega
    go_wp2_with fail
    (refine wp_region_quietG (by kernel_rfl) (by kernel_rfl) (fun hG => ?_))
    repeat (go_big_quiet_step ((go_at_call 37; exact quietG (iFmtI_any _ (by omega) (by omega) _))))
    (refine wpQuiet_nil ?_); (clear hG); (rintro w2 ⟨⟨_, hb2⟩, rfl⟩); (try dsimp only); (first | (with_reducible have hc2 := bdC hb2) | have hc2 := bcC hb2); (first | (with_reducible have hf2 := bdF hb2) | have hf2 := bcF hb2); have hz2 := hb2.size; (try simp at hz2); (try have hp2_0 := p0_ w w2); (try have hp2_1 := p1_ w w2); (try have hp2_2 := p2_ w w2); (try have hp2_3 := p3_ w w2)
    go_wp2
    go_ret
    exact ⟨by rw [HS.out]; rfl, by exact bel_⟩

set_option maxHeartbeats 4000000 in
set_option maxRecDepth 100000 in
theorem sNodeText_any (x y : Int) (w : World) :
    Calls Tryd.prog 46 #[.agg #[.int .i64 x, .int .i64 y]] w fun e w' => e = .returned (.string (nodeS x y)) ∧ Below w.heap.size w w' := by
  cases hb : nodeB x y
  · have HS : Hid (nodeS x y = ⟨#[]⟩) := Lib.hid (by simp [nodeS, hb])
    go_enter Tryd.func46, Tryd.ntmps46
    go_wp2_with fail
    refine (sNodeOk_any _ _ _).mono ?_
    rw [hb]
    rintro e w1 ⟨rfl, hb1⟩; (first | (with_reducible have hc1 := bdC hb1) | have hc1 := bcC hb1); (first | (with_reducible have hf1 := bdF hb1) | have hf1 := bcF hb1); have hz1 := hb1.size; (try simp at hz1); (try have hp1_0 := p0_ w w1); (try have hp1_1 := p1_ w w1); (try have hp1_2 := p2_ w w1); (try have hp1_3 := p3_ w w1)
    go_wp2
    go_ret
    exact ⟨by rw [HS.out]; rfl, by exact bel_⟩
  · have HS : Hid (nodeS x y = (dS x ++ ⟨#[44]⟩) ++ dS y) := Lib.hid (by simp [nodeS, hb])
    have hxy : (0 ≤ x ∧ x ≤ 20) ∧ (0 ≤ y ∧ y ≤ 20) := by
      unfold nodeB at hb
      rw [Bool.and_eq_true] at hb
      exact ⟨inB_true.1 hb.1, inB_true.1 hb.2⟩
    obtain ⟨⟨x0, x1⟩, y0, y1⟩ := hxy
    have z1 := dS_size x (by omega)
    have z2 := dS_size y (by omega)
    go_enter Tryd.func46, Tryd.ntmps46
    go_wp2_with fail
    refine (sNodeOk_any _ _ _).mono ?_
    rw [hb]
    rintro e w1 ⟨rfl, hb1⟩; (first | (with_reducible have hc1 := bdC hb1) | have hc1 := bcC hb1); (first | (with_reducible have hf1 := bdF hb1) | have hf1 := bcF hb1); have hz1 := hb1.size; (try simp at hz1); (try have hp1_0 := p0_ w w1); (try have hp1_1 := p1_ w w1); (try have hp1_2 := p2_ w w1); (try have hp1_3 := p3_ w w1)
    have hA1 : Blk w1 w.heap.size 52 #[.int .i64 x, .int .i64 y] := Blk.below (Blk.newAt rfl) hb1 sz_
    obtain ⟨a_0, a_1⟩ := hA1.c2
    have c1 : (((dS x).size + 1 : Nat) : Int) ≤ 9223372036854775807 := by omega
    have c2 : (((dS x).size + 1 + (dS y).size : Nat) : Int) ≤ 9223372036854775807 := by omega
    go_wp2_with fail
    (refine wp_region_quietG (by kernel_rfl) (by kernel_rfl) (fun hG => ?_))
    repeat (go_big_quiet_step ((go_at_call 36; exact quietG (sFmtI_any _ (by omega) (by omega) _))))
    (refine wpQuiet_nil ?_); (clear hG); (rintro w2 ⟨⟨_, hb2⟩, rfl⟩); (try dsimp only); (first | (with_reducible have hc2 := bdC hb2) | have hc2 := bcC hb2); (first | (with_reducible have hf2 := bdF hb2) | have hf2 := bcF hb2); have hz2 := hb2.size; (try simp at hz2); (try have hp2_0 := p0_ w w2); (try have hp2_1 := p1_ w w2); (try have hp2_2 := p2_ w w2); (try have hp2_3 := p3_ w w2)
    go_wp2
    go_ret
    exact ⟨by rw [HS.out]; rfl, by exact bel_⟩



end Go.Proofs.YtbennlajjfkdpaaDoor
