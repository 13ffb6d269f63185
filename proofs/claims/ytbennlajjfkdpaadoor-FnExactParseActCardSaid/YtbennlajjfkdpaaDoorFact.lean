/-
  An act's text.
-/
import Derived.Test.YtbennlajjfkdpaaDoorNtxt
import Derived.Test.YtbennlajjfkdpaaDoorActK
set_option linter.unusedSimpArgs false
set_option linter.unusedVariables false
namespace Go.Proofs.YtbennlajjfkdpaaDoor
open Go.RowKit

def aName (k : Int) : List UInt8 :=
  if k = 1 then [97, 100, 100]
  else if k = 2 then [100, 114, 111, 112]
  else if k = 3 then [106, 111, 105, 110]
  else if k = 4 then [117, 110, 100, 111]
  else if k = 5 then [99, 111, 108, 111, 114]
  else if k = 6 then [115, 119, 97, 112]
  else if k = 7 then [115, 116, 111, 114, 101]
  else if k = 8 then [102, 101, 116, 99, 104]
  else if k = 9 then [112, 97, 110, 101, 115] else []
def aCnt (k : Int) : Nat := if k = 1 ∨ k = 6 ∨ k = 7 then 2 else if k = 4 ∨ k = 9 then 0 else 1
/-- An act's text. -/
def actS (k a b : Int) : ByteArray := if actB k a b then ⟨(aName k ++ (if 1 ≤ aCnt k then 32 :: Lib.decDigits a.toNat else []) ++ (if 2 ≤ aCnt k then 32 :: Lib.decDigits b.toNat else [])).toArray⟩ else ⟨#[]⟩

set_option maxHeartbeats 2000000 in
set_option maxRecDepth 100000 in
theorem iFact_no (k a b : Int) (w : World) (hb : actB k a b = false) :
    Calls Tryd.prog 19 #[.agg #[.int .i64 k, .int .i64 a, .int .i64 b]] w fun e w' => e = .returned (.tuple #[.string ⟨#[]⟩, .bool false]) ∧ Below w.heap.size w w' := by
  go_enter Tryd.func19, Tryd.ntmps19
  go_wp2_with fail
  refine (iActOk_at _ _ _ _ _ hb).mono ?_
  rintro e w1 ⟨rfl, hb1⟩; (first | (with_reducible have hc1 := bdC hb1) | have hc1 := bcC hb1); (first | (with_reducible have hf1 := bdF hb1) | have hf1 := bcF hb1); have hz1 := hb1.size; (try simp at hz1); (try have hp1_0 := p0_ w w1); (try have hp1_1 := p1_ w w1); (try have hp1_2 := p2_ w w1); (try have hp1_3 := p3_ w w1)
  go_wp2
  exact bodyPost_ret (v := .tuple #[.string ⟨#[]⟩, .bool false]) (by simp [results, Tryd.results19, go_sem]) rfl ⟨rfl, by exact bel_⟩

set_option maxHeartbeats 2000000 in
set_option maxRecDepth 100000 in
theorem sFact_no (k a b : Int) (w : World) (hb : actB k a b = false) :
    Calls Tryd.prog 16 #[.agg #[.int .i64 k, .int .i64 a, .int .i64 b]] w fun e w' => e = .returned (.tuple #[.string ⟨#[]⟩, .bool false]) ∧ Below w.heap.size w w' := by
  go_enter Tryd.func16, Tryd.ntmps16
  go_wp2_with fail
  refine (sActOk_at _ _ _ _ _ hb).mono ?_
  rintro e w1 ⟨rfl, hb1⟩; (first | (with_reducible have hc1 := bdC hb1) | have hc1 := bcC hb1); (first | (with_reducible have hf1 := bdF hb1) | have hf1 := bcF hb1); have hz1 := hb1.size; (try simp at hz1); (try have hp1_0 := p0_ w w1); (try have hp1_1 := p1_ w w1); (try have hp1_2 := p2_ w w1); (try have hp1_3 := p3_ w w1)
  go_wp2
  exact bodyPost_ret (v := .tuple #[.string ⟨#[]⟩, .bool false]) (by simp [results, Tryd.results16, go_sem]) rfl ⟨rfl, by exact bel_⟩

set_option maxHeartbeats 4000000 in
set_option maxRecDepth 100000 in
theorem iFact_1 (a b : Int) (w : World) (hb : actB 1 a b = true) :
    Calls Tryd.prog 19 #[.agg #[.int .i64 1, .int .i64 a, .int .i64 b]] w fun e w' => e = .returned (.tuple #[.string (⟨#[97, 100, 100]⟩ ++ ((⟨#[32]⟩ ++ dS a ++ ⟨#[32]⟩) ++ dS b)), .bool true]) ∧ Below w.heap.size w w' := by
  obtain ⟨_, ⟨a0, a1⟩, b0, b1⟩ := actB_bd hb
  have z1 := dS_size a (by omega)
  have z2 := dS_size b (by omega)
  have q1 : (1 : Int) + ((dS a).size : Int) ≤ 9223372036854775807 := by omega
  have q2 : (1 : Int) + ((dS a).size : Int) + 1 ≤ 9223372036854775807 := by omega
  have q3 : (1 : Int) + ((dS a).size : Int) + 1 + ((dS b).size : Int) ≤ 9223372036854775807 := by omega
  have q4 : (3 : Int) + (1 + ((dS a).size : Int)) ≤ 9223372036854775807 := by omega
  have q5 : (3 : Int) + (1 + ((dS a).size : Int) + 1 + ((dS b).size : Int)) ≤ 9223372036854775807 := by omega
  go_enter Tryd.func19, Tryd.ntmps19
  go_wp2_with fail
  refine (iActOk_at _ _ _ _ _ hb).mono ?_
  rintro e w1 ⟨rfl, hb1⟩
  have hz1 := hb1.size
  simp at hz1
  have hA1 : Blk w1 w.heap.size 23 #[.int .i64 1, .int .i64 a, .int .i64 b] := Blk.below (Blk.newAt rfl) hb1 sz_
  have hbw1 : Below w.heap.size w w1 := by exact bel_
  clear hb1
  have n1 : w.heap.size < w1.heap.size := hA1.lt
  (have a_0 := hA1.cell 0); (have a_1 := hA1.cell 1); (have a_2 := hA1.cell 2)
  simp only [List.getElem?_toArray, List.getElem?_cons_succ, List.getElem?_cons_zero] at a_0 a_1 a_2
  go_wp2_with fail
  refine (iFmtI_any _ a0 (by omega) _).mono ?_
  rintro e w2 ⟨rfl, hb2⟩
  have hA2 := hA1.below hb2 hA1.lt
  have hbw2 := hbw1.trans (hb2.mono hbw1.size)
  clear hb2 hA1 hbw1 a_0 a_1 a_2
  (have a_0 := hA2.cell 0); (have a_1 := hA2.cell 1); (have a_2 := hA2.cell 2)
  simp only [List.getElem?_toArray, List.getElem?_cons_succ, List.getElem?_cons_zero] at a_0 a_1 a_2
  go_wp2_with fail
  refine (iFmtI_any _ b0 (by omega) _).mono ?_
  rintro e w3 ⟨rfl, hb3⟩
  have hA3 := hA2.below hb3 hA2.lt
  have hbw3 := hbw2.trans (hb3.mono hbw2.size)
  clear hb3 hA2 hbw2 a_0 a_1 a_2
  (have a_0 := hA3.cell 0); (have a_1 := hA3.cell 1); (have a_2 := hA3.cell 2)
  simp only [List.getElem?_toArray, List.getElem?_cons_succ, List.getElem?_cons_zero] at a_0 a_1 a_2
  go_wp2
  exact bodyPost_ret (v := .tuple #[.string (⟨#[97, 100, 100]⟩ ++ ((⟨#[32]⟩ ++ dS a ++ ⟨#[32]⟩) ++ dS b)), .bool true]) (by simp [results, Tryd.results19, go_sem]) rfl ⟨rfl, hbw3⟩

set_option maxHeartbeats 4000000 in
set_option maxRecDepth 100000 in
theorem iFact_2 (a b : Int) (w : World) (hb : actB 2 a b = true) :
    Calls Tryd.prog 19 #[.agg #[.int .i64 2, .int .i64 a, .int .i64 b]] w fun e w' => e = .returned (.tuple #[.string (⟨#[100, 114, 111, 112]⟩ ++ (⟨#[32]⟩ ++ dS a)), .bool true]) ∧ Below w.heap.size w w' := by
  obtain ⟨_, ⟨a0, a1⟩, b0, b1⟩ := actB_bd hb
  have z1 := dS_size a (by omega)
  have z2 := dS_size b (by omega)
  have q1 : (1 : Int) + ((dS a).size : Int) ≤ 9223372036854775807 := by omega
  have q2 : (1 : Int) + ((dS a).size : Int) + 1 ≤ 9223372036854775807 := by omega
  have q3 : (1 : Int) + ((dS a).size : Int) + 1 + ((dS b).size : Int) ≤ 9223372036854775807 := by omega
  have q4 : (4 : Int) + (1 + ((dS a).size : Int)) ≤ 9223372036854775807 := by omega
  have q5 : (4 : Int) + (1 + ((dS a).size : Int) + 1 + ((dS b).size : Int)) ≤ 9223372036854775807 := by omega
  go_enter Tryd.func19, Tryd.ntmps19
  go_wp2_with fail
  refine (iActOk_at _ _ _ _ _ hb).mono ?_
  rintro e w1 ⟨rfl, hb1⟩
  have hz1 := hb1.size
  simp at hz1
  have hA1 : Blk w1 w.heap.size 23 #[.int .i64 2, .int .i64 a, .int .i64 b] := Blk.below (Blk.newAt rfl) hb1 sz_
  have hbw1 : Below w.heap.size w w1 := by exact bel_
  clear hb1
  have n1 : w.heap.size < w1.heap.size := hA1.lt
  (have a_0 := hA1.cell 0); (have a_1 := hA1.cell 1); (have a_2 := hA1.cell 2)
  simp only [List.getElem?_toArray, List.getElem?_cons_succ, List.getElem?_cons_zero] at a_0 a_1 a_2
  go_wp2_with fail
  refine (iFmtI_any _ a0 (by omega) _).mono ?_
  rintro e w2 ⟨rfl, hb2⟩
  have hA2 := hA1.below hb2 hA1.lt
  have hbw2 := hbw1.trans (hb2.mono hbw1.size)
  clear hb2 hA1 hbw1 a_0 a_1 a_2
  (have a_0 := hA2.cell 0); (have a_1 := hA2.cell 1); (have a_2 := hA2.cell 2)
  simp only [List.getElem?_toArray, List.getElem?_cons_succ, List.getElem?_cons_zero] at a_0 a_1 a_2
  go_wp2_with fail
  refine (iFmtI_any _ b0 (by omega) _).mono ?_
  rintro e w3 ⟨rfl, hb3⟩
  have hA3 := hA2.below hb3 hA2.lt
  have hbw3 := hbw2.trans (hb3.mono hbw2.size)
  clear hb3 hA2 hbw2 a_0 a_1 a_2
  (have a_0 := hA3.cell 0); (have a_1 := hA3.cell 1); (have a_2 := hA3.cell 2)
  simp only [List.getElem?_toArray, List.getElem?_cons_succ, List.getElem?_cons_zero] at a_0 a_1 a_2
  go_wp2
  exact bodyPost_ret (v := .tuple #[.string (⟨#[100, 114, 111, 112]⟩ ++ (⟨#[32]⟩ ++ dS a)), .bool true]) (by simp [results, Tryd.results19, go_sem]) rfl ⟨rfl, hbw3⟩

set_option maxHeartbeats 4000000 in
set_option maxRecDepth 100000 in
theorem iFact_3 (a b : Int) (w : World) (hb : actB 3 a b = true) :
    Calls Tryd.prog 19 #[.agg #[.int .i64 3, .int .i64 a, .int .i64 b]] w fun e w' => e = .returned (.tuple #[.string (⟨#[106, 111, 105, 110]⟩ ++ (⟨#[32]⟩ ++ dS a)), .bool true]) ∧ Below w.heap.size w w' := by
  obtain ⟨_, ⟨a0, a1⟩, b0, b1⟩ := actB_bd hb
  have z1 := dS_size a (by omega)
  have z2 := dS_size b (by omega)
  have q1 : (1 : Int) + ((dS a).size : Int) ≤ 9223372036854775807 := by omega
  have q2 : (1 : Int) + ((dS a).size : Int) + 1 ≤ 9223372036854775807 := by omega
  have q3 : (1 : Int) + ((dS a).size : Int) + 1 + ((dS b).size : Int) ≤ 9223372036854775807 := by omega
  have q4 : (4 : Int) + (1 + ((dS a).size : Int)) ≤ 9223372036854775807 := by omega
  have q5 : (4 : Int) + (1 + ((dS a).size : Int) + 1 + ((dS b).size : Int)) ≤ 9223372036854775807 := by omega
  go_enter Tryd.func19, Tryd.ntmps19
  go_wp2_with fail
  refine (iActOk_at _ _ _ _ _ hb).mono ?_
  rintro e w1 ⟨rfl, hb1⟩
  have hz1 := hb1.size
  simp at hz1
  have hA1 : Blk w1 w.heap.size 23 #[.int .i64 3, .int .i64 a, .int .i64 b] := Blk.below (Blk.newAt rfl) hb1 sz_
  have hbw1 : Below w.heap.size w w1 := by exact bel_
  clear hb1
  have n1 : w.heap.size < w1.heap.size := hA1.lt
  (have a_0 := hA1.cell 0); (have a_1 := hA1.cell 1); (have a_2 := hA1.cell 2)
  simp only [List.getElem?_toArray, List.getElem?_cons_succ, List.getElem?_cons_zero] at a_0 a_1 a_2
  go_wp2_with fail
  refine (iFmtI_any _ a0 (by omega) _).mono ?_
  rintro e w2 ⟨rfl, hb2⟩
  have hA2 := hA1.below hb2 hA1.lt
  have hbw2 := hbw1.trans (hb2.mono hbw1.size)
  clear hb2 hA1 hbw1 a_0 a_1 a_2
  (have a_0 := hA2.cell 0); (have a_1 := hA2.cell 1); (have a_2 := hA2.cell 2)
  simp only [List.getElem?_toArray, List.getElem?_cons_succ, List.getElem?_cons_zero] at a_0 a_1 a_2
  go_wp2_with fail
  refine (iFmtI_any _ b0 (by omega) _).mono ?_
  rintro e w3 ⟨rfl, hb3⟩
  have hA3 := hA2.below hb3 hA2.lt
  have hbw3 := hbw2.trans (hb3.mono hbw2.size)
  clear hb3 hA2 hbw2 a_0 a_1 a_2
  (have a_0 := hA3.cell 0); (have a_1 := hA3.cell 1); (have a_2 := hA3.cell 2)
  simp only [List.getElem?_toArray, List.getElem?_cons_succ, List.getElem?_cons_zero] at a_0 a_1 a_2
  go_wp2
  exact bodyPost_ret (v := .tuple #[.string (⟨#[106, 111, 105, 110]⟩ ++ (⟨#[32]⟩ ++ dS a)), .bool true]) (by simp [results, Tryd.results19, go_sem]) rfl ⟨rfl, hbw3⟩

set_option maxHeartbeats 4000000 in
set_option maxRecDepth 100000 in
theorem iFact_4 (a b : Int) (w : World) (hb : actB 4 a b = true) :
    Calls Tryd.prog 19 #[.agg #[.int .i64 4, .int .i64 a, .int .i64 b]] w fun e w' => e = .returned (.tuple #[.string ⟨#[117, 110, 100, 111]⟩, .bool true]) ∧ Below w.heap.size w w' := by
  obtain ⟨_, ⟨a0, a1⟩, b0, b1⟩ := actB_bd hb
  have z1 := dS_size a (by omega)
  have z2 := dS_size b (by omega)
  have q1 : (1 : Int) + ((dS a).size : Int) ≤ 9223372036854775807 := by omega
  have q2 : (1 : Int) + ((dS a).size : Int) + 1 ≤ 9223372036854775807 := by omega
  have q3 : (1 : Int) + ((dS a).size : Int) + 1 + ((dS b).size : Int) ≤ 9223372036854775807 := by omega
  have q4 : (4 : Int) + (1 + ((dS a).size : Int)) ≤ 9223372036854775807 := by omega
  have q5 : (4 : Int) + (1 + ((dS a).size : Int) + 1 + ((dS b).size : Int)) ≤ 9223372036854775807 := by omega
  go_enter Tryd.func19, Tryd.ntmps19
  go_wp2_with fail
  refine (iActOk_at _ _ _ _ _ hb).mono ?_
  rintro e w1 ⟨rfl, hb1⟩
  have hz1 := hb1.size
  simp at hz1
  have hA1 : Blk w1 w.heap.size 23 #[.int .i64 4, .int .i64 a, .int .i64 b] := Blk.below (Blk.newAt rfl) hb1 sz_
  have hbw1 : Below w.heap.size w w1 := by exact bel_
  clear hb1
  have n1 : w.heap.size < w1.heap.size := hA1.lt
  (have a_0 := hA1.cell 0); (have a_1 := hA1.cell 1); (have a_2 := hA1.cell 2)
  simp only [List.getElem?_toArray, List.getElem?_cons_succ, List.getElem?_cons_zero] at a_0 a_1 a_2
  go_wp2_with fail
  refine (iFmtI_any _ a0 (by omega) _).mono ?_
  rintro e w2 ⟨rfl, hb2⟩
  have hA2 := hA1.below hb2 hA1.lt
  have hbw2 := hbw1.trans (hb2.mono hbw1.size)
  clear hb2 hA1 hbw1 a_0 a_1 a_2
  (have a_0 := hA2.cell 0); (have a_1 := hA2.cell 1); (have a_2 := hA2.cell 2)
  simp only [List.getElem?_toArray, List.getElem?_cons_succ, List.getElem?_cons_zero] at a_0 a_1 a_2
  go_wp2_with fail
  refine (iFmtI_any _ b0 (by omega) _).mono ?_
  rintro e w3 ⟨rfl, hb3⟩
  have hA3 := hA2.below hb3 hA2.lt
  have hbw3 := hbw2.trans (hb3.mono hbw2.size)
  clear hb3 hA2 hbw2 a_0 a_1 a_2
  (have a_0 := hA3.cell 0); (have a_1 := hA3.cell 1); (have a_2 := hA3.cell 2)
  simp only [List.getElem?_toArray, List.getElem?_cons_succ, List.getElem?_cons_zero] at a_0 a_1 a_2
  go_wp2
  exact bodyPost_ret (v := .tuple #[.string ⟨#[117, 110, 100, 111]⟩, .bool true]) (by simp [results, Tryd.results19, go_sem]) rfl ⟨rfl, hbw3⟩

set_option maxHeartbeats 4000000 in
set_option maxRecDepth 100000 in
theorem iFact_5 (a b : Int) (w : World) (hb : actB 5 a b = true) :
    Calls Tryd.prog 19 #[.agg #[.int .i64 5, .int .i64 a, .int .i64 b]] w fun e w' => e = .returned (.tuple #[.string (⟨#[99, 111, 108, 111, 114]⟩ ++ (⟨#[32]⟩ ++ dS a)), .bool true]) ∧ Below w.heap.size w w' := by
  obtain ⟨_, ⟨a0, a1⟩, b0, b1⟩ := actB_bd hb
  have z1 := dS_size a (by omega)
  have z2 := dS_size b (by omega)
  have q1 : (1 : Int) + ((dS a).size : Int) ≤ 9223372036854775807 := by omega
  have q2 : (1 : Int) + ((dS a).size : Int) + 1 ≤ 9223372036854775807 := by omega
  have q3 : (1 : Int) + ((dS a).size : Int) + 1 + ((dS b).size : Int) ≤ 9223372036854775807 := by omega
  have q4 : (5 : Int) + (1 + ((dS a).size : Int)) ≤ 9223372036854775807 := by omega
  have q5 : (5 : Int) + (1 + ((dS a).size : Int) + 1 + ((dS b).size : Int)) ≤ 9223372036854775807 := by omega
  go_enter Tryd.func19, Tryd.ntmps19
  go_wp2_with fail
  refine (iActOk_at _ _ _ _ _ hb).mono ?_
  rintro e w1 ⟨rfl, hb1⟩
  have hz1 := hb1.size
  simp at hz1
  have hA1 : Blk w1 w.heap.size 23 #[.int .i64 5, .int .i64 a, .int .i64 b] := Blk.below (Blk.newAt rfl) hb1 sz_
  have hbw1 : Below w.heap.size w w1 := by exact bel_
  clear hb1
  have n1 : w.heap.size < w1.heap.size := hA1.lt
  (have a_0 := hA1.cell 0); (have a_1 := hA1.cell 1); (have a_2 := hA1.cell 2)
  simp only [List.getElem?_toArray, List.getElem?_cons_succ, List.getElem?_cons_zero] at a_0 a_1 a_2
  go_wp2_with fail
  refine (iFmtI_any _ a0 (by omega) _).mono ?_
  rintro e w2 ⟨rfl, hb2⟩
  have hA2 := hA1.below hb2 hA1.lt
  have hbw2 := hbw1.trans (hb2.mono hbw1.size)
  clear hb2 hA1 hbw1 a_0 a_1 a_2
  (have a_0 := hA2.cell 0); (have a_1 := hA2.cell 1); (have a_2 := hA2.cell 2)
  simp only [List.getElem?_toArray, List.getElem?_cons_succ, List.getElem?_cons_zero] at a_0 a_1 a_2
  go_wp2_with fail
  refine (iFmtI_any _ b0 (by omega) _).mono ?_
  rintro e w3 ⟨rfl, hb3⟩
  have hA3 := hA2.below hb3 hA2.lt
  have hbw3 := hbw2.trans (hb3.mono hbw2.size)
  clear hb3 hA2 hbw2 a_0 a_1 a_2
  (have a_0 := hA3.cell 0); (have a_1 := hA3.cell 1); (have a_2 := hA3.cell 2)
  simp only [List.getElem?_toArray, List.getElem?_cons_succ, List.getElem?_cons_zero] at a_0 a_1 a_2
  go_wp2
  exact bodyPost_ret (v := .tuple #[.string (⟨#[99, 111, 108, 111, 114]⟩ ++ (⟨#[32]⟩ ++ dS a)), .bool true]) (by simp [results, Tryd.results19, go_sem]) rfl ⟨rfl, hbw3⟩

set_option maxHeartbeats 4000000 in
set_option maxRecDepth 100000 in
theorem iFact_6 (a b : Int) (w : World) (hb : actB 6 a b = true) :
    Calls Tryd.prog 19 #[.agg #[.int .i64 6, .int .i64 a, .int .i64 b]] w fun e w' => e = .returned (.tuple #[.string (⟨#[115, 119, 97, 112]⟩ ++ ((⟨#[32]⟩ ++ dS a ++ ⟨#[32]⟩) ++ dS b)), .bool true]) ∧ Below w.heap.size w w' := by
  obtain ⟨_, ⟨a0, a1⟩, b0, b1⟩ := actB_bd hb
  have z1 := dS_size a (by omega)
  have z2 := dS_size b (by omega)
  have q1 : (1 : Int) + ((dS a).size : Int) ≤ 9223372036854775807 := by omega
  have q2 : (1 : Int) + ((dS a).size : Int) + 1 ≤ 9223372036854775807 := by omega
  have q3 : (1 : Int) + ((dS a).size : Int) + 1 + ((dS b).size : Int) ≤ 9223372036854775807 := by omega
  have q4 : (4 : Int) + (1 + ((dS a).size : Int)) ≤ 9223372036854775807 := by omega
  have q5 : (4 : Int) + (1 + ((dS a).size : Int) + 1 + ((dS b).size : Int)) ≤ 9223372036854775807 := by omega
  go_enter Tryd.func19, Tryd.ntmps19
  go_wp2_with fail
  refine (iActOk_at _ _ _ _ _ hb).mono ?_
  rintro e w1 ⟨rfl, hb1⟩
  have hz1 := hb1.size
  simp at hz1
  have hA1 : Blk w1 w.heap.size 23 #[.int .i64 6, .int .i64 a, .int .i64 b] := Blk.below (Blk.newAt rfl) hb1 sz_
  have hbw1 : Below w.heap.size w w1 := by exact bel_
  clear hb1
  have n1 : w.heap.size < w1.heap.size := hA1.lt
  (have a_0 := hA1.cell 0); (have a_1 := hA1.cell 1); (have a_2 := hA1.cell 2)
  simp only [List.getElem?_toArray, List.getElem?_cons_succ, List.getElem?_cons_zero] at a_0 a_1 a_2
  go_wp2_with fail
  refine (iFmtI_any _ a0 (by omega) _).mono ?_
  rintro e w2 ⟨rfl, hb2⟩
  have hA2 := hA1.below hb2 hA1.lt
  have hbw2 := hbw1.trans (hb2.mono hbw1.size)
  clear hb2 hA1 hbw1 a_0 a_1 a_2
  (have a_0 := hA2.cell 0); (have a_1 := hA2.cell 1); (have a_2 := hA2.cell 2)
  simp only [List.getElem?_toArray, List.getElem?_cons_succ, List.getElem?_cons_zero] at a_0 a_1 a_2
  go_wp2_with fail
  refine (iFmtI_any _ b0 (by omega) _).mono ?_
  rintro e w3 ⟨rfl, hb3⟩
  have hA3 := hA2.below hb3 hA2.lt
  have hbw3 := hbw2.trans (hb3.mono hbw2.size)
  clear hb3 hA2 hbw2 a_0 a_1 a_2
  (have a_0 := hA3.cell 0); (have a_1 := hA3.cell 1); (have a_2 := hA3.cell 2)
  simp only [List.getElem?_toArray, List.getElem?_cons_succ, List.getElem?_cons_zero] at a_0 a_1 a_2
  go_wp2
  exact bodyPost_ret (v := .tuple #[.string (⟨#[115, 119, 97, 112]⟩ ++ ((⟨#[32]⟩ ++ dS a ++ ⟨#[32]⟩) ++ dS b)), .bool true]) (by simp [results, Tryd.results19, go_sem]) rfl ⟨rfl, hbw3⟩

set_option maxHeartbeats 4000000 in
set_option maxRecDepth 100000 in
theorem iFact_7 (a b : Int) (w : World) (hb : actB 7 a b = true) :
    Calls Tryd.prog 19 #[.agg #[.int .i64 7, .int .i64 a, .int .i64 b]] w fun e w' => e = .returned (.tuple #[.string (⟨#[115, 116, 111, 114, 101]⟩ ++ ((⟨#[32]⟩ ++ dS a ++ ⟨#[32]⟩) ++ dS b)), .bool true]) ∧ Below w.heap.size w w' := by
  obtain ⟨_, ⟨a0, a1⟩, b0, b1⟩ := actB_bd hb
  have z1 := dS_size a (by omega)
  have z2 := dS_size b (by omega)
  have q1 : (1 : Int) + ((dS a).size : Int) ≤ 9223372036854775807 := by omega
  have q2 : (1 : Int) + ((dS a).size : Int) + 1 ≤ 9223372036854775807 := by omega
  have q3 : (1 : Int) + ((dS a).size : Int) + 1 + ((dS b).size : Int) ≤ 9223372036854775807 := by omega
  have q4 : (5 : Int) + (1 + ((dS a).size : Int)) ≤ 9223372036854775807 := by omega
  have q5 : (5 : Int) + (1 + ((dS a).size : Int) + 1 + ((dS b).size : Int)) ≤ 9223372036854775807 := by omega
  go_enter Tryd.func19, Tryd.ntmps19
  go_wp2_with fail
  refine (iActOk_at _ _ _ _ _ hb).mono ?_
  rintro e w1 ⟨rfl, hb1⟩
  have hz1 := hb1.size
  simp at hz1
  have hA1 : Blk w1 w.heap.size 23 #[.int .i64 7, .int .i64 a, .int .i64 b] := Blk.below (Blk.newAt rfl) hb1 sz_
  have hbw1 : Below w.heap.size w w1 := by exact bel_
  clear hb1
  have n1 : w.heap.size < w1.heap.size := hA1.lt
  (have a_0 := hA1.cell 0); (have a_1 := hA1.cell 1); (have a_2 := hA1.cell 2)
  simp only [List.getElem?_toArray, List.getElem?_cons_succ, List.getElem?_cons_zero] at a_0 a_1 a_2
  go_wp2_with fail
  refine (iFmtI_any _ a0 (by omega) _).mono ?_
  rintro e w2 ⟨rfl, hb2⟩
  have hA2 := hA1.below hb2 hA1.lt
  have hbw2 := hbw1.trans (hb2.mono hbw1.size)
  clear hb2 hA1 hbw1 a_0 a_1 a_2
  (have a_0 := hA2.cell 0); (have a_1 := hA2.cell 1); (have a_2 := hA2.cell 2)
  simp only [List.getElem?_toArray, List.getElem?_cons_succ, List.getElem?_cons_zero] at a_0 a_1 a_2
  go_wp2_with fail
  refine (iFmtI_any _ b0 (by omega) _).mono ?_
  rintro e w3 ⟨rfl, hb3⟩
  have hA3 := hA2.below hb3 hA2.lt
  have hbw3 := hbw2.trans (hb3.mono hbw2.size)
  clear hb3 hA2 hbw2 a_0 a_1 a_2
  (have a_0 := hA3.cell 0); (have a_1 := hA3.cell 1); (have a_2 := hA3.cell 2)
  simp only [List.getElem?_toArray, List.getElem?_cons_succ, List.getElem?_cons_zero] at a_0 a_1 a_2
  go_wp2
  exact bodyPost_ret (v := .tuple #[.string (⟨#[115, 116, 111, 114, 101]⟩ ++ ((⟨#[32]⟩ ++ dS a ++ ⟨#[32]⟩) ++ dS b)), .bool true]) (by simp [results, Tryd.results19, go_sem]) rfl ⟨rfl, hbw3⟩

set_option maxHeartbeats 4000000 in
set_option maxRecDepth 100000 in
theorem iFact_8 (a b : Int) (w : World) (hb : actB 8 a b = true) :
    Calls Tryd.prog 19 #[.agg #[.int .i64 8, .int .i64 a, .int .i64 b]] w fun e w' => e = .returned (.tuple #[.string (⟨#[102, 101, 116, 99, 104]⟩ ++ (⟨#[32]⟩ ++ dS a)), .bool true]) ∧ Below w.heap.size w w' := by
  obtain ⟨_, ⟨a0, a1⟩, b0, b1⟩ := actB_bd hb
  have z1 := dS_size a (by omega)
  have z2 := dS_size b (by omega)
  have q1 : (1 : Int) + ((dS a).size : Int) ≤ 9223372036854775807 := by omega
  have q2 : (1 : Int) + ((dS a).size : Int) + 1 ≤ 9223372036854775807 := by omega
  have q3 : (1 : Int) + ((dS a).size : Int) + 1 + ((dS b).size : Int) ≤ 9223372036854775807 := by omega
  have q4 : (5 : Int) + (1 + ((dS a).size : Int)) ≤ 9223372036854775807 := by omega
  have q5 : (5 : Int) + (1 + ((dS a).size : Int) + 1 + ((dS b).size : Int)) ≤ 9223372036854775807 := by omega
  go_enter Tryd.func19, Tryd.ntmps19
  go_wp2_with fail
  refine (iActOk_at _ _ _ _ _ hb).mono ?_
  rintro e w1 ⟨rfl, hb1⟩
  have hz1 := hb1.size
  simp at hz1
  have hA1 : Blk w1 w.heap.size 23 #[.int .i64 8, .int .i64 a, .int .i64 b] := Blk.below (Blk.newAt rfl) hb1 sz_
  have hbw1 : Below w.heap.size w w1 := by exact bel_
  clear hb1
  have n1 : w.heap.size < w1.heap.size := hA1.lt
  (have a_0 := hA1.cell 0); (have a_1 := hA1.cell 1); (have a_2 := hA1.cell 2)
  simp only [List.getElem?_toArray, List.getElem?_cons_succ, List.getElem?_cons_zero] at a_0 a_1 a_2
  go_wp2_with fail
  refine (iFmtI_any _ a0 (by omega) _).mono ?_
  rintro e w2 ⟨rfl, hb2⟩
  have hA2 := hA1.below hb2 hA1.lt
  have hbw2 := hbw1.trans (hb2.mono hbw1.size)
  clear hb2 hA1 hbw1 a_0 a_1 a_2
  (have a_0 := hA2.cell 0); (have a_1 := hA2.cell 1); (have a_2 := hA2.cell 2)
  simp only [List.getElem?_toArray, List.getElem?_cons_succ, List.getElem?_cons_zero] at a_0 a_1 a_2
  go_wp2_with fail
  refine (iFmtI_any _ b0 (by omega) _).mono ?_
  rintro e w3 ⟨rfl, hb3⟩
  have hA3 := hA2.below hb3 hA2.lt
  have hbw3 := hbw2.trans (hb3.mono hbw2.size)
  clear hb3 hA2 hbw2 a_0 a_1 a_2
  (have a_0 := hA3.cell 0); (have a_1 := hA3.cell 1); (have a_2 := hA3.cell 2)
  simp only [List.getElem?_toArray, List.getElem?_cons_succ, List.getElem?_cons_zero] at a_0 a_1 a_2
  go_wp2
  exact bodyPost_ret (v := .tuple #[.string (⟨#[102, 101, 116, 99, 104]⟩ ++ (⟨#[32]⟩ ++ dS a)), .bool true]) (by simp [results, Tryd.results19, go_sem]) rfl ⟨rfl, hbw3⟩

set_option maxHeartbeats 4000000 in
set_option maxRecDepth 100000 in
theorem iFact_9 (a b : Int) (w : World) (hb : actB 9 a b = true) :
    Calls Tryd.prog 19 #[.agg #[.int .i64 9, .int .i64 a, .int .i64 b]] w fun e w' => e = .returned (.tuple #[.string ⟨#[112, 97, 110, 101, 115]⟩, .bool true]) ∧ Below w.heap.size w w' := by
  obtain ⟨_, ⟨a0, a1⟩, b0, b1⟩ := actB_bd hb
  have z1 := dS_size a (by omega)
  have z2 := dS_size b (by omega)
  have q1 : (1 : Int) + ((dS a).size : Int) ≤ 9223372036854775807 := by omega
  have q2 : (1 : Int) + ((dS a).size : Int) + 1 ≤ 9223372036854775807 := by omega
  have q3 : (1 : Int) + ((dS a).size : Int) + 1 + ((dS b).size : Int) ≤ 9223372036854775807 := by omega
  have q4 : (5 : Int) + (1 + ((dS a).size : Int)) ≤ 9223372036854775807 := by omega
  have q5 : (5 : Int) + (1 + ((dS a).size : Int) + 1 + ((dS b).size : Int)) ≤ 9223372036854775807 := by omega
  go_enter Tryd.func19, Tryd.ntmps19
  go_wp2_with fail
  refine (iActOk_at _ _ _ _ _ hb).mono ?_
  rintro e w1 ⟨rfl, hb1⟩
  have hz1 := hb1.size
  simp at hz1
  have hA1 : Blk w1 w.heap.size 23 #[.int .i64 9, .int .i64 a, .int .i64 b] := Blk.below (Blk.newAt rfl) hb1 sz_
  have hbw1 : Below w.heap.size w w1 := by exact bel_
  clear hb1
  have n1 : w.heap.size < w1.heap.size := hA1.lt
  (have a_0 := hA1.cell 0); (have a_1 := hA1.cell 1); (have a_2 := hA1.cell 2)
  simp only [List.getElem?_toArray, List.getElem?_cons_succ, List.getElem?_cons_zero] at a_0 a_1 a_2
  go_wp2_with fail
  refine (iFmtI_any _ a0 (by omega) _).mono ?_
  rintro e w2 ⟨rfl, hb2⟩
  have hA2 := hA1.below hb2 hA1.lt
  have hbw2 := hbw1.trans (hb2.mono hbw1.size)
  clear hb2 hA1 hbw1 a_0 a_1 a_2
  (have a_0 := hA2.cell 0); (have a_1 := hA2.cell 1); (have a_2 := hA2.cell 2)
  simp only [List.getElem?_toArray, List.getElem?_cons_succ, List.getElem?_cons_zero] at a_0 a_1 a_2
  go_wp2_with fail
  refine (iFmtI_any _ b0 (by omega) _).mono ?_
  rintro e w3 ⟨rfl, hb3⟩
  have hA3 := hA2.below hb3 hA2.lt
  have hbw3 := hbw2.trans (hb3.mono hbw2.size)
  clear hb3 hA2 hbw2 a_0 a_1 a_2
  (have a_0 := hA3.cell 0); (have a_1 := hA3.cell 1); (have a_2 := hA3.cell 2)
  simp only [List.getElem?_toArray, List.getElem?_cons_succ, List.getElem?_cons_zero] at a_0 a_1 a_2
  go_wp2
  exact bodyPost_ret (v := .tuple #[.string ⟨#[112, 97, 110, 101, 115]⟩, .bool true]) (by simp [results, Tryd.results19, go_sem]) rfl ⟨rfl, hbw3⟩

theorem iFact_any (k a b : Int) (w : World) :
    Calls Tryd.prog 19 #[.agg #[.int .i64 k, .int .i64 a, .int .i64 b]] w fun e w' => e = .returned (.tuple #[.string (actS k a b), .bool (actB k a b)]) ∧ Below w.heap.size w w' := by
  cases hb : actB k a b
  · have e : actS k a b = ⟨#[]⟩ := by simp [actS, hb]
    rw [e]
    exact iFact_no k a b w hb
  · obtain ⟨⟨k0, k1⟩, _⟩ := actB_bd hb
    rcases (show k = 1 ∨ k = 2 ∨ k = 3 ∨ k = 4 ∨ k = 5 ∨ k = 6 ∨ k = 7 ∨ k = 8 ∨ k = 9 by omega) with rfl | rfl | rfl | rfl | rfl | rfl | rfl | rfl | rfl
    · exact (iFact_1 a b w hb).mono fun e w' ⟨he, hw⟩ => ⟨he.trans (by rw [show actS 1 a b = _ from by unfold actS; rw [if_pos hb]]; exact congrArg (fun s => Ending.returned (.tuple #[.string s, .bool true])) (ba_list _ _ (by simp [aName, aCnt, dS]))), hw⟩
    · exact (iFact_2 a b w hb).mono fun e w' ⟨he, hw⟩ => ⟨he.trans (by rw [show actS 2 a b = _ from by unfold actS; rw [if_pos hb]]; exact congrArg (fun s => Ending.returned (.tuple #[.string s, .bool true])) (ba_list _ _ (by simp [aName, aCnt, dS]))), hw⟩
    · exact (iFact_3 a b w hb).mono fun e w' ⟨he, hw⟩ => ⟨he.trans (by rw [show actS 3 a b = _ from by unfold actS; rw [if_pos hb]]; exact congrArg (fun s => Ending.returned (.tuple #[.string s, .bool true])) (ba_list _ _ (by simp [aName, aCnt, dS]))), hw⟩
    · exact (iFact_4 a b w hb).mono fun e w' ⟨he, hw⟩ => ⟨he.trans (by rw [show actS 4 a b = _ from by unfold actS; rw [if_pos hb]]; exact congrArg (fun s => Ending.returned (.tuple #[.string s, .bool true])) (ba_list _ _ (by simp [aName, aCnt, dS]))), hw⟩
    · exact (iFact_5 a b w hb).mono fun e w' ⟨he, hw⟩ => ⟨he.trans (by rw [show actS 5 a b = _ from by unfold actS; rw [if_pos hb]]; exact congrArg (fun s => Ending.returned (.tuple #[.string s, .bool true])) (ba_list _ _ (by simp [aName, aCnt, dS]))), hw⟩
    · exact (iFact_6 a b w hb).mono fun e w' ⟨he, hw⟩ => ⟨he.trans (by rw [show actS 6 a b = _ from by unfold actS; rw [if_pos hb]]; exact congrArg (fun s => Ending.returned (.tuple #[.string s, .bool true])) (ba_list _ _ (by simp [aName, aCnt, dS]))), hw⟩
    · exact (iFact_7 a b w hb).mono fun e w' ⟨he, hw⟩ => ⟨he.trans (by rw [show actS 7 a b = _ from by unfold actS; rw [if_pos hb]]; exact congrArg (fun s => Ending.returned (.tuple #[.string s, .bool true])) (ba_list _ _ (by simp [aName, aCnt, dS]))), hw⟩
    · exact (iFact_8 a b w hb).mono fun e w' ⟨he, hw⟩ => ⟨he.trans (by rw [show actS 8 a b = _ from by unfold actS; rw [if_pos hb]]; exact congrArg (fun s => Ending.returned (.tuple #[.string s, .bool true])) (ba_list _ _ (by simp [aName, aCnt, dS]))), hw⟩
    · exact (iFact_9 a b w hb).mono fun e w' ⟨he, hw⟩ => ⟨he.trans (by rw [show actS 9 a b = _ from by unfold actS; rw [if_pos hb]]; exact congrArg (fun s => Ending.returned (.tuple #[.string s, .bool true])) (ba_list _ _ (by simp [aName, aCnt, dS]))), hw⟩

end Go.Proofs.YtbennlajjfkdpaaDoor
