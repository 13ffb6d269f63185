/-
  An act's text: the reference's side.
-/
import Derived.Test.YtbennlajjfkdpaaDoorFact
set_option linter.unusedSimpArgs false
set_option linter.unusedVariables false
namespace Go.Proofs.YtbennlajjfkdpaaDoor
open Go.RowKit

set_option maxHeartbeats 4000000 in
set_option maxRecDepth 100000 in
theorem sFact_1 (a b : Int) (w : World) (hb : actB 1 a b = true) :
    Calls Tryd.prog 16 #[.agg #[.int .i64 1, .int .i64 a, .int .i64 b]] w fun e w' => e = .returned (.tuple #[.string (⟨#[97, 100, 100]⟩ ++ ⟨#[32]⟩ ++ dS a ++ ⟨#[32]⟩ ++ dS b), .bool true]) ∧ Below w.heap.size w w' := by
  obtain ⟨_, ⟨a0, a1⟩, b0, b1⟩ := actB_bd hb
  have z1 := dS_size a (by omega)
  have z2 := dS_size b (by omega)
  have q2 : (3 : Int) + 1 + ((dS a).size : Int) ≤ 9223372036854775807 := by omega
  have q3 : (3 : Int) + 1 + ((dS a).size : Int) + 1 ≤ 9223372036854775807 := by omega
  have q4 : (3 : Int) + 1 + ((dS a).size : Int) + 1 + ((dS b).size : Int) ≤ 9223372036854775807 := by omega
  go_enter Tryd.func16, Tryd.ntmps16
  go_wp2_with fail
  refine (sActOk_at _ _ _ _ _ hb).mono ?_
  rintro e w1 ⟨rfl, hb1⟩
  have hz1 := hb1.size
  simp at hz1
  have hA1 : Blk w1 w.heap.size 23 #[.int .i64 1, .int .i64 a, .int .i64 b] := Blk.below (Blk.newAt rfl) hb1 sz_
  have hbw1 : Below w.heap.size w w1 := by exact bel_
  clear hb1
  have n1 : w.heap.size < w1.heap.size := hA1.lt
  (have a_0 := hA1.cell 0); (have a_1 := hA1.cell 1); (have a_2 := hA1.cell 2)
  simp only [List.getElem?_toArray, List.getElem?_cons_succ, List.getElem?_cons_zero] at a_0 a_1 a_2
  go_wp2
  go_loopw [4, 7] (fun s i wr => ((i = .int .i64 0 ∧ s = .string ⟨#[97, 100, 100]⟩) ∨ (i = .int .i64 1 ∧ s = .string (⟨#[97, 100, 100]⟩ ++ ⟨#[32]⟩ ++ dS a)) ∨ (i = .int .i64 2 ∧ s = .string (⟨#[97, 100, 100]⟩ ++ ⟨#[32]⟩ ++ dS a ++ ⟨#[32]⟩ ++ dS b))) ∧ Blk wr (w1.heap.size + 1 + 1) 3 #[.int .i64 a, .int .i64 b] ∧ Below w.heap.size w wr) (fun _ i _ => (2 - RowKit.intOf i).toNat)
  case atStart => exact ⟨Or.inl ⟨rfl, rfl⟩, Blk.newAt (by simp), by exact bel_⟩
  case round =>
    obtain ⟨hi, hX, hbw⟩ := hrel
    clear a_0 a_1 a_2
    have hxs := hX.lt
    have hws := hbw.size
    obtain ⟨x_0, x_1⟩ := hX.c2
    rcases hi with ⟨rfl, rfl⟩ | ⟨rfl, rfl⟩ | ⟨rfl, rfl⟩
    · go_wp2_with fail
      refine (sFmtI_any _ a0 (by omega) _).mono ?_
      rintro e w2 ⟨rfl, hb2⟩
      have hX2 := hX.below hb2 hX.lt
      have hbw2 := hbw.trans (hb2.mono hbw.size)
      clear hb2 hX hbw x_0 x_1
      go_wp2
      go_roundw
      case rel => exact ⟨Or.inr (Or.inl ⟨rfl, rfl⟩), hX2, hbw2⟩
      case measure => simp [RowKit.intOf]
    · go_wp2_with fail
      refine (sFmtI_any _ b0 (by omega) _).mono ?_
      rintro e w2 ⟨rfl, hb2⟩
      have hX2 := hX.below hb2 hX.lt
      have hbw2 := hbw.trans (hb2.mono hbw.size)
      clear hb2 hX hbw x_0 x_1
      go_wp2
      go_roundw
      case rel => exact ⟨Or.inr (Or.inr ⟨rfl, rfl⟩), hX2, hbw2⟩
      case measure => simp [RowKit.intOf]
    · go_wp2
      exact bodyPost_ret (v := .tuple #[.string (⟨#[97, 100, 100]⟩ ++ ⟨#[32]⟩ ++ dS a ++ ⟨#[32]⟩ ++ dS b), .bool true]) (by simp [results, Tryd.results16, go_sem]) rfl ⟨rfl, hbw⟩

set_option maxHeartbeats 4000000 in
set_option maxRecDepth 100000 in
theorem sFact_2 (a b : Int) (w : World) (hb : actB 2 a b = true) :
    Calls Tryd.prog 16 #[.agg #[.int .i64 2, .int .i64 a, .int .i64 b]] w fun e w' => e = .returned (.tuple #[.string (⟨#[100, 114, 111, 112]⟩ ++ ⟨#[32]⟩ ++ dS a), .bool true]) ∧ Below w.heap.size w w' := by
  obtain ⟨_, ⟨a0, a1⟩, b0, b1⟩ := actB_bd hb
  have z1 := dS_size a (by omega)
  have z2 := dS_size b (by omega)
  have q2 : (4 : Int) + 1 + ((dS a).size : Int) ≤ 9223372036854775807 := by omega
  have q3 : (4 : Int) + 1 + ((dS a).size : Int) + 1 ≤ 9223372036854775807 := by omega
  have q4 : (4 : Int) + 1 + ((dS a).size : Int) + 1 + ((dS b).size : Int) ≤ 9223372036854775807 := by omega
  go_enter Tryd.func16, Tryd.ntmps16
  go_wp2_with fail
  refine (sActOk_at _ _ _ _ _ hb).mono ?_
  rintro e w1 ⟨rfl, hb1⟩
  have hz1 := hb1.size
  simp at hz1
  have hA1 : Blk w1 w.heap.size 23 #[.int .i64 2, .int .i64 a, .int .i64 b] := Blk.below (Blk.newAt rfl) hb1 sz_
  have hbw1 : Below w.heap.size w w1 := by exact bel_
  clear hb1
  have n1 : w.heap.size < w1.heap.size := hA1.lt
  (have a_0 := hA1.cell 0); (have a_1 := hA1.cell 1); (have a_2 := hA1.cell 2)
  simp only [List.getElem?_toArray, List.getElem?_cons_succ, List.getElem?_cons_zero] at a_0 a_1 a_2
  go_wp2
  go_loopw [4, 7] (fun s i wr => ((i = .int .i64 0 ∧ s = .string ⟨#[100, 114, 111, 112]⟩) ∨ (i = .int .i64 1 ∧ s = .string (⟨#[100, 114, 111, 112]⟩ ++ ⟨#[32]⟩ ++ dS a))) ∧ Blk wr (w1.heap.size + 1 + 1) 3 #[.int .i64 a, .int .i64 b] ∧ Below w.heap.size w wr) (fun _ i _ => (1 - RowKit.intOf i).toNat)
  case atStart => exact ⟨Or.inl ⟨rfl, rfl⟩, Blk.newAt (by simp), by exact bel_⟩
  case round =>
    obtain ⟨hi, hX, hbw⟩ := hrel
    clear a_0 a_1 a_2
    have hxs := hX.lt
    have hws := hbw.size
    obtain ⟨x_0, x_1⟩ := hX.c2
    rcases hi with ⟨rfl, rfl⟩ | ⟨rfl, rfl⟩
    · go_wp2_with fail
      refine (sFmtI_any _ a0 (by omega) _).mono ?_
      rintro e w2 ⟨rfl, hb2⟩
      have hX2 := hX.below hb2 hX.lt
      have hbw2 := hbw.trans (hb2.mono hbw.size)
      clear hb2 hX hbw x_0 x_1
      go_wp2
      go_roundw
      case rel => exact ⟨Or.inr ⟨rfl, rfl⟩, hX2, hbw2⟩
      case measure => simp [RowKit.intOf]
    · go_wp2
      exact bodyPost_ret (v := .tuple #[.string (⟨#[100, 114, 111, 112]⟩ ++ ⟨#[32]⟩ ++ dS a), .bool true]) (by simp [results, Tryd.results16, go_sem]) rfl ⟨rfl, hbw⟩

set_option maxHeartbeats 4000000 in
set_option maxRecDepth 100000 in
theorem sFact_3 (a b : Int) (w : World) (hb : actB 3 a b = true) :
    Calls Tryd.prog 16 #[.agg #[.int .i64 3, .int .i64 a, .int .i64 b]] w fun e w' => e = .returned (.tuple #[.string (⟨#[106, 111, 105, 110]⟩ ++ ⟨#[32]⟩ ++ dS a), .bool true]) ∧ Below w.heap.size w w' := by
  obtain ⟨_, ⟨a0, a1⟩, b0, b1⟩ := actB_bd hb
  have z1 := dS_size a (by omega)
  have z2 := dS_size b (by omega)
  have q2 : (4 : Int) + 1 + ((dS a).size : Int) ≤ 9223372036854775807 := by omega
  have q3 : (4 : Int) + 1 + ((dS a).size : Int) + 1 ≤ 9223372036854775807 := by omega
  have q4 : (4 : Int) + 1 + ((dS a).size : Int) + 1 + ((dS b).size : Int) ≤ 9223372036854775807 := by omega
  go_enter Tryd.func16, Tryd.ntmps16
  go_wp2_with fail
  refine (sActOk_at _ _ _ _ _ hb).mono ?_
  rintro e w1 ⟨rfl, hb1⟩
  have hz1 := hb1.size
  simp at hz1
  have hA1 : Blk w1 w.heap.size 23 #[.int .i64 3, .int .i64 a, .int .i64 b] := Blk.below (Blk.newAt rfl) hb1 sz_
  have hbw1 : Below w.heap.size w w1 := by exact bel_
  clear hb1
  have n1 : w.heap.size < w1.heap.size := hA1.lt
  (have a_0 := hA1.cell 0); (have a_1 := hA1.cell 1); (have a_2 := hA1.cell 2)
  simp only [List.getElem?_toArray, List.getElem?_cons_succ, List.getElem?_cons_zero] at a_0 a_1 a_2
  go_wp2
  go_loopw [4, 7] (fun s i wr => ((i = .int .i64 0 ∧ s = .string ⟨#[106, 111, 105, 110]⟩) ∨ (i = .int .i64 1 ∧ s = .string (⟨#[106, 111, 105, 110]⟩ ++ ⟨#[32]⟩ ++ dS a))) ∧ Blk wr (w1.heap.size + 1 + 1) 3 #[.int .i64 a, .int .i64 b] ∧ Below w.heap.size w wr) (fun _ i _ => (1 - RowKit.intOf i).toNat)
  case atStart => exact ⟨Or.inl ⟨rfl, rfl⟩, Blk.newAt (by simp), by exact bel_⟩
  case round =>
    obtain ⟨hi, hX, hbw⟩ := hrel
    clear a_0 a_1 a_2
    have hxs := hX.lt
    have hws := hbw.size
    obtain ⟨x_0, x_1⟩ := hX.c2
    rcases hi with ⟨rfl, rfl⟩ | ⟨rfl, rfl⟩
    · go_wp2_with fail
      refine (sFmtI_any _ a0 (by omega) _).mono ?_
      rintro e w2 ⟨rfl, hb2⟩
      have hX2 := hX.below hb2 hX.lt
      have hbw2 := hbw.trans (hb2.mono hbw.size)
      clear hb2 hX hbw x_0 x_1
      go_wp2
      go_roundw
      case rel => exact ⟨Or.inr ⟨rfl, rfl⟩, hX2, hbw2⟩
      case measure => simp [RowKit.intOf]
    · go_wp2
      exact bodyPost_ret (v := .tuple #[.string (⟨#[106, 111, 105, 110]⟩ ++ ⟨#[32]⟩ ++ dS a), .bool true]) (by simp [results, Tryd.results16, go_sem]) rfl ⟨rfl, hbw⟩

set_option maxHeartbeats 4000000 in
set_option maxRecDepth 100000 in
theorem sFact_4 (a b : Int) (w : World) (hb : actB 4 a b = true) :
    Calls Tryd.prog 16 #[.agg #[.int .i64 4, .int .i64 a, .int .i64 b]] w fun e w' => e = .returned (.tuple #[.string ⟨#[117, 110, 100, 111]⟩, .bool true]) ∧ Below w.heap.size w w' := by
  obtain ⟨_, ⟨a0, a1⟩, b0, b1⟩ := actB_bd hb
  have z1 := dS_size a (by omega)
  have z2 := dS_size b (by omega)
  have q2 : (4 : Int) + 1 + ((dS a).size : Int) ≤ 9223372036854775807 := by omega
  have q3 : (4 : Int) + 1 + ((dS a).size : Int) + 1 ≤ 9223372036854775807 := by omega
  have q4 : (4 : Int) + 1 + ((dS a).size : Int) + 1 + ((dS b).size : Int) ≤ 9223372036854775807 := by omega
  go_enter Tryd.func16, Tryd.ntmps16
  go_wp2_with fail
  refine (sActOk_at _ _ _ _ _ hb).mono ?_
  rintro e w1 ⟨rfl, hb1⟩
  have hz1 := hb1.size
  simp at hz1
  have hA1 : Blk w1 w.heap.size 23 #[.int .i64 4, .int .i64 a, .int .i64 b] := Blk.below (Blk.newAt rfl) hb1 sz_
  have hbw1 : Below w.heap.size w w1 := by exact bel_
  clear hb1
  have n1 : w.heap.size < w1.heap.size := hA1.lt
  (have a_0 := hA1.cell 0); (have a_1 := hA1.cell 1); (have a_2 := hA1.cell 2)
  simp only [List.getElem?_toArray, List.getElem?_cons_succ, List.getElem?_cons_zero] at a_0 a_1 a_2
  go_wp2
  go_loopw [4, 7] (fun s i wr => ((i = .int .i64 0 ∧ s = .string ⟨#[117, 110, 100, 111]⟩)) ∧ Blk wr (w1.heap.size + 1 + 1) 3 #[.int .i64 a, .int .i64 b] ∧ Below w.heap.size w wr) (fun _ i _ => (0 - RowKit.intOf i).toNat)
  case atStart => exact ⟨⟨rfl, rfl⟩, Blk.newAt (by simp), by exact bel_⟩
  case round =>
    obtain ⟨hi, hX, hbw⟩ := hrel
    clear a_0 a_1 a_2
    have hxs := hX.lt
    have hws := hbw.size
    obtain ⟨x_0, x_1⟩ := hX.c2
    rcases hi with ⟨rfl, rfl⟩
    · go_wp2
      exact bodyPost_ret (v := .tuple #[.string ⟨#[117, 110, 100, 111]⟩, .bool true]) (by simp [results, Tryd.results16, go_sem]) rfl ⟨rfl, hbw⟩

set_option maxHeartbeats 4000000 in
set_option maxRecDepth 100000 in
theorem sFact_5 (a b : Int) (w : World) (hb : actB 5 a b = true) :
    Calls Tryd.prog 16 #[.agg #[.int .i64 5, .int .i64 a, .int .i64 b]] w fun e w' => e = .returned (.tuple #[.string (⟨#[99, 111, 108, 111, 114]⟩ ++ ⟨#[32]⟩ ++ dS a), .bool true]) ∧ Below w.heap.size w w' := by
  obtain ⟨_, ⟨a0, a1⟩, b0, b1⟩ := actB_bd hb
  have z1 := dS_size a (by omega)
  have z2 := dS_size b (by omega)
  have q2 : (5 : Int) + 1 + ((dS a).size : Int) ≤ 9223372036854775807 := by omega
  have q3 : (5 : Int) + 1 + ((dS a).size : Int) + 1 ≤ 9223372036854775807 := by omega
  have q4 : (5 : Int) + 1 + ((dS a).size : Int) + 1 + ((dS b).size : Int) ≤ 9223372036854775807 := by omega
  go_enter Tryd.func16, Tryd.ntmps16
  go_wp2_with fail
  refine (sActOk_at _ _ _ _ _ hb).mono ?_
  rintro e w1 ⟨rfl, hb1⟩
  have hz1 := hb1.size
  simp at hz1
  have hA1 : Blk w1 w.heap.size 23 #[.int .i64 5, .int .i64 a, .int .i64 b] := Blk.below (Blk.newAt rfl) hb1 sz_
  have hbw1 : Below w.heap.size w w1 := by exact bel_
  clear hb1
  have n1 : w.heap.size < w1.heap.size := hA1.lt
  (have a_0 := hA1.cell 0); (have a_1 := hA1.cell 1); (have a_2 := hA1.cell 2)
  simp only [List.getElem?_toArray, List.getElem?_cons_succ, List.getElem?_cons_zero] at a_0 a_1 a_2
  go_wp2
  go_loopw [4, 7] (fun s i wr => ((i = .int .i64 0 ∧ s = .string ⟨#[99, 111, 108, 111, 114]⟩) ∨ (i = .int .i64 1 ∧ s = .string (⟨#[99, 111, 108, 111, 114]⟩ ++ ⟨#[32]⟩ ++ dS a))) ∧ Blk wr (w1.heap.size + 1 + 1) 3 #[.int .i64 a, .int .i64 b] ∧ Below w.heap.size w wr) (fun _ i _ => (1 - RowKit.intOf i).toNat)
  case atStart => exact ⟨Or.inl ⟨rfl, rfl⟩, Blk.newAt (by simp), by exact bel_⟩
  case round =>
    obtain ⟨hi, hX, hbw⟩ := hrel
    clear a_0 a_1 a_2
    have hxs := hX.lt
    have hws := hbw.size
    obtain ⟨x_0, x_1⟩ := hX.c2
    rcases hi with ⟨rfl, rfl⟩ | ⟨rfl, rfl⟩
    · go_wp2_with fail
      refine (sFmtI_any _ a0 (by omega) _).mono ?_
      rintro e w2 ⟨rfl, hb2⟩
      have hX2 := hX.below hb2 hX.lt
      have hbw2 := hbw.trans (hb2.mono hbw.size)
      clear hb2 hX hbw x_0 x_1
      go_wp2
      go_roundw
      case rel => exact ⟨Or.inr ⟨rfl, rfl⟩, hX2, hbw2⟩
      case measure => simp [RowKit.intOf]
    · go_wp2
      exact bodyPost_ret (v := .tuple #[.string (⟨#[99, 111, 108, 111, 114]⟩ ++ ⟨#[32]⟩ ++ dS a), .bool true]) (by simp [results, Tryd.results16, go_sem]) rfl ⟨rfl, hbw⟩

set_option maxHeartbeats 4000000 in
set_option maxRecDepth 100000 in
theorem sFact_6 (a b : Int) (w : World) (hb : actB 6 a b = true) :
    Calls Tryd.prog 16 #[.agg #[.int .i64 6, .int .i64 a, .int .i64 b]] w fun e w' => e = .returned (.tuple #[.string (⟨#[115, 119, 97, 112]⟩ ++ ⟨#[32]⟩ ++ dS a ++ ⟨#[32]⟩ ++ dS b), .bool true]) ∧ Below w.heap.size w w' := by
  obtain ⟨_, ⟨a0, a1⟩, b0, b1⟩ := actB_bd hb
  have z1 := dS_size a (by omega)
  have z2 := dS_size b (by omega)
  have q2 : (4 : Int) + 1 + ((dS a).size : Int) ≤ 9223372036854775807 := by omega
  have q3 : (4 : Int) + 1 + ((dS a).size : Int) + 1 ≤ 9223372036854775807 := by omega
  have q4 : (4 : Int) + 1 + ((dS a).size : Int) + 1 + ((dS b).size : Int) ≤ 9223372036854775807 := by omega
  go_enter Tryd.func16, Tryd.ntmps16
  go_wp2_with fail
  refine (sActOk_at _ _ _ _ _ hb).mono ?_
  rintro e w1 ⟨rfl, hb1⟩
  have hz1 := hb1.size
  simp at hz1
  have hA1 : Blk w1 w.heap.size 23 #[.int .i64 6, .int .i64 a, .int .i64 b] := Blk.below (Blk.newAt rfl) hb1 sz_
  have hbw1 : Below w.heap.size w w1 := by exact bel_
  clear hb1
  have n1 : w.heap.size < w1.heap.size := hA1.lt
  (have a_0 := hA1.cell 0); (have a_1 := hA1.cell 1); (have a_2 := hA1.cell 2)
  simp only [List.getElem?_toArray, List.getElem?_cons_succ, List.getElem?_cons_zero] at a_0 a_1 a_2
  go_wp2
  go_loopw [4, 7] (fun s i wr => ((i = .int .i64 0 ∧ s = .string ⟨#[115, 119, 97, 112]⟩) ∨ (i = .int .i64 1 ∧ s = .string (⟨#[115, 119, 97, 112]⟩ ++ ⟨#[32]⟩ ++ dS a)) ∨ (i = .int .i64 2 ∧ s = .string (⟨#[115, 119, 97, 112]⟩ ++ ⟨#[32]⟩ ++ dS a ++ ⟨#[32]⟩ ++ dS b))) ∧ Blk wr (w1.heap.size + 1 + 1) 3 #[.int .i64 a, .int .i64 b] ∧ Below w.heap.size w wr) (fun _ i _ => (2 - RowKit.intOf i).toNat)
  case atStart => exact ⟨Or.inl ⟨rfl, rfl⟩, Blk.newAt (by simp), by exact bel_⟩
  case round =>
    obtain ⟨hi, hX, hbw⟩ := hrel
    clear a_0 a_1 a_2
    have hxs := hX.lt
    have hws := hbw.size
    obtain ⟨x_0, x_1⟩ := hX.c2
    rcases hi with ⟨rfl, rfl⟩ | ⟨rfl, rfl⟩ | ⟨rfl, rfl⟩
    · go_wp2_with fail
      refine (sFmtI_any _ a0 (by omega) _).mono ?_
      rintro e w2 ⟨rfl, hb2⟩
      have hX2 := hX.below hb2 hX.lt
      have hbw2 := hbw.trans (hb2.mono hbw.size)
      clear hb2 hX hbw x_0 x_1
      go_wp2
      go_roundw
      case rel => exact ⟨Or.inr (Or.inl ⟨rfl, rfl⟩), hX2, hbw2⟩
      case measure => simp [RowKit.intOf]
    · go_wp2_with fail
      refine (sFmtI_any _ b0 (by omega) _).mono ?_
      rintro e w2 ⟨rfl, hb2⟩
      have hX2 := hX.below hb2 hX.lt
      have hbw2 := hbw.trans (hb2.mono hbw.size)
      clear hb2 hX hbw x_0 x_1
      go_wp2
      go_roundw
      case rel => exact ⟨Or.inr (Or.inr ⟨rfl, rfl⟩), hX2, hbw2⟩
      case measure => simp [RowKit.intOf]
    · go_wp2
      exact bodyPost_ret (v := .tuple #[.string (⟨#[115, 119, 97, 112]⟩ ++ ⟨#[32]⟩ ++ dS a ++ ⟨#[32]⟩ ++ dS b), .bool true]) (by simp [results, Tryd.results16, go_sem]) rfl ⟨rfl, hbw⟩

set_option maxHeartbeats 4000000 in
set_option maxRecDepth 100000 in
theorem sFact_7 (a b : Int) (w : World) (hb : actB 7 a b = true) :
    Calls Tryd.prog 16 #[.agg #[.int .i64 7, .int .i64 a, .int .i64 b]] w fun e w' => e = .returned (.tuple #[.string (⟨#[115, 116, 111, 114, 101]⟩ ++ ⟨#[32]⟩ ++ dS a ++ ⟨#[32]⟩ ++ dS b), .bool true]) ∧ Below w.heap.size w w' := by
  obtain ⟨_, ⟨a0, a1⟩, b0, b1⟩ := actB_bd hb
  have z1 := dS_size a (by omega)
  have z2 := dS_size b (by omega)
  have q2 : (5 : Int) + 1 + ((dS a).size : Int) ≤ 9223372036854775807 := by omega
  have q3 : (5 : Int) + 1 + ((dS a).size : Int) + 1 ≤ 9223372036854775807 := by omega
  have q4 : (5 : Int) + 1 + ((dS a).size : Int) + 1 + ((dS b).size : Int) ≤ 9223372036854775807 := by omega
  go_enter Tryd.func16, Tryd.ntmps16
  go_wp2_with fail
  refine (sActOk_at _ _ _ _ _ hb).mono ?_
  rintro e w1 ⟨rfl, hb1⟩
  have hz1 := hb1.size
  simp at hz1
  have hA1 : Blk w1 w.heap.size 23 #[.int .i64 7, .int .i64 a, .int .i64 b] := Blk.below (Blk.newAt rfl) hb1 sz_
  have hbw1 : Below w.heap.size w w1 := by exact bel_
  clear hb1
  have n1 : w.heap.size < w1.heap.size := hA1.lt
  (have a_0 := hA1.cell 0); (have a_1 := hA1.cell 1); (have a_2 := hA1.cell 2)
  simp only [List.getElem?_toArray, List.getElem?_cons_succ, List.getElem?_cons_zero] at a_0 a_1 a_2
  go_wp2
  go_loopw [4, 7] (fun s i wr => ((i = .int .i64 0 ∧ s = .string ⟨#[115, 116, 111, 114, 101]⟩) ∨ (i = .int .i64 1 ∧ s = .string (⟨#[115, 116, 111, 114, 101]⟩ ++ ⟨#[32]⟩ ++ dS a)) ∨ (i = .int .i64 2 ∧ s = .string (⟨#[115, 116, 111, 114, 101]⟩ ++ ⟨#[32]⟩ ++ dS a ++ ⟨#[32]⟩ ++ dS b))) ∧ Blk wr (w1.heap.size + 1 + 1) 3 #[.int .i64 a, .int .i64 b] ∧ Below w.heap.size w wr) (fun _ i _ => (2 - RowKit.intOf i).toNat)
  case atStart => exact ⟨Or.inl ⟨rfl, rfl⟩, Blk.newAt (by simp), by exact bel_⟩
  case round =>
    obtain ⟨hi, hX, hbw⟩ := hrel
    clear a_0 a_1 a_2
    have hxs := hX.lt
    have hws := hbw.size
    obtain ⟨x_0, x_1⟩ := hX.c2
    rcases hi with ⟨rfl, rfl⟩ | ⟨rfl, rfl⟩ | ⟨rfl, rfl⟩
    · go_wp2_with fail
      refine (sFmtI_any _ a0 (by omega) _).mono ?_
      rintro e w2 ⟨rfl, hb2⟩
      have hX2 := hX.below hb2 hX.lt
      have hbw2 := hbw.trans (hb2.mono hbw.size)
      clear hb2 hX hbw x_0 x_1
      go_wp2
      go_roundw
      case rel => exact ⟨Or.inr (Or.inl ⟨rfl, rfl⟩), hX2, hbw2⟩
      case measure => simp [RowKit.intOf]
    · go_wp2_with fail
      refine (sFmtI_any _ b0 (by omega) _).mono ?_
      rintro e w2 ⟨rfl, hb2⟩
      have hX2 := hX.below hb2 hX.lt
      have hbw2 := hbw.trans (hb2.mono hbw.size)
      clear hb2 hX hbw x_0 x_1
      go_wp2
      go_roundw
      case rel => exact ⟨Or.inr (Or.inr ⟨rfl, rfl⟩), hX2, hbw2⟩
      case measure => simp [RowKit.intOf]
    · go_wp2
      exact bodyPost_ret (v := .tuple #[.string (⟨#[115, 116, 111, 114, 101]⟩ ++ ⟨#[32]⟩ ++ dS a ++ ⟨#[32]⟩ ++ dS b), .bool true]) (by simp [results, Tryd.results16, go_sem]) rfl ⟨rfl, hbw⟩

set_option maxHeartbeats 4000000 in
set_option maxRecDepth 100000 in
theorem sFact_8 (a b : Int) (w : World) (hb : actB 8 a b = true) :
    Calls Tryd.prog 16 #[.agg #[.int .i64 8, .int .i64 a, .int .i64 b]] w fun e w' => e = .returned (.tuple #[.string (⟨#[102, 101, 116, 99, 104]⟩ ++ ⟨#[32]⟩ ++ dS a), .bool true]) ∧ Below w.heap.size w w' := by
  obtain ⟨_, ⟨a0, a1⟩, b0, b1⟩ := actB_bd hb
  have z1 := dS_size a (by omega)
  have z2 := dS_size b (by omega)
  have q2 : (5 : Int) + 1 + ((dS a).size : Int) ≤ 9223372036854775807 := by omega
  have q3 : (5 : Int) + 1 + ((dS a).size : Int) + 1 ≤ 9223372036854775807 := by omega
  have q4 : (5 : Int) + 1 + ((dS a).size : Int) + 1 + ((dS b).size : Int) ≤ 9223372036854775807 := by omega
  go_enter Tryd.func16, Tryd.ntmps16
  go_wp2_with fail
  refine (sActOk_at _ _ _ _ _ hb).mono ?_
  rintro e w1 ⟨rfl, hb1⟩
  have hz1 := hb1.size
  simp at hz1
  have hA1 : Blk w1 w.heap.size 23 #[.int .i64 8, .int .i64 a, .int .i64 b] := Blk.below (Blk.newAt rfl) hb1 sz_
  have hbw1 : Below w.heap.size w w1 := by exact bel_
  clear hb1
  have n1 : w.heap.size < w1.heap.size := hA1.lt
  (have a_0 := hA1.cell 0); (have a_1 := hA1.cell 1); (have a_2 := hA1.cell 2)
  simp only [List.getElem?_toArray, List.getElem?_cons_succ, List.getElem?_cons_zero] at a_0 a_1 a_2
  go_wp2
  go_loopw [4, 7] (fun s i wr => ((i = .int .i64 0 ∧ s = .string ⟨#[102, 101, 116, 99, 104]⟩) ∨ (i = .int .i64 1 ∧ s = .string (⟨#[102, 101, 116, 99, 104]⟩ ++ ⟨#[32]⟩ ++ dS a))) ∧ Blk wr (w1.heap.size + 1 + 1) 3 #[.int .i64 a, .int .i64 b] ∧ Below w.heap.size w wr) (fun _ i _ => (1 - RowKit.intOf i).toNat)
  case atStart => exact ⟨Or.inl ⟨rfl, rfl⟩, Blk.newAt (by simp), by exact bel_⟩
  case round =>
    obtain ⟨hi, hX, hbw⟩ := hrel
    clear a_0 a_1 a_2
    have hxs := hX.lt
    have hws := hbw.size
    obtain ⟨x_0, x_1⟩ := hX.c2
    rcases hi with ⟨rfl, rfl⟩ | ⟨rfl, rfl⟩
    · go_wp2_with fail
      refine (sFmtI_any _ a0 (by omega) _).mono ?_
      rintro e w2 ⟨rfl, hb2⟩
      have hX2 := hX.below hb2 hX.lt
      have hbw2 := hbw.trans (hb2.mono hbw.size)
      clear hb2 hX hbw x_0 x_1
      go_wp2
      go_roundw
      case rel => exact ⟨Or.inr ⟨rfl, rfl⟩, hX2, hbw2⟩
      case measure => simp [RowKit.intOf]
    · go_wp2
      exact bodyPost_ret (v := .tuple #[.string (⟨#[102, 101, 116, 99, 104]⟩ ++ ⟨#[32]⟩ ++ dS a), .bool true]) (by simp [results, Tryd.results16, go_sem]) rfl ⟨rfl, hbw⟩

set_option maxHeartbeats 4000000 in
set_option maxRecDepth 100000 in
theorem sFact_9 (a b : Int) (w : World) (hb : actB 9 a b = true) :
    Calls Tryd.prog 16 #[.agg #[.int .i64 9, .int .i64 a, .int .i64 b]] w fun e w' => e = .returned (.tuple #[.string ⟨#[112, 97, 110, 101, 115]⟩, .bool true]) ∧ Below w.heap.size w w' := by
  obtain ⟨_, ⟨a0, a1⟩, b0, b1⟩ := actB_bd hb
  have z1 := dS_size a (by omega)
  have z2 := dS_size b (by omega)
  have q2 : (5 : Int) + 1 + ((dS a).size : Int) ≤ 9223372036854775807 := by omega
  have q3 : (5 : Int) + 1 + ((dS a).size : Int) + 1 ≤ 9223372036854775807 := by omega
  have q4 : (5 : Int) + 1 + ((dS a).size : Int) + 1 + ((dS b).size : Int) ≤ 9223372036854775807 := by omega
  go_enter Tryd.func16, Tryd.ntmps16
  go_wp2_with fail
  refine (sActOk_at _ _ _ _ _ hb).mono ?_
  rintro e w1 ⟨rfl, hb1⟩
  have hz1 := hb1.size
  simp at hz1
  have hA1 : Blk w1 w.heap.size 23 #[.int .i64 9, .int .i64 a, .int .i64 b] := Blk.below (Blk.newAt rfl) hb1 sz_
  have hbw1 : Below w.heap.size w w1 := by exact bel_
  clear hb1
  have n1 : w.heap.size < w1.heap.size := hA1.lt
  (have a_0 := hA1.cell 0); (have a_1 := hA1.cell 1); (have a_2 := hA1.cell 2)
  simp only [List.getElem?_toArray, List.getElem?_cons_succ, List.getElem?_cons_zero] at a_0 a_1 a_2
  go_wp2
  go_loopw [4, 7] (fun s i wr => ((i = .int .i64 0 ∧ s = .string ⟨#[112, 97, 110, 101, 115]⟩)) ∧ Blk wr (w1.heap.size + 1 + 1) 3 #[.int .i64 a, .int .i64 b] ∧ Below w.heap.size w wr) (fun _ i _ => (0 - RowKit.intOf i).toNat)
  case atStart => exact ⟨⟨rfl, rfl⟩, Blk.newAt (by simp), by exact bel_⟩
  case round =>
    obtain ⟨hi, hX, hbw⟩ := hrel
    clear a_0 a_1 a_2
    have hxs := hX.lt
    have hws := hbw.size
    obtain ⟨x_0, x_1⟩ := hX.c2
    rcases hi with ⟨rfl, rfl⟩
    · go_wp2
      exact bodyPost_ret (v := .tuple #[.string ⟨#[112, 97, 110, 101, 115]⟩, .bool true]) (by simp [results, Tryd.results16, go_sem]) rfl ⟨rfl, hbw⟩

theorem sFact_any (k a b : Int) (w : World) :
    Calls Tryd.prog 16 #[.agg #[.int .i64 k, .int .i64 a, .int .i64 b]] w fun e w' => e = .returned (.tuple #[.string (actS k a b), .bool (actB k a b)]) ∧ Below w.heap.size w w' := by
  cases hb : actB k a b
  · have e : actS k a b = ⟨#[]⟩ := by simp [actS, hb]
    rw [e]
    exact sFact_no k a b w hb
  · obtain ⟨⟨k0, k1⟩, _⟩ := actB_bd hb
    rcases (show k = 1 ∨ k = 2 ∨ k = 3 ∨ k = 4 ∨ k = 5 ∨ k = 6 ∨ k = 7 ∨ k = 8 ∨ k = 9 by omega) with rfl | rfl | rfl | rfl | rfl | rfl | rfl | rfl | rfl
    · exact (sFact_1 a b w hb).mono fun e w' ⟨he, hw⟩ => ⟨he.trans (by rw [show actS 1 a b = _ from by unfold actS; rw [if_pos hb]]; exact congrArg (fun s => Ending.returned (.tuple #[.string s, .bool true])) (ba_list _ _ (by simp [aName, aCnt, dS]))), hw⟩
    · exact (sFact_2 a b w hb).mono fun e w' ⟨he, hw⟩ => ⟨he.trans (by rw [show actS 2 a b = _ from by unfold actS; rw [if_pos hb]]; exact congrArg (fun s => Ending.returned (.tuple #[.string s, .bool true])) (ba_list _ _ (by simp [aName, aCnt, dS]))), hw⟩
    · exact (sFact_3 a b w hb).mono fun e w' ⟨he, hw⟩ => ⟨he.trans (by rw [show actS 3 a b = _ from by unfold actS; rw [if_pos hb]]; exact congrArg (fun s => Ending.returned (.tuple #[.string s, .bool true])) (ba_list _ _ (by simp [aName, aCnt, dS]))), hw⟩
    · exact (sFact_4 a b w hb).mono fun e w' ⟨he, hw⟩ => ⟨he.trans (by rw [show actS 4 a b = _ from by unfold actS; rw [if_pos hb]]; exact congrArg (fun s => Ending.returned (.tuple #[.string s, .bool true])) (ba_list _ _ (by simp [aName, aCnt, dS]))), hw⟩
    · exact (sFact_5 a b w hb).mono fun e w' ⟨he, hw⟩ => ⟨he.trans (by rw [show actS 5 a b = _ from by unfold actS; rw [if_pos hb]]; exact congrArg (fun s => Ending.returned (.tuple #[.string s, .bool true])) (ba_list _ _ (by simp [aName, aCnt, dS]))), hw⟩
    · exact (sFact_6 a b w hb).mono fun e w' ⟨he, hw⟩ => ⟨he.trans (by rw [show actS 6 a b = _ from by unfold actS; rw [if_pos hb]]; exact congrArg (fun s => Ending.returned (.tuple #[.string s, .bool true])) (ba_list _ _ (by simp [aName, aCnt, dS]))), hw⟩
    · exact (sFact_7 a b w hb).mono fun e w' ⟨he, hw⟩ => ⟨he.trans (by rw [show actS 7 a b = _ from by unfold actS; rw [if_pos hb]]; exact congrArg (fun s => Ending.returned (.tuple #[.string s, .bool true])) (ba_list _ _ (by simp [aName, aCnt, dS]))), hw⟩
    · exact (sFact_8 a b w hb).mono fun e w' ⟨he, hw⟩ => ⟨he.trans (by rw [show actS 8 a b = _ from by unfold actS; rw [if_pos hb]]; exact congrArg (fun s => Ending.returned (.tuple #[.string s, .bool true])) (ba_list _ _ (by simp [aName, aCnt, dS]))), hw⟩
    · exact (sFact_9 a b w hb).mono fun e w' ⟨he, hw⟩ => ⟨he.trans (by rw [show actS 9 a b = _ from by unfold actS; rw [if_pos hb]]; exact congrArg (fun s => Ending.returned (.tuple #[.string s, .bool true])) (ba_list _ _ (by simp [aName, aCnt, dS]))), hw⟩

end Go.Proofs.YtbennlajjfkdpaaDoor
