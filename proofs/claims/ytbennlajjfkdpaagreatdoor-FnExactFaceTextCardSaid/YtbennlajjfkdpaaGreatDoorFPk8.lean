/- part 8 -/
import Derived.Test.YtbennlajjfkdpaaGreatDoorFPk5
import Derived.Test.YtbennlajjfkdpaaGreatDoorFPk7
import Derived.BigQuiet
import Derived.OrdersHeld
import Derived.Deep.RegionHeld3
import Derived.StillTail
import Derived.Test.YtbennlajjfkdpaaGreatDoorTie
import Derived.Test.YtbennlajjfkdpaaGreatDoorCards
import Derived.LaidMore
import Derived.Stop.Joined
import Derived.SevenTiedAt
set_option linter.unusedSimpArgs false
set_option linter.unusedVariables false
namespace Go.Proofs.YtbennlajjfkdpaaGreatDoor
open Go.RowKit
structure Grw (w : World) where
  wt : World
  below : Below w.heap.size w wt
instance (w : World) : Nonempty (Grw w) := ⟨⟨w, Below.refl _ _⟩⟩
theorem Grw.cells {w : World} (n : Grw w) (b o : Nat) (h : b < w.heap.size) : n.wt.cell? ⟨b, o, none⟩ = w.cell? ⟨b, o, none⟩ := n.below.cell (p := ⟨b, o, none⟩) h
theorem wp_region_quietG {P : Program} {id : Nat} {Q : Exit → Act → World → Prop} {a : Act} {w : World} {l : List Oper} (hm : P.follows .mixedOrders = true) (hB : Region.lexB .any l.toArray = true)
    (h : (∀ (n : Grw w) (b o : Nat), b < w.heap.size → n.wt.cell? ⟨b, o, none⟩ = w.cell? ⟨b, o, none⟩) → wpQuiet P l.toArray (fun w' => ∃ n : Grw w, w' = n.wt) (fun a' => ∀ w', (∃ n : Grw w, w' = n.wt) → Q .normal a' w') l a) :
    (Code.region id l.toArray true).wp P Q a w :=
  wp_region_quiet (C := fun w' => ∃ n : Grw w, w' = n.wt) hm hB ⟨⟨w.drew, (Below.refl _ _).drew⟩, rfl⟩ (by simpa using h (fun n => n.cells))
theorem quietG {P : Program} {W : World} {n : Grw W} {f : Nat} {args : Array Value} {v : Value} (h : Calls P f args n.wt fun e w' => e = .returned v ∧ Below n.wt.heap.size n.wt w') :
    Calls P f args n.wt fun e w'' => e = .returned v ∧ ∃ m : Grw W, w'' = m.wt :=
  h.mono fun e w' ⟨he, hb⟩ => ⟨he, ⟨w', n.below.trans (hb.mono n.below.size)⟩, rfl⟩
theorem RS.grw {W : World} (n : Grw W) {size k : Nat} {v : Value} {xs : List Value} (h : RS W size v k xs) : RS n.wt size v k xs := RS.below h n.below
theorem quietS {P : Program} {W : World} {n : Grw W} {f : Nat} {args : Array Value} {v : Value} (h : Calls P f args n.wt fun e w' => e = .returned v ∧ n.wt = w') :
    Calls P f args n.wt fun e w'' => e = .returned v ∧ ∃ m : Grw W, w'' = m.wt :=
  h.mono fun e w' ⟨he, hb⟩ => ⟨he, n, hb.symm⟩
end Go.Proofs.YtbennlajjfkdpaaGreatDoor

namespace Go.Proofs.YtbennlajjfkdpaaGreatDoor
open Go.RowKit
def OwnW (base : Nat) (w : World) (vn vl : Value) (ns ls : List (Int × Int)) : Prop :=
  OwnP 47 base w vn ns ∧ OwnP 62 base w vl ls ∧ ∀ k, vn.ownBlock = some k → vl.ownBlock = some k → False
def RetW (ns ls : List (Int × Int)) (w : World) (e : Ending) (w' : World) : Prop := ∃ An cn Al cl, e = .returned (.agg #[.slice An ns.length cn, .slice Al ls.length cl]) ∧ OwnW w.heap.size w' (.slice An ns.length cn) (.slice Al ls.length cl) ns ls ∧ Below w.heap.size w w'
def szW (n : Int) (a b : Nat) : Int := if n < a then -1 else if n - a < b then -1 else n - a - b
theorem szNodeS_at (v : Value) (l : List (Int × Int)) (n x : Int) (w : World) (h : RP w v l) (h0 : 0 ≤ n) (h1 : n ≤ 1000000000) (hx : Hid (szF n l.length = x)) :
    Calls Tryz.prog 19 #[v, .int .i64 n] w fun e w' => e = .returned (.int .i64 x) ∧ w = w' :=
  (szNodeS_any v l n w h h0 h1).mono fun e w' ⟨he, hw⟩ => ⟨he.trans (ret_int hx.out), hw⟩
theorem szLeadS_at (v : Value) (l : List (Int × Int)) (n x : Int) (w : World) (h : RP w v l) (h0 : 0 ≤ n) (h1 : n ≤ 1000000000) (hx : Hid (szF n l.length = x)) :
    Calls Tryz.prog 20 #[v, .int .i64 n] w fun e w' => e = .returned (.int .i64 x) ∧ w = w' :=
  (szLeadS_any v l n w h h0 h1).mono fun e w' ⟨he, hw⟩ => ⟨he.trans (ret_int hx.out), hw⟩
set_option maxHeartbeats 2000000 in
set_option maxRecDepth 100000 in
theorem szWindow_any (vn vl : Value) (ns ls : List (Int × Int)) (n : Int) (w : World) (hn : RP w vn ns) (hl : RP w vl ls) (h0 : 0 ≤ n) (h1 : n ≤ 1000000000) :
    Calls Tryz.prog 5 #[.agg #[vn, vl], .int .i64 n] w fun e w' => e = .returned (.int .i64 (szW n ns.length ls.length)) ∧ Below w.heap.size w w' := by
  by_cases ha : n < ns.length
  · have HF : Hid (szF n ns.length = -1) := Lib.hid (by unfold szF; rw [if_pos ha])
    have HW : Hid (szW n ns.length ls.length = -1) := Lib.hid (by unfold szW; rw [if_pos ha])
    clear ha
    go_enter Tryz.func5, Tryz.ntmps5
    go_wp2_with fail
    refine (szNodeS_at _ ns n (-1) _ (hn.below (by exact bel_)) h0 h1 HF).mono ?_
    rintro e w' ⟨rfl, rfl⟩
    go_wp2
    go_ret
    exact ⟨ret_int HW.out.symm, by exact bel_⟩
  · have HF : Hid (szF n ns.length = n - ns.length) := Lib.hid (by unfold szF; rw [if_neg ha])
    by_cases hb : n - ns.length < ls.length
    · have HG : Hid (szF (n - ns.length) ls.length = -1) := Lib.hid (by unfold szF; rw [if_pos hb])
      have HW : Hid (szW n ns.length ls.length = -1) := Lib.hid (by unfold szW; rw [if_neg ha, if_pos hb])
      have hge : 0 ≤ n - ns.length := by omega
      have hge2 : ¬ n - ns.length < 0 := by omega
      clear hb
      go_enter Tryz.func5, Tryz.ntmps5
      go_wp2_with fail
      refine (szNodeS_at _ ns n (n - ns.length) _ (hn.below (by exact bel_)) h0 h1 HF).mono ?_
      rintro e w' ⟨rfl, rfl⟩
      go_wp2_with fail
      refine (szLeadS_at _ ls (n - ns.length) (-1) _ (hl.below (by exact bel_)) hge (by omega) HG).mono ?_
      rintro e w' ⟨rfl, rfl⟩
      go_wp2
      go_ret
      exact ⟨ret_int HW.out.symm, by exact bel_⟩
    · have HG : Hid (szF (n - ns.length) ls.length = n - ns.length - ls.length) := Lib.hid (by unfold szF; rw [if_neg hb])
      have HW : Hid (szW n ns.length ls.length = n - ns.length - ls.length) := Lib.hid (by unfold szW; rw [if_neg ha, if_neg hb])
      have hge : 0 ≤ n - ns.length := by omega
      have hge2 : ¬ n - ns.length < 0 := by omega
      have hge3 : ¬ n - ns.length - ls.length < 0 := by omega
      clear hb
      go_enter Tryz.func5, Tryz.ntmps5
      go_wp2_with fail
      refine (szNodeS_at _ ns n (n - ns.length) _ (hn.below (by exact bel_)) h0 h1 HF).mono ?_
      rintro e w' ⟨rfl, rfl⟩
      go_wp2_with fail
      refine (szLeadS_at _ ls (n - ns.length) _ _ (hl.below (by exact bel_)) hge (by omega) HG).mono ?_
      rintro e w' ⟨rfl, rfl⟩
      go_wp2
      go_ret
      exact ⟨ret_int HW.out.symm, by exact bel_⟩
set_option maxHeartbeats 2000000 in
set_option maxRecDepth 100000 in
theorem toWindow_any (vn vl : Value) (ns ls : List (Int × Int)) (w : World) (hn : RP w vn ns) (hl : RP w vl ls) (h1 : ns.length ≤ 1048576) (h2 : ls.length ≤ 1048576) :
    Calls Tryz.prog 7 #[.agg #[vn, vl]] w (RetW ns ls w) := by
  go_enter Tryz.func7, Tryz.ntmps7
  go_wp2_with fail
  refine (toNodeS_any _ ns _ (hn.below (by exact bel_)) h1).mono ?_
  rintro e w1 ⟨A1, c1, rfl, ho1, hb1⟩; (first | (with_reducible have hc1 := bdC hb1) | have hc1 := bcC hb1); (first | (with_reducible have hf1 := bdF hb1) | have hf1 := bcF hb1); have hz1 := hb1.size; (try simp at hz1); (try have hp1_0 := p0_ w w1); (try have hp1_1 := p1_ w w1); (try have hp1_2 := p2_ w w1); (try have hp1_3 := p3_ w w1)
  have hbw1 : Below w.heap.size w w1 := by exact bel_
  have o1 : OwnP 47 (w.heap.size + 1 + 1 + 1) w1 (.slice A1 ns.length c1) ns := by simpa using ho1
  have hlt1 := o1.lt
  go_wp2_with fail
  refine (toLeadS_any _ ls _ (hl.below (by exact bel_)) h2).mono ?_
  rintro e w2 ⟨A2, c2, rfl, ho2, hb2⟩; (first | (with_reducible have hc2 := bdC hb2) | have hc2 := bcC hb2); (first | (with_reducible have hf2 := bdF hb2) | have hf2 := bcF hb2); have hz2 := hb2.size; (try simp at hz2); (try have hp2_0 := p0_ w w2); (try have hp2_1 := p1_ w w2); (try have hp2_2 := p2_ w w2); (try have hp2_3 := p3_ w w2)
  have o2 : OwnP 62 w1.heap.size w2 (.slice A2 ls.length c2) ls := by simpa using ho2
  have o1' := Lib.hid ((((((o1.setLow (p := ⟨w.heap.size + 1 + 1, 0, none⟩) (by simp) (.slice A1 ns.length c1)).kept hb2).setLow (p := ⟨w.heap.size + 1 + 1, 1, none⟩) (by simp) (.slice A2 ls.length c2)).setLow (p := ⟨w.heap.size + 1, 0, none⟩) sz_ (.slice A1 ns.length c1)).setLow (p := ⟨w.heap.size + 1, 1, none⟩) sz_ (.slice A2 ls.length c2)).mono (show w.heap.size ≤ _ by omega))
  have o2' := Lib.hid ((((o2.setLow (p := ⟨w.heap.size + 1 + 1, 1, none⟩) sz_ (.slice A2 ls.length c2)).setLow (p := ⟨w.heap.size + 1, 0, none⟩) sz_ (.slice A1 ns.length c1)).setLow (p := ⟨w.heap.size + 1, 1, none⟩) sz_ (.slice A2 ls.length c2)).mono (show w.heap.size ≤ _ by omega))
  have hap : Hid (∀ k, (Value.slice A1 ns.length c1).ownBlock = some k → (Value.slice A2 ls.length c2).ownBlock = some k → False) := Lib.hid (fun k h1 h2 => by
    have := (hlt1 k h1).2
    have := (o2.lt k h2).1
    omega)
  clear ho1 ho2 o1 o2 hlt1
  go_wp2
  exact bodyPost_ret (v := .agg #[.slice A1 ns.length c1, .slice A2 ls.length c2]) (by simp [results, Tryz.results7, go_sem, hp1_0, hp1_1, hp1_2, hp2_0, hp2_1, hp2_2, hc2, hc1]) rfl ⟨_, _, _, _, rfl, ⟨o1'.out, o2'.out, hap.out⟩, by exact bel_⟩
set_option maxHeartbeats 2000000 in
set_option maxRecDepth 100000 in
theorem eqWindow_any (vn vl un ul : Value) (ns ls : List (Int × Int)) (w : World) (hn : RP w vn ns) (hl : RP w vl ls) (hn' : RP w un ns) (hl' : RP w ul ls) :
    Calls Tryz.prog 9 #[.agg #[vn, vl], .agg #[un, ul]] w fun e w' => e = .returned (.bool true) ∧ Below w.heap.size w w' := by
  go_enter Tryz.func9, Tryz.ntmps9
  go_wp2_with fail
  refine (eqNodeS_any _ _ ns _ (hn.below (by exact bel_)) (hn'.below (by exact bel_))).mono ?_
  rintro e w1 ⟨rfl, hb1⟩; (first | (with_reducible have hc1 := bdC hb1) | have hc1 := bcC hb1); (first | (with_reducible have hf1 := bdF hb1) | have hf1 := bcF hb1); have hz1 := hb1.size; (try simp at hz1); (try have hp1_0 := p0_ w w1); (try have hp1_1 := p1_ w w1); (try have hp1_2 := p2_ w w1); (try have hp1_3 := p3_ w w1)
  have hbw1 : Below w.heap.size w w1 := by exact bel_
  go_wp2_with fail
  refine (eqLeadS_any _ _ ls _ (hl.below hbw1) (hl'.below hbw1)).mono ?_
  rintro e w2 ⟨rfl, hb2⟩; (first | (with_reducible have hc2 := bdC hb2) | have hc2 := bcC hb2); (first | (with_reducible have hf2 := bdF hb2) | have hf2 := bcF hb2); have hz2 := hb2.size; (try simp at hz2); (try have hp2_0 := p0_ w w2); (try have hp2_1 := p1_ w w2); (try have hp2_2 := p2_ w w2); (try have hp2_3 := p3_ w w2)
  go_wp2
  go_ret
  exact ⟨rfl, by exact bel_⟩
attribute [local go_sem ↓] run_eqNode run_eqLead run_neNode run_neLead
end Go.Proofs.YtbennlajjfkdpaaGreatDoor

namespace Go.Proofs.YtbennlajjfkdpaaGreatDoor
open Go.RowKit
theorem bits_or_nat {a b : Nat} (ha : a < 2 ^ 63) (hb : b < 2 ^ 63) : bits .or .i64 (a : Int) (b : Int) = ((a ||| b : Nat) : Int) := by
  have e : bits .or .i64 (a : Int) (b : Int) = IntKind.i64.wrap ((BitVec.ofInt 64 (a : Int) ||| BitVec.ofInt 64 (b : Int)).toNat : Int) := rfl
  have h : a ||| b < 2 ^ 63 := Nat.or_lt_two_pow ha hb
  rw [e, BitVec.ofInt_natCast, BitVec.ofInt_natCast, BitVec.toNat_or, BitVec.toNat_ofNat, BitVec.toNat_ofNat, Nat.mod_eq_of_lt (by omega), Nat.mod_eq_of_lt (by omega)]
  exact IntWalk.i64_in _ (by omega)
theorem bits_and_nat {a b : Nat} (ha : a < 2 ^ 63) (hb : b < 2 ^ 63) : bits .and .i64 (a : Int) (b : Int) = ((a &&& b : Nat) : Int) := by
  have e : bits .and .i64 (a : Int) (b : Int) = IntKind.i64.wrap ((BitVec.ofInt 64 (a : Int) &&& BitVec.ofInt 64 (b : Int)).toNat : Int) := rfl
  have h : a &&& b ≤ a := Nat.and_le_left
  rw [e, BitVec.ofInt_natCast, BitVec.ofInt_natCast, BitVec.toNat_and, BitVec.toNat_ofNat, BitVec.toNat_ofNat, Nat.mod_eq_of_lt (by omega), Nat.mod_eq_of_lt (by omega)]
  exact IntWalk.i64_in _ (by omega)
theorem bits_xor_nat {a b : Nat} (ha : a < 2 ^ 63) (hb : b < 2 ^ 63) : bits .xor .i64 (a : Int) (b : Int) = ((a ^^^ b : Nat) : Int) := by
  have e : bits .xor .i64 (a : Int) (b : Int) = IntKind.i64.wrap ((BitVec.ofInt 64 (a : Int) ^^^ BitVec.ofInt 64 (b : Int)).toNat : Int) := rfl
  have h : a ^^^ b < 2 ^ 63 := Nat.xor_lt_two_pow ha hb
  rw [e, BitVec.ofInt_natCast, BitVec.ofInt_natCast, BitVec.toNat_xor, BitVec.toNat_ofNat, BitVec.toNat_ofNat, Nat.mod_eq_of_lt (by omega), Nat.mod_eq_of_lt (by omega)]
  exact IntWalk.i64_in _ (by omega)
theorem bit_test {s k : Nat} (hs : s < 2 ^ 62) : bits .and .i64 ((s : Int) / 2 ^ k) 1 = if s.testBit k then 1 else 0 := by
  have e : ((s : Int) / 2 ^ k) = ((s / 2 ^ k : Nat) : Int) := by rw [Int.natCast_ediv]; rfl
  have hle : s / 2 ^ k ≤ s := Nat.div_le_self _ _
  have h := bits_and_nat (a := s / 2 ^ k) (b := 1) (by omega) (by omega)
  rw [e, show (1 : Int) = ((1 : Nat) : Int) from rfl, h, Nat.and_one_is_mod, Nat.testBit_eq_decide_div_mod_eq]
  have h2 : s / 2 ^ k % 2 = 0 ∨ s / 2 ^ k % 2 = 1 := by omega
  rcases h2 with h2 | h2 <;> simp [h2]
theorem shl_one {k : Nat} (hk : k < 62) : IntKind.i64.wrap (1 * 2 ^ k) = ((2 ^ k : Nat) : Int) := by
  have h : (2 : Nat) ^ k < 2 ^ 62 := Nat.pow_lt_pow_right (by omega) hk
  have e : (1 * 2 ^ k : Int) = ((2 ^ k : Nat) : Int) := by rw [Int.one_mul, Int.natCast_pow]; rfl
  rw [e]
  clear e
  generalize (2 : Nat) ^ k = z at *
  exact IntWalk.i64_in _ (by omega)
def memS (s m : Nat) : List Nat := (List.range m).filter (s.testBit ·)
theorem memS_succ_yes {s m : Nat} (h : s.testBit m = true) : memS s (m + 1) = memS s m ++ [m] := by simp [memS, List.range_succ, List.filter_append, h]
theorem memS_succ_no {s m : Nat} (h : s.testBit m = false) : memS s (m + 1) = memS s m := by simp [memS, List.range_succ, List.filter_append, h]
theorem memS_le (s m : Nat) : (memS s m).length ≤ m := by
  have := List.length_filter_le (s.testBit ·) (List.range m)
  simpa [memS] using this
theorem memS_all {s m : Nat} : (memS s m).length = m ↔ ∀ i, i < m → s.testBit i = true := by
  constructor
  · intro h i hi
    have h2 : (List.range m).filter (s.testBit ·) = List.range m := List.length_filter_eq_length_iff.1 (by simpa [memS] using h) |> fun h3 => List.filter_eq_self.2 h3
    have := List.filter_eq_self.1 h2 i (List.mem_range.2 hi)
    exact this
  · intro h
    have h2 : (List.range m).filter (s.testBit ·) = List.range m := List.filter_eq_self.2 (fun i hi => h i (List.mem_range.1 hi))
    simp [memS, h2]
theorem memS_more {s m : Nat} (h : s < 2 ^ m) : ∀ j, memS s (m + j) = memS s m
  | 0 => rfl
  | j + 1 => by
    rw [show m + (j + 1) = (m + j) + 1 by omega, memS_succ_no (Nat.testBit_lt_two_pow (Nat.lt_of_lt_of_le h (Nat.pow_le_pow_right (by omega) (by omega))))]
    exact memS_more h j
end Go.Proofs.YtbennlajjfkdpaaGreatDoor

namespace Go.Proofs.YtbennlajjfkdpaaGreatDoor
open Go.RowKit
section
variable {P : Program} {md : Region.Mode} {ops : Array Oper} {Q : Exit → Act → World → Prop} {S : World → Prop}
theorem op_of_head {i : Nat} {o : Oper} (h : (ops.toList.drop i).head? = some o) : ops[i]? = some o := by
  rw [List.head?_drop, Array.getElem?_toList] at h
  exact h
end
end Go.Proofs.YtbennlajjfkdpaaGreatDoor

namespace Go.Proofs.YtbennlajjfkdpaaGreatDoor
open Go.RowKit
def RetN (G : List Int) (w : World) (e : Ending) (w' : World) : Prop := ∃ v, e = .returned v ∧ OwnI w.heap.size w' v G ∧ (G.length = 0 → v = .slice none 0 0) ∧ Below w.heap.size w w'
end Go.Proofs.YtbennlajjfkdpaaGreatDoor

namespace Go.Proofs.YtbennlajjfkdpaaGreatDoor
open Go.ChangeShapes Go.WideShapes Go.ChangeAt Go.RowKit Go.Joins
def laidK : List (String × DataW Unit) := Rows.fnExactFaceTextRow.laid
set_option maxRecDepth 100000 in
theorem door_met (os : Os) (args : Array Value) : laidMetH Tryz.prog laidK ((World.doorLaid Tryz.prog 400 os).forCall (fun _ _ => 0) ⟨#[], args, []⟩).memory :=
  laidMetH_of_parts3 (fuel := 8) (laidMet_of_run' 8 (by kernel_rfl) (by kernel_rfl)) (by kernel_rfl) (by kernel_rfl)
end Go.Proofs.YtbennlajjfkdpaaGreatDoor
