/-
  Lists of pairs marked with running numbers, and found marked; what turns.
-/
import Derived.Test.YtoknmjpnelbplaaGreatPrL
import Derived.Test.YtoknmjpnelbplaaGreatMarkI
set_option linter.unusedSimpArgs false
set_option linter.unusedVariables false
namespace Go.Proofs.YtoknmjpnelbplaaGreat
open Go.RowKit

/-- n pairs of running numbers from a on. -/
def runP (a : Int) (n : Nat) : List (Int × Int) := (List.range n).map fun (i : Nat) => (a + 2 * (i : Int), a + 2 * (i : Int) + 1)
theorem runP_length (a : Int) (n : Nat) : (runP a n).length = n := by simp [runP]
def markPs (a : Int) (l : List (Int × Int)) (k : Nat) : List (Int × Int) := runP a k ++ l.drop k
theorem markPs_length (a : Int) (l : List (Int × Int)) (k : Nat) (h : k ≤ l.length) : (markPs a l k).length = l.length := by simp [markPs, runP_length]; omega
theorem markPs_zero (a : Int) (l : List (Int × Int)) : markPs a l 0 = l := by simp [markPs, runP]
theorem markPs_all (a : Int) (l : List (Int × Int)) : markPs a l l.length = runP a l.length := by simp [markPs]
theorem markPs_succ (a : Int) (l : List (Int × Int)) (k : Nat) (h : k < l.length) : markPs a l (k + 1) = (markPs a l k).set k (a + 2 * k, a + 2 * k + 1) := by
  unfold markPs runP
  rw [List.range_succ, List.map_append, List.set_append]
  simp only [List.map_cons, List.map_nil, List.length_map, List.length_range, Nat.lt_irrefl, if_false, Nat.sub_self, List.append_assoc, List.cons_append, List.nil_append]
  rw [List.drop_eq_getElem_cons h, List.set_cons_zero]
theorem runP_get (a : Int) (n k : Nat) (h : k < (runP a n).length) : (runP a n)[k] = (a + 2 * (k : Int), a + 2 * (k : Int) + 1) := by simp [runP]

set_option maxHeartbeats 2000000 in
theorem markNodeS_any (base : Nat) (v : Value) (l : List (Int × Int)) (a : Int) (w : World) (h : OwnP 141 base w v l) (ha : 0 ≤ a) (hb : a + 2 * l.length ≤ 1000000000000) :
    Calls Tryz.prog 90 #[v, .int .i64 a] w fun e w' => e = .returned (.int .i64 (a + 2 * l.length)) ∧ OwnP 141 base w' v (runP a l.length) ∧ w.grownBy w' v.ownBlock := by
  rcases hcase : h.2 with ⟨rfl, hn⟩ | ⟨g, cap, cur, rfl, hbg, hh, hnc, hcm, hsz, hxs⟩
  · have hz : l = [] := List.eq_nil_of_length_eq_zero hn
    subst hz
    clear hcase hn hb
    go_enter Tryz.func90, Tryz.ntmps90
    go_wp2
    go_loop [1, 5] (fun x i => i = .int .i64 0 ∧ x = .int .i64 a) (fun _ _ => 0)
    case atStart => exact ⟨rfl, rfl⟩
    case round =>
      obtain ⟨rfl, rfl⟩ := hrel
      go_wp2
      go_ret
      exact ⟨by simp, OwnP.nil _ _ _, World.grownBy.refl _ _⟩
  · clear hcase hh hxs hsz
    have hml : l.length ≤ 1000000000000 := by omega
    have h0 : OwnP 141 base w (.slice (some ⟨g, 0, none⟩) l.length cap) (markPs a l 0) := by rw [markPs_zero]; exact h
    clear h
    go_enter Tryz.func90, Tryz.ntmps90
    go_wp2
    go_loopw [1, 5] (fun x i wr => ∃ k : Nat, k ≤ l.length ∧ i = .int .i64 k ∧ x = .int .i64 (a + 2 * k) ∧ OwnP 141 base wr (.slice (some ⟨g, 0, none⟩) l.length cap) (markPs a l k) ∧ w.grownBy wr (some g)) (fun _ i _ => l.length - (intOf i).toNat)
    case atStart => exact ⟨0, Nat.zero_le _, rfl, by simp, h0, World.grownBy.refl _ _⟩
    case round =>
      obtain ⟨k, hk, rfl, rfl, ho, hg⟩ := hrel
      clear h0
      have hml2 := markPs_length a l k hk
      by_cases hlt : k < l.length
      · have s4 := ho.set_ (q := k) (by omega) (a + 2 * k) (a + 2 * k + 1)
        rw [← markPs_succ a l k hlt] at s4
        have HS := Lib.hid s4
        have HG := Lib.hid (grownBy_set (grownBy_set hg (k * 2) (.int .i64 (a + 2 * k))) (k * 2 + 1) (.int .i64 (a + 2 * k + 1)))
        have xx := ho.cell (q := k) (by omega)
        obtain ⟨z0, x0⟩ : ∃ z, wr.cell? ⟨g, k * 2, none⟩ = some z := ⟨_, xx.1⟩
        obtain ⟨z1, x1⟩ : ∃ z, wr.cell? ⟨g, k * 2 + 1, none⟩ = some z := ⟨_, xx.2⟩
        have f0 := ho.frz (k * 2)
        have f1 := ho.frz (k * 2 + 1)
        clear s4 xx ho hg hml2
        go_wp2
        go_roundw
        case rel => exact ⟨k + 1, by omega, by go_num, by go_num, HS.out, HG.out⟩
        case measure => simp [intOf]; omega
      · have hkk : k = l.length := by omega
        subst hkk
        rw [markPs_all] at ho
        clear hml2
        go_wp2
        go_ret
        exact ⟨rfl, ho, hg⟩

set_option maxHeartbeats 2000000 in
theorem markLeadS_any (base : Nat) (v : Value) (l : List (Int × Int)) (a : Int) (w : World) (h : OwnP 143 base w v l) (ha : 0 ≤ a) (hb : a + 2 * l.length ≤ 1000000000000) :
    Calls Tryz.prog 91 #[v, .int .i64 a] w fun e w' => e = .returned (.int .i64 (a + 2 * l.length)) ∧ OwnP 143 base w' v (runP a l.length) ∧ w.grownBy w' v.ownBlock := by
  rcases hcase : h.2 with ⟨rfl, hn⟩ | ⟨g, cap, cur, rfl, hbg, hh, hnc, hcm, hsz, hxs⟩
  · have hz : l = [] := List.eq_nil_of_length_eq_zero hn
    subst hz
    clear hcase hn hb
    go_enter Tryz.func91, Tryz.ntmps91
    go_wp2
    go_loop [1, 5] (fun x i => i = .int .i64 0 ∧ x = .int .i64 a) (fun _ _ => 0)
    case atStart => exact ⟨rfl, rfl⟩
    case round =>
      obtain ⟨rfl, rfl⟩ := hrel
      go_wp2
      go_ret
      exact ⟨by simp, OwnP.nil _ _ _, World.grownBy.refl _ _⟩
  · clear hcase hh hxs hsz
    have hml : l.length ≤ 1000000000000 := by omega
    have h0 : OwnP 143 base w (.slice (some ⟨g, 0, none⟩) l.length cap) (markPs a l 0) := by rw [markPs_zero]; exact h
    clear h
    go_enter Tryz.func91, Tryz.ntmps91
    go_wp2
    go_loopw [1, 5] (fun x i wr => ∃ k : Nat, k ≤ l.length ∧ i = .int .i64 k ∧ x = .int .i64 (a + 2 * k) ∧ OwnP 143 base wr (.slice (some ⟨g, 0, none⟩) l.length cap) (markPs a l k) ∧ w.grownBy wr (some g)) (fun _ i _ => l.length - (intOf i).toNat)
    case atStart => exact ⟨0, Nat.zero_le _, rfl, by simp, h0, World.grownBy.refl _ _⟩
    case round =>
      obtain ⟨k, hk, rfl, rfl, ho, hg⟩ := hrel
      clear h0
      have hml2 := markPs_length a l k hk
      by_cases hlt : k < l.length
      · have s4 := ho.set_ (q := k) (by omega) (a + 2 * k) (a + 2 * k + 1)
        rw [← markPs_succ a l k hlt] at s4
        have HS := Lib.hid s4
        have HG := Lib.hid (grownBy_set (grownBy_set hg (k * 2) (.int .i64 (a + 2 * k))) (k * 2 + 1) (.int .i64 (a + 2 * k + 1)))
        have xx := ho.cell (q := k) (by omega)
        obtain ⟨z0, x0⟩ : ∃ z, wr.cell? ⟨g, k * 2, none⟩ = some z := ⟨_, xx.1⟩
        obtain ⟨z1, x1⟩ : ∃ z, wr.cell? ⟨g, k * 2 + 1, none⟩ = some z := ⟨_, xx.2⟩
        have f0 := ho.frz (k * 2)
        have f1 := ho.frz (k * 2 + 1)
        clear s4 xx ho hg hml2
        go_wp2
        go_roundw
        case rel => exact ⟨k + 1, by omega, by go_num, by go_num, HS.out, HG.out⟩
        case measure => simp [intOf]; omega
      · have hkk : k = l.length := by omega
        subst hkk
        rw [markPs_all] at ho
        clear hml2
        go_wp2
        go_ret
        exact ⟨rfl, ho, hg⟩

set_option maxHeartbeats 2000000 in
theorem heldNodeS_ok (v : Value) (n : Nat) (a : Int) (w : World) (h : RP w v (runP a n)) (ha : 0 ≤ a) (hb : a + 2 * n ≤ 1000000000000) :
    Calls Tryz.prog 193 #[v, .int .i64 a] w fun e w' => e = .returned (.int .i64 (a + 2 * n)) ∧ w = w' := by
  obtain ⟨A, c, rfl, hc, hm, hcell⟩ := h.form
  clear h
  rw [runP_length] at hc hm
  have hcell' : 0 < n → ∃ b off, A = some ⟨b, off, none⟩ ∧ b < w.heap.size ∧ ∀ k (hk : k < n), w.cell? ⟨b, off + k * 2, none⟩ = some (.int .i64 (a + 2 * (k : Int))) ∧ w.cell? ⟨b, off + k * 2 + 1, none⟩ = some (.int .i64 (a + 2 * (k : Int) + 1)) := by
    intro hn
    obtain ⟨b, off, h1, h2, h3⟩ := hcell (by rw [runP_length]; exact hn)
    refine ⟨b, off, h1, h2, fun k hk => ?_⟩
    have := h3 k (by rw [runP_length]; exact hk)
    rw [runP_get] at this
    exact this
  rw [runP_length]
  clear hcell
  go_enter Tryz.func193, Tryz.ntmps193
  go_wp2
  go_loop [1, 5] (fun x i => ∃ k : Nat, k ≤ n ∧ i = .int .i64 k ∧ x = .int .i64 (a + 2 * k)) (fun _ i => n - (intOf i).toNat)
  case atStart => exact ⟨0, Nat.zero_le _, rfl, by simp⟩
  case round =>
    obtain ⟨k, hk, rfl, rfl⟩ := hrel
    by_cases hlt : k < n
    · obtain ⟨b, off, rfl, hbb, hcl⟩ := hcell' (by omega)
      obtain ⟨q0, q1⟩ := hcl k hlt
      clear hcl hcell'
      go_wp2
      go_round
      case rel => exact ⟨k + 1, by omega, by go_num, by go_num⟩
      case measure => simp [intOf]; omega
    · have hkk : k = n := by omega
      subst hkk
      clear hcell'
      go_wp2
      go_ret
      exact ⟨rfl, rfl⟩

set_option maxHeartbeats 2000000 in
theorem heldLeadS_ok (v : Value) (n : Nat) (a : Int) (w : World) (h : RP w v (runP a n)) (ha : 0 ≤ a) (hb : a + 2 * n ≤ 1000000000000) :
    Calls Tryz.prog 194 #[v, .int .i64 a] w fun e w' => e = .returned (.int .i64 (a + 2 * n)) ∧ w = w' := by
  obtain ⟨A, c, rfl, hc, hm, hcell⟩ := h.form
  clear h
  rw [runP_length] at hc hm
  have hcell' : 0 < n → ∃ b off, A = some ⟨b, off, none⟩ ∧ b < w.heap.size ∧ ∀ k (hk : k < n), w.cell? ⟨b, off + k * 2, none⟩ = some (.int .i64 (a + 2 * (k : Int))) ∧ w.cell? ⟨b, off + k * 2 + 1, none⟩ = some (.int .i64 (a + 2 * (k : Int) + 1)) := by
    intro hn
    obtain ⟨b, off, h1, h2, h3⟩ := hcell (by rw [runP_length]; exact hn)
    refine ⟨b, off, h1, h2, fun k hk => ?_⟩
    have := h3 k (by rw [runP_length]; exact hk)
    rw [runP_get] at this
    exact this
  rw [runP_length]
  clear hcell
  go_enter Tryz.func194, Tryz.ntmps194
  go_wp2
  go_loop [1, 5] (fun x i => ∃ k : Nat, k ≤ n ∧ i = .int .i64 k ∧ x = .int .i64 (a + 2 * k)) (fun _ i => n - (intOf i).toNat)
  case atStart => exact ⟨0, Nat.zero_le _, rfl, by simp⟩
  case round =>
    obtain ⟨k, hk, rfl, rfl⟩ := hrel
    by_cases hlt : k < n
    · obtain ⟨b, off, rfl, hbb, hcl⟩ := hcell' (by omega)
      obtain ⟨q0, q1⟩ := hcl k hlt
      clear hcl hcell'
      go_wp2
      go_round
      case rel => exact ⟨k + 1, by omega, by go_num, by go_num⟩
      case measure => simp [intOf]; omega
    · have hkk : k = n := by omega
      subst hkk
      clear hcell'
      go_wp2
      go_ret
      exact ⟨rfl, rfl⟩

/-- Only the blocks of S may have turned. -/
structure Turns (S : Nat → Prop) (w w' : World) : Prop where
  os : w'.os = w.os
  tape : w'.tape = w.tape
  output : w'.output = w.output
  size : w.heap.size ≤ w'.heap.size
  block : ∀ i, i < w.heap.size → ¬ S i → w'.heap[i]? = w.heap[i]?

theorem Turns.ofGrown {w w' : World} {row : Option Nat} {S : Nat → Prop} (h : w.grownBy w' row) (hs : ∀ k, row = some k → S k) : Turns S w w' :=
  ⟨h.os, h.tape, h.output, h.size, fun i hi hn => h.block i hi (fun e => hn (hs i e.symm))⟩
theorem Turns.ofBelow {w w' : World} {S : Nat → Prop} (h : Below w.heap.size w w') : Turns S w w' := ⟨h.os, h.tape, h.output, h.size, fun i hi _ => h.block i hi⟩
theorem Turns.trans {a b c : World} {S : Nat → Prop} (h : Turns S a b) (k : Turns S b c) : Turns S a c :=
  ⟨k.os.trans h.os, k.tape.trans h.tape, k.output.trans h.output, Nat.le_trans h.size k.size, fun i hi hn => (k.block i (Nat.lt_of_lt_of_le hi h.size) hn).trans (h.block i hi hn)⟩
theorem Turns.mono {a b : World} {S S' : Nat → Prop} (h : Turns S a b) (hs : ∀ k, S k → S' k) : Turns S' a b := ⟨h.os, h.tape, h.output, h.size, fun i hi hn => h.block i hi (fun e => hn (hs i e))⟩
theorem Turns.below {a b : World} {S : Nat → Prop} {B : Nat} (h : Turns S a b) (hs : ∀ k, S k → B ≤ k) (hB : B ≤ a.heap.size) : Below B a b :=
  ⟨h.os, h.tape, h.output, h.size, fun i hi => h.block i (by omega) (fun e => by have := hs i e; omega)⟩
theorem Turns.refl (S : Nat → Prop) (w : World) : Turns S w w := ⟨rfl, rfl, rfl, Nat.le_refl _, fun _ _ _ => rfl⟩

/-- A row of its own that lies apart from what turned is as it was. -/
theorem own_turned {base : Nat} {w w' : World} {e : TypeId} {size : Nat} {v : Value} {n : Nat} {xs : List Value} {S : Nat → Prop} (h : w.ownsRow base e size v n xs) (hb : Turns S w w') (hs : ∀ k, v.ownBlock = some k → ¬ S k) :
    w'.ownsRow base e size v n xs := by
  obtain ⟨h1, h2⟩ := h
  refine ⟨h1, ?_⟩
  rcases h2 with ⟨rfl, hn⟩ | ⟨g, cap, cur, rfl, e1, hh, r⟩
  · exact .inl ⟨rfl, hn⟩
  · refine .inr ⟨g, cap, cur, rfl, e1, ?_, r⟩
    have hlt : g < w.heap.size := by
      rcases Nat.lt_or_ge g w.heap.size with hlt | hge
      · exact hlt
      · rw [Array.getElem?_eq_none hge] at hh; cases hh
    rw [hb.block g hlt (hs g rfl)]
    exact hh

theorem OwnP.turned {t : TypeId} {base : Nat} {w w' : World} {v : Value} {l : List (Int × Int)} {S : Nat → Prop} (h : OwnP t base w v l) (hb : Turns S w w') (hs : ∀ k, v.ownBlock = some k → ¬ S k) : OwnP t base w' v l := own_turned h hb hs

end Go.Proofs.YtoknmjpnelbplaaGreat
