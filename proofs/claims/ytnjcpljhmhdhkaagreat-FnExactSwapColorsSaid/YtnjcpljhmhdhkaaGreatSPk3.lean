/- part 3 -/
import Derived.Test.YtnjcpljhmhdhkaaGreatSPk2
import Derived.ChangeSlices
import Derived.Deep.Slices
import Derived.Deep.Fields
import Derived.ChangeSame
import Derived.Lib.SmallJoins
set_option linter.unusedSimpArgs false
set_option linter.unusedVariables false
namespace Go.Proofs.YtnjcpljhmhdhkaaGreat
open Go.ChangeShapes Go.WideShapes Go.Deep Go.RowKit Go.Joins
section
variable {H : Type} {enc : TypeId × Value → H} {P : Program} {w : World} {base : Nat} {spare : Nat → Bool} {held : Bool}
theorem openSliceFields {t e : TypeId} {fs : Array Field} {fuel : Nat} {cs : List Value} {x : DataW H × List MemPlace} (ht : P.underlying t = some (.slice e)) (he : P.underlying e = some (.struct fs))
    (hone : oneCellFields P fs = true) (hC : P.cellsOf e = fs.size) (h : DataW.trod enc P w base spare held fuel t cs = some x) :
    (cs = [.slice none 0 0] ∧ x = (.nil, [])) ∨
    ∃ (a : Addr) (len cap m : Nat) (D : Nat → DataW H) (Pl : Nat → List MemPlace), cs = [.slice (some a) len cap] ∧ base ≤ a.block ∧ len ≤ cap ∧ cap ≤ maxLen ∧ m = (if spare a.block then cap else len) ∧
      x = (.slice ((List.range len).map D) ((List.range (m - len)).map fun j => D (len + j)), MemPlace.row a (m * fs.size) ++ (List.range m).flatMap Pl) ∧
      ∀ i, i < m → ∃ (ys : List (DataW H × List MemPlace)) (n : Nat), D i = .agg (ys.map (·.1)) ∧ Pl i = ys.flatMap (·.2) ∧ ys.length = fs.size ∧
        ∀ (j : Nat) (f : Field), fs[j]? = some f → ∃ (v : Value) (y : DataW H × List MemPlace), w.cell? (a.add (i * fs.size + j)) = some v ∧ ys[j]? = some y ∧ DataW.trod enc P w base spare held n f.type [v] = some y := by
  rcases open_slice ht h with h0 | ⟨a, len, cap, m, n, D, Pl, hcs, hb, hl, hm, hmm, hx, hi⟩
  · exact .inl h0
  · refine .inr ⟨a, len, cap, m, D, Pl, hcs, hb, hl, hm, hmm, by rw [hC] at hx; exact hx, fun i him => ?_⟩
    obtain ⟨cs', hc, ht'⟩ := hi i him
    rw [hC] at hc
    obtain ⟨ys, n', hn', hy, hlen, hyl, hf⟩ := DataW.trod_struct he ht'
    obtain ⟨_, hcl, hat⟩ := World.cells?_some hc
    simp only [Prod.mk.injEq] at hy
    refine ⟨ys, n', hy.1, hy.2, hyl, fun j f hj => ?_⟩
    obtain ⟨ho, hk⟩ := hone_of hone j f hj
    have hjl : j < fs.size := (Array.getElem?_eq_some_iff.1 hj).1
    have hcell := hat j hjl
    have hv : cs'[j]? = some (cs'[j]'(by omega)) := List.getElem?_eq_getElem (by omega)
    have h1 := hf j f hj
    rw [ho, hk] at h1
    have hone' : (cs'.drop j).take 1 = [cs'[j]'(by omega)] := by
      rw [List.drop_eq_getElem_cons (by omega)]
      rfl
    rw [hone'] at h1
    have hys : ys[j]? = some (ys[j]'(by omega)) := List.getElem?_eq_getElem (by omega)
    refine ⟨_, _, ?_, hys, h1.trans hys⟩
    rw [← Go.Deep.add_add, hcell, hv]
theorem open_pairs {t e : TypeId} {f0 f1 : Field} {fuel : Nat} {v : Value} {x : DataW H × List MemPlace} (ht : P.underlying t = some (.slice e)) (he : P.underlying e = some (.struct #[f0, f1]))
    (hone : oneCellFields P #[f0, f1] = true) (hC : P.cellsOf e = 2) (h0 : P.underlying f0.type = some (.int .i64)) (h1 : P.underlying f1.type = some (.int .i64))
    (h : DataW.trod enc P w base spare held fuel t [v] = some x) : ∃ l : List (Int × Int), RP w v l := by
  rcases openSliceFields ht he hone hC h with ⟨hcs, _⟩ | ⟨a, len, cap, m, D, Pl, hcs, hb, hl, hm, hmm, hx, hi⟩
  · simp only [List.cons.injEq, and_true] at hcs
    subst hcs
    exact ⟨[], RP.nil w⟩
  · simp only [List.cons.injEq, and_true] at hcs
    subst hcs
    have hlm : len ≤ m := by rw [hmm]; split <;> omega
    have key : ∀ i, i < len → ∃ x y : Int, w.cell? (a.add (i * 2)) = some (.int .i64 x) ∧ w.cell? (a.add (i * 2 + 1)) = some (.int .i64 y) := by
      intro i hil
      obtain ⟨ys, n, _, _, _, hf⟩ := hi i (by omega)
      obtain ⟨v0, y0, c0, _, t0⟩ := hf 0 f0 rfl
      obtain ⟨v1, y1, c1, _, t1⟩ := hf 1 f1 rfl
      obtain ⟨q0, e0, _, _⟩ := DataW.trod_int h0 t0
      obtain ⟨q1, e1, _, _⟩ := DataW.trod_int h1 t1
      simp at e0 e1
      subst e0 e1
      exact ⟨q0, q1, by simpa using c0, by simpa using c1⟩
    let F : Nat → Int × Int := fun i => (intOf ((w.cell? (a.add (i * 2))).getD undef), intOf ((w.cell? (a.add (i * 2 + 1))).getD undef))
    refine ⟨(List.range len).map F, ?_, some a, cap, by simp, by simpa using hl, by simp; omega, fun hpos => ?_⟩
    · rw [flat_len prc 2 (fun _ => rfl)]
    · have hpos' : 0 < len := by simpa using hpos
      obtain ⟨x0, y0, hx0, _⟩ := key 0 hpos'
      have hsp : a.spot = none := by
        cases hs : a.spot with
        | none => rfl
        | some s =>
          have e0 : a.add (0 * 2) = a := by simp [Addr.add]
          rw [e0] at hx0
          unfold World.cell? at hx0
          split at hx0
          · rw [hs] at hx0; simp at hx0
          · cases hx0
      obtain ⟨b, off, sp⟩ := a
      simp at hsp
      subst hsp
      have hadd : ∀ k, (⟨b, off, none⟩ : Addr).add k = ⟨b, off + k, none⟩ := by
        intro k
        unfold Addr.add
        split <;> simp_all
      refine ⟨b, off, rfl, ?_, fun j u hu => ?_⟩
      · have := World.block_lt_of_cell? w _ hx0
        rw [hadd] at this
        exact this
      · have hj : j < len * 2 := by
          have := (List.getElem?_eq_some_iff.1 hu).1
          rw [flat_len prc 2 (fun _ => rfl)] at this
          simpa using this
        obtain ⟨x, y, hcx, hcy⟩ := key (j / 2) (by omega)
        have h2 := flat_get prc 2 (fun _ => rfl) ((List.range len).map F) (j / 2) (j % 2) (by simp; omega) (by omega)
        rw [show j / 2 * 2 + j % 2 = j by omega, hu] at h2
        rw [hadd] at hcx hcy
        have hF : F (j / 2) = (x, y) := by
          show (intOf ((w.cell? ((⟨b, off, none⟩ : Addr).add (j / 2 * 2))).getD undef), intOf ((w.cell? ((⟨b, off, none⟩ : Addr).add (j / 2 * 2 + 1))).getD undef)) = _
          rw [hadd, hadd, hcx, hcy]; rfl
        have : j % 2 = 0 ∨ j % 2 = 1 := by omega
        rcases this with h | h
        · rw [h] at h2
          simp only [List.getElem_map, List.getElem_range, hF, prc, List.getElem?_cons_zero] at h2
          rw [h2, show off + j = off + j / 2 * 2 by omega]
          exact hcx
        · rw [h] at h2
          simp only [List.getElem_map, List.getElem_range, hF, prc, List.getElem?_cons_succ, List.getElem?_cons_zero] at h2
          rw [h2, show off + j = off + (j / 2 * 2 + 1) by omega]
          exact hcy
end
section
variable {H : Type} {enc : TypeId × Value → H} {w : World} {base : Nat} {spare : Nat → Bool} {held : Bool}
end
end Go.Proofs.YtnjcpljhmhdhkaaGreat

namespace Go.Proofs.YtnjcpljhmhdhkaaGreat
open Go.RowKit
def runP (a : Int) (n : Nat) : List (Int × Int) := (List.range n).map fun (i : Nat) => (a + 2 * (i : Int), a + 2 * (i : Int) + 1)
theorem runP_length (a : Int) (n : Nat) : (runP a n).length = n := by simp [runP]
def markPs (a : Int) (l : List (Int × Int)) (k : Nat) : List (Int × Int) := runP a k ++ l.drop k
theorem markPs_length (a : Int) (l : List (Int × Int)) (k : Nat) (h : k ≤ l.length) : (markPs a l k).length = l.length := by simp [markPs, runP_length]; omega
theorem markPs_zero (a : Int) (l : List (Int × Int)) : markPs a l 0 = l := by simp [markPs, runP]
theorem markPs_all (a : Int) (l : List (Int × Int)) : markPs a l l.length = runP a l.length := by simp [markPs]
theorem markPs_succ (a : Int) (l : List (Int × Int)) (k : Nat) (h : k < l.length) : markPs a l (k + 1) = (markPs a l k).set k (a + 2 * k, a + 2 * k + 1) := by
  unfold markPs runP
  rw [List.range_succ, List.map_append, List.set_append]
  simp only [List.map_cons, List.map_nil, List.length_map, List.length_range, Nat.lt_irrefl, if_false, Nat.sub_self, List.append_assoc, List.cons_append, List.nil_append]
  rw [List.drop_eq_getElem_cons h, List.set_cons_zero]
theorem runP_get (a : Int) (n k : Nat) (h : k < (runP a n).length) : (runP a n)[k] = (a + 2 * (k : Int), a + 2 * (k : Int) + 1) := by simp [runP]
set_option maxHeartbeats 2000000 in
theorem markNodeS_any (base : Nat) (v : Value) (l : List (Int × Int)) (a : Int) (w : World) (h : OwnP 106 base w v l) (ha : 0 ≤ a) (hb : a + 2 * l.length ≤ 1000000000000) :
    Calls Tryz.prog 231 #[v, .int .i64 a] w fun e w' => e = .returned (.int .i64 (a + 2 * l.length)) ∧ OwnP 106 base w' v (runP a l.length) ∧ w.grownBy w' v.ownBlock := by
  rcases hcase : h.2 with ⟨rfl, hn⟩ | ⟨g, cap, cur, rfl, hbg, hh, hnc, hcm, hsz, hxs⟩
  · have hz : l = [] := List.eq_nil_of_length_eq_zero hn
    subst hz
    clear hcase hn hb
    go_enter Tryz.func231, Tryz.ntmps231
    go_wp2
    go_loop [1, 5] (fun x i => i = .int .i64 0 ∧ x = .int .i64 a) (fun _ _ => 0)
    case atStart => exact ⟨rfl, rfl⟩
    case round =>
      obtain ⟨rfl, rfl⟩ := hrel
      go_wp2
      go_ret
      exact ⟨by simp, OwnP.nil _ _ _, World.grownBy.refl _ _⟩
  · clear hcase hh hxs hsz
    have hml : l.length ≤ 1000000000000 := by omega
    have h0 : OwnP 106 base w (.slice (some ⟨g, 0, none⟩) l.length cap) (markPs a l 0) := by rw [markPs_zero]; exact h
    clear h
    go_enter Tryz.func231, Tryz.ntmps231
    go_wp2
    go_loopw [1, 5] (fun x i wr => ∃ k : Nat, k ≤ l.length ∧ i = .int .i64 k ∧ x = .int .i64 (a + 2 * k) ∧ OwnP 106 base wr (.slice (some ⟨g, 0, none⟩) l.length cap) (markPs a l k) ∧ w.grownBy wr (some g)) (fun _ i _ => l.length - (intOf i).toNat)
    case atStart => exact ⟨0, Nat.zero_le _, rfl, by simp, h0, World.grownBy.refl _ _⟩
    case round =>
      obtain ⟨k, hk, rfl, rfl, ho, hg⟩ := hrel
      clear h0
      have hml2 := markPs_length a l k hk
      by_cases hlt : k < l.length
      · have s4 := ho.set_ (q := k) (by omega) (a + 2 * k) (a + 2 * k + 1)
        rw [← markPs_succ a l k hlt] at s4
        have HS := Lib.hid s4
        have HG := Lib.hid (grownBy_set (grownBy_set hg (k * 2) (.int .i64 (a + 2 * k))) (k * 2 + 1) (.int .i64 (a + 2 * k + 1)))
        have xx := ho.cell (q := k) (by omega)
        obtain ⟨z0, x0⟩ : ∃ z, wr.cell? ⟨g, k * 2, none⟩ = some z := ⟨_, xx.1⟩
        obtain ⟨z1, x1⟩ : ∃ z, wr.cell? ⟨g, k * 2 + 1, none⟩ = some z := ⟨_, xx.2⟩
        have f0 := ho.frz (k * 2)
        have f1 := ho.frz (k * 2 + 1)
        clear s4 xx ho hg hml2
        go_wp2
        go_roundw
        case rel => exact ⟨k + 1, by omega, by go_num, by go_num, HS.out, HG.out⟩
        case measure => simp [intOf]; omega
      · have hkk : k = l.length := by omega
        subst hkk
        rw [markPs_all] at ho
        clear hml2
        go_wp2
        go_ret
        exact ⟨rfl, ho, hg⟩
set_option maxHeartbeats 2000000 in
theorem markLeadS_any (base : Nat) (v : Value) (l : List (Int × Int)) (a : Int) (w : World) (h : OwnP 108 base w v l) (ha : 0 ≤ a) (hb : a + 2 * l.length ≤ 1000000000000) :
    Calls Tryz.prog 232 #[v, .int .i64 a] w fun e w' => e = .returned (.int .i64 (a + 2 * l.length)) ∧ OwnP 108 base w' v (runP a l.length) ∧ w.grownBy w' v.ownBlock := by
  rcases hcase : h.2 with ⟨rfl, hn⟩ | ⟨g, cap, cur, rfl, hbg, hh, hnc, hcm, hsz, hxs⟩
  · have hz : l = [] := List.eq_nil_of_length_eq_zero hn
    subst hz
    clear hcase hn hb
    go_enter Tryz.func232, Tryz.ntmps232
    go_wp2
    go_loop [1, 5] (fun x i => i = .int .i64 0 ∧ x = .int .i64 a) (fun _ _ => 0)
    case atStart => exact ⟨rfl, rfl⟩
    case round =>
      obtain ⟨rfl, rfl⟩ := hrel
      go_wp2
      go_ret
      exact ⟨by simp, OwnP.nil _ _ _, World.grownBy.refl _ _⟩
  · clear hcase hh hxs hsz
    have hml : l.length ≤ 1000000000000 := by omega
    have h0 : OwnP 108 base w (.slice (some ⟨g, 0, none⟩) l.length cap) (markPs a l 0) := by rw [markPs_zero]; exact h
    clear h
    go_enter Tryz.func232, Tryz.ntmps232
    go_wp2
    go_loopw [1, 5] (fun x i wr => ∃ k : Nat, k ≤ l.length ∧ i = .int .i64 k ∧ x = .int .i64 (a + 2 * k) ∧ OwnP 108 base wr (.slice (some ⟨g, 0, none⟩) l.length cap) (markPs a l k) ∧ w.grownBy wr (some g)) (fun _ i _ => l.length - (intOf i).toNat)
    case atStart => exact ⟨0, Nat.zero_le _, rfl, by simp, h0, World.grownBy.refl _ _⟩
    case round =>
      obtain ⟨k, hk, rfl, rfl, ho, hg⟩ := hrel
      clear h0
      have hml2 := markPs_length a l k hk
      by_cases hlt : k < l.length
      · have s4 := ho.set_ (q := k) (by omega) (a + 2 * k) (a + 2 * k + 1)
        rw [← markPs_succ a l k hlt] at s4
        have HS := Lib.hid s4
        have HG := Lib.hid (grownBy_set (grownBy_set hg (k * 2) (.int .i64 (a + 2 * k))) (k * 2 + 1) (.int .i64 (a + 2 * k + 1)))
        have xx := ho.cell (q := k) (by omega)
        obtain ⟨z0, x0⟩ : ∃ z, wr.cell? ⟨g, k * 2, none⟩ = some z := ⟨_, xx.1⟩
        obtain ⟨z1, x1⟩ : ∃ z, wr.cell? ⟨g, k * 2 + 1, none⟩ = some z := ⟨_, xx.2⟩
        have f0 := ho.frz (k * 2)
        have f1 := ho.frz (k * 2 + 1)
        clear s4 xx ho hg hml2
        go_wp2
        go_roundw
        case rel => exact ⟨k + 1, by omega, by go_num, by go_num, HS.out, HG.out⟩
        case measure => simp [intOf]; omega
      · have hkk : k = l.length := by omega
        subst hkk
        rw [markPs_all] at ho
        clear hml2
        go_wp2
        go_ret
        exact ⟨rfl, ho, hg⟩
set_option maxHeartbeats 2000000 in
theorem heldNodeS_ok (v : Value) (n : Nat) (a : Int) (w : World) (h : RP w v (runP a n)) (ha : 0 ≤ a) (hb : a + 2 * n ≤ 1000000000000) :
    Calls Tryz.prog 233 #[v, .int .i64 a] w fun e w' => e = .returned (.int .i64 (a + 2 * n)) ∧ w = w' := by
  obtain ⟨A, c, rfl, hc, hm, hcell⟩ := h.form
  clear h
  rw [runP_length] at hc hm
  have hcell' : 0 < n → ∃ b off, A = some ⟨b, off, none⟩ ∧ b < w.heap.size ∧ ∀ k (hk : k < n), w.cell? ⟨b, off + k * 2, none⟩ = some (.int .i64 (a + 2 * (k : Int))) ∧ w.cell? ⟨b, off + k * 2 + 1, none⟩ = some (.int .i64 (a + 2 * (k : Int) + 1)) := by
    intro hn
    obtain ⟨b, off, h1, h2, h3⟩ := hcell (by rw [runP_length]; exact hn)
    refine ⟨b, off, h1, h2, fun k hk => ?_⟩
    have := h3 k (by rw [runP_length]; exact hk)
    rw [runP_get] at this
    exact this
  rw [runP_length]
  clear hcell
  go_enter Tryz.func233, Tryz.ntmps233
  go_wp2
  go_loop [1, 5] (fun x i => ∃ k : Nat, k ≤ n ∧ i = .int .i64 k ∧ x = .int .i64 (a + 2 * k)) (fun _ i => n - (intOf i).toNat)
  case atStart => exact ⟨0, Nat.zero_le _, rfl, by simp⟩
  case round =>
    obtain ⟨k, hk, rfl, rfl⟩ := hrel
    by_cases hlt : k < n
    · obtain ⟨b, off, rfl, hbb, hcl⟩ := hcell' (by omega)
      obtain ⟨q0, q1⟩ := hcl k hlt
      clear hcl hcell'
      go_wp2
      go_round
      case rel => exact ⟨k + 1, by omega, by go_num, by go_num⟩
      case measure => simp [intOf]; omega
    · have hkk : k = n := by omega
      subst hkk
      clear hcell'
      go_wp2
      go_ret
      exact ⟨rfl, rfl⟩
set_option maxHeartbeats 2000000 in
theorem heldLeadS_ok (v : Value) (n : Nat) (a : Int) (w : World) (h : RP w v (runP a n)) (ha : 0 ≤ a) (hb : a + 2 * n ≤ 1000000000000) :
    Calls Tryz.prog 234 #[v, .int .i64 a] w fun e w' => e = .returned (.int .i64 (a + 2 * n)) ∧ w = w' := by
  obtain ⟨A, c, rfl, hc, hm, hcell⟩ := h.form
  clear h
  rw [runP_length] at hc hm
  have hcell' : 0 < n → ∃ b off, A = some ⟨b, off, none⟩ ∧ b < w.heap.size ∧ ∀ k (hk : k < n), w.cell? ⟨b, off + k * 2, none⟩ = some (.int .i64 (a + 2 * (k : Int))) ∧ w.cell? ⟨b, off + k * 2 + 1, none⟩ = some (.int .i64 (a + 2 * (k : Int) + 1)) := by
    intro hn
    obtain ⟨b, off, h1, h2, h3⟩ := hcell (by rw [runP_length]; exact hn)
    refine ⟨b, off, h1, h2, fun k hk => ?_⟩
    have := h3 k (by rw [runP_length]; exact hk)
    rw [runP_get] at this
    exact this
  rw [runP_length]
  clear hcell
  go_enter Tryz.func234, Tryz.ntmps234
  go_wp2
  go_loop [1, 5] (fun x i => ∃ k : Nat, k ≤ n ∧ i = .int .i64 k ∧ x = .int .i64 (a + 2 * k)) (fun _ i => n - (intOf i).toNat)
  case atStart => exact ⟨0, Nat.zero_le _, rfl, by simp⟩
  case round =>
    obtain ⟨k, hk, rfl, rfl⟩ := hrel
    by_cases hlt : k < n
    · obtain ⟨b, off, rfl, hbb, hcl⟩ := hcell' (by omega)
      obtain ⟨q0, q1⟩ := hcl k hlt
      clear hcl hcell'
      go_wp2
      go_round
      case rel => exact ⟨k + 1, by omega, by go_num, by go_num⟩
      case measure => simp [intOf]; omega
    · have hkk : k = n := by omega
      subst hkk
      clear hcell'
      go_wp2
      go_ret
      exact ⟨rfl, rfl⟩
structure Turns (S : Nat → Prop) (w w' : World) : Prop where
  os : w'.os = w.os
  tape : w'.tape = w.tape
  output : w'.output = w.output
  size : w.heap.size ≤ w'.heap.size
  block : ∀ i, i < w.heap.size → ¬ S i → w'.heap[i]? = w.heap[i]?
theorem Turns.ofGrown {w w' : World} {row : Option Nat} {S : Nat → Prop} (h : w.grownBy w' row) (hs : ∀ k, row = some k → S k) : Turns S w w' :=
  ⟨h.os, h.tape, h.output, h.size, fun i hi hn => h.block i hi (fun e => hn (hs i e.symm))⟩
theorem Turns.ofBelow {w w' : World} {S : Nat → Prop} (h : Below w.heap.size w w') : Turns S w w' := ⟨h.os, h.tape, h.output, h.size, fun i hi _ => h.block i hi⟩
theorem Turns.trans {a b c : World} {S : Nat → Prop} (h : Turns S a b) (k : Turns S b c) : Turns S a c :=
  ⟨k.os.trans h.os, k.tape.trans h.tape, k.output.trans h.output, Nat.le_trans h.size k.size, fun i hi hn => (k.block i (Nat.lt_of_lt_of_le hi h.size) hn).trans (h.block i hi hn)⟩
theorem Turns.mono {a b : World} {S S' : Nat → Prop} (h : Turns S a b) (hs : ∀ k, S k → S' k) : Turns S' a b := ⟨h.os, h.tape, h.output, h.size, fun i hi hn => h.block i hi (fun e => hn (hs i e))⟩
theorem Turns.below {a b : World} {S : Nat → Prop} {B : Nat} (h : Turns S a b) (hs : ∀ k, S k → B ≤ k) (hB : B ≤ a.heap.size) : Below B a b :=
  ⟨h.os, h.tape, h.output, h.size, fun i hi => h.block i (by omega) (fun e => by have := hs i e; omega)⟩
theorem Turns.refl (S : Nat → Prop) (w : World) : Turns S w w := ⟨rfl, rfl, rfl, Nat.le_refl _, fun _ _ _ => rfl⟩
theorem own_turned {base : Nat} {w w' : World} {e : TypeId} {size : Nat} {v : Value} {n : Nat} {xs : List Value} {S : Nat → Prop} (h : w.ownsRow base e size v n xs) (hb : Turns S w w') (hs : ∀ k, v.ownBlock = some k → ¬ S k) :
    w'.ownsRow base e size v n xs := by
  obtain ⟨h1, h2⟩ := h
  refine ⟨h1, ?_⟩
  rcases h2 with ⟨rfl, hn⟩ | ⟨g, cap, cur, rfl, e1, hh, r⟩
  · exact .inl ⟨rfl, hn⟩
  · refine .inr ⟨g, cap, cur, rfl, e1, ?_, r⟩
    have hlt : g < w.heap.size := by
      rcases Nat.lt_or_ge g w.heap.size with hlt | hge
      · exact hlt
      · rw [Array.getElem?_eq_none hge] at hh; cases hh
    rw [hb.block g hlt (hs g rfl)]
    exact hh
theorem OwnP.turned {t : TypeId} {base : Nat} {w w' : World} {v : Value} {l : List (Int × Int)} {S : Nat → Prop} (h : OwnP t base w v l) (hb : Turns S w w') (hs : ∀ k, v.ownBlock = some k → ¬ S k) : OwnP t base w' v l := own_turned h hb hs
end Go.Proofs.YtnjcpljhmhdhkaaGreat

namespace Go.Proofs.YtnjcpljhmhdhkaaGreat
open Go.RowKit
theorem Blk.turned {w w' : World} {g : Nat} {t : TypeId} {cs : Array Value} {S : Nat → Prop} (h : Blk w g t cs) (hb : Turns S w w') (hn : ¬ S g) : Blk w' g t cs := (hb.block g h.lt hn).trans h
def blksW (vn vl : Value) (k : Nat) : Prop := vn.ownBlock = some k ∨ vl.ownBlock = some k
theorem OwnW.turned {base : Nat} {w w' : World} {vn vl : Value} {ns ls : List (Int × Int)} {S : Nat → Prop} (h : OwnW base w vn vl ns ls) (hb : Turns S w w') (hs : ∀ k, blksW vn vl k → ¬ S k) : OwnW base w' vn vl ns ls :=
  ⟨h.1.turned hb (fun k hk => hs k (.inl hk)), h.2.1.turned hb (fun k hk => hs k (.inr hk)), h.2.2⟩
theorem OwnW.lt {base : Nat} {w : World} {vn vl : Value} {ns ls : List (Int × Int)} (h : OwnW base w vn vl ns ls) (k : Nat) (hk : blksW vn vl k) : base ≤ k ∧ k < w.heap.size := by
  rcases hk with hk | hk
  · exact h.1.lt k hk
  · exact h.2.1.lt k hk
set_option maxHeartbeats 2000000 in
set_option maxRecDepth 100000 in
theorem markWindow_any (base : Nat) (vn vl : Value) (ns ls : List (Int × Int)) (a : Int) (w : World) (h : OwnW base w vn vl ns ls) (ha : 0 ≤ a) (hb : a + 2 * ns.length + 2 * ls.length ≤ 1000000000000) :
    Calls Tryz.prog 175 #[.agg #[vn, vl], .int .i64 a] w fun e w' => e = .returned (.int .i64 (a + 2 * ns.length + 2 * ls.length)) ∧ OwnW base w' vn vl (runP a ns.length) (runP (a + 2 * ns.length) ls.length) ∧ Turns (blksW vn vl) w w' := by
  have hlt := h.lt
  have T0 : ∀ w' : World, Below w.heap.size w w' → Turns (blksW vn vl) w w' := fun w' h => Turns.ofBelow h
  go_enter Tryz.func175, Tryz.ntmps175
  go_wp2_with fail
  refine (markNodeS_any base vn ns a _ (h.1.kept (by exact bel_)) ha (by omega)).mono ?_
  rintro e w1 ⟨rfl, ho1, hg1⟩
  have hz1 := hg1.size
  have t1 : Turns (blksW vn vl) w w1 := Turns.trans (T0 _ (by exact bel_)) (Turns.ofGrown hg1 (fun k hk => .inl hk))
  have B0 : Blk (w.alloc (.cells #[vn, vl] 27)) w.heap.size 27 #[vn, vl] := Blk.newAt rfl
  have hV1 : Blk w1 w.heap.size 27 #[vn, vl] := Blk.turned B0 (Turns.ofGrown (S := blksW vn vl) hg1 (fun k hk => .inl hk)) (fun hk => by have := (hlt _ hk).2; omega)
  obtain ⟨q_0, q_1⟩ := hV1.c2
  simp at hz1
  have n1 : w.heap.size < w1.heap.size := by omega
  have l1 : OwnP 108 base w1 vl ls := h.2.1.turned (S := fun k => vn.ownBlock = some k) (Turns.trans (Turns.ofBelow (by exact bel_)) (Turns.ofGrown hg1 (fun k hk => hk))) (fun k hk hk' => h.2.2 k hk' hk)
  clear hg1 B0
  go_wp2_with fail
  refine (markLeadS_any base vl ls (a + 2 * ns.length) _ l1 (by omega) (by omega)).mono ?_
  rintro e w2 ⟨rfl, ho2, hg2⟩
  have t2 : Turns (blksW vn vl) w w2 := Turns.trans t1 (Turns.ofGrown hg2 (fun k hk => .inr hk))
  have o2 : OwnP 106 base w2 vn (runP a ns.length) := ho1.turned (S := fun k => vl.ownBlock = some k) (Turns.ofGrown hg2 (fun k hk => hk)) (fun k hk hk' => h.2.2 k hk hk')
  go_wp2
  go_ret
  exact ⟨rfl, ⟨o2, ho2, h.2.2⟩, t2⟩
set_option maxHeartbeats 2000000 in
set_option maxRecDepth 100000 in
theorem heldWindow_ok (vn vl : Value) (n m : Nat) (a : Int) (w : World) (hn : RP w vn (runP a n)) (hl : RP w vl (runP (a + 2 * n) m)) (ha : 0 ≤ a) (hb : a + 2 * n + 2 * m ≤ 1000000000000) :
    Calls Tryz.prog 177 #[.agg #[vn, vl], .int .i64 a] w fun e w' => e = .returned (.int .i64 (a + 2 * n + 2 * m)) ∧ Below w.heap.size w w' := by
  have e1 : ¬ a + 2 * (n : Int) < 0 := by omega
  have e2 : ¬ a + 2 * (n : Int) + 2 * (m : Int) < 0 := by omega
  go_enter Tryz.func177, Tryz.ntmps177
  go_wp2_with fail
  refine (heldNodeS_ok vn n a _ (hn.below (by exact bel_)) ha (by omega)).mono ?_
  rintro e w' ⟨rfl, rfl⟩
  go_wp2_with fail
  refine (heldLeadS_ok vl m (a + 2 * n) _ (hl.below (by exact bel_)) (by omega) (by omega)).mono ?_
  rintro e w' ⟨rfl, rfl⟩
  go_wp2
  go_ret
  exact ⟨rfl, by exact bel_⟩
end Go.Proofs.YtnjcpljhmhdhkaaGreat
