/-
  At a node of a valid window there are at most twelve darts: plain.
-/
import Derived.Test.YtoknmjpnelbplaaGreatDr
import Derived.Test.YtoknmjpnelbplaaGreatDok
import Derived.Deep.RegionHeld3
import Derived.Test.YtoknmjpnelbplaaGreatSmall
import Derived.Deep.QuietTactic
import Derived.BigQuiet
import Derived.Test.YtoknmjpnelbplaaGreatBlk
import Derived.Test.YtoknmjpnelbplaaGreatLaw
import Derived.Deep.Slices
import Derived.Deep.Fields
import Derived.ChangeSame
import Derived.OwnWalk
import Derived.StillTailTactics
import Derived.Test.YtoknmjpnelbplaaGreatOwn
import Derived.Test.YtoknmjpnelbplaaGreatMarkI
import Derived.Test.YtoknmjpnelbplaaGreatEqI
import Derived.Test.YtoknmjpnelbplaaGreatDeg
import Derived.Test.YtoknmjpnelbplaaGreatBase
import Derived.Test.YtoknmjpnelbplaaGreatProg
import Derived.Lib.Small
import Derived.Lib.Walk
import Derived.Lib.BitFns
import Derived.Lib.Strings
import Derived.Test.YtoknmjpnelbplaaGreatArdS
import Derived.Test.YtoknmjpnelbplaaGreatQG
import Derived.Shelf.Abstract
import Derived.BigRegion
import Derived.Test.YtoknmjpnelbplaaGreatLast
import Derived.Test.YtoknmjpnelbplaaGreatWinP
set_option linter.unusedSimpArgs false
set_option linter.unusedVariables false
namespace Go.Proofs.YtoknmjpnelbplaaGreat
open Go.RowKit

theorem OwnD.mono {base base' : Nat} {w : World} {a b c d e : Value} {D : Dr} {fs : List SF} (h : OwnD base w a b c d e D fs) (hb : base' ≤ base) : OwnD base' w a b c d e D fs :=
  ⟨h.first.mono hb, h.now.mono hb, h.ss.mono hb, h.map, h.f_n, h.f_s, h.n_s⟩

end Go.Proofs.YtoknmjpnelbplaaGreat

namespace Go.Proofs.YtoknmjpnelbplaaGreat
open Go.RowKit





end Go.Proofs.YtoknmjpnelbplaaGreat

namespace Go.Proofs.YtoknmjpnelbplaaGreat
open Go.RowKit

/-- A recipe. -/
structure Rc where
  s : Int
  a : Int
  l : Int
  m : Int

end Go.Proofs.YtoknmjpnelbplaaGreat

namespace Go.Proofs.YtoknmjpnelbplaaGreat
open Go.ChangeShapes Go.WideShapes Go.Deep Go.RowKit
section
variable {H : Type} {enc : TypeId × Value → H} {P : Program} {w : World} {base : Nat} {spare : Nat → Bool} {held : Bool}
theorem open_slice_fields {t e : TypeId} {fs : Array Field} {fuel : Nat} {cs : List Value} {x : DataW H × List MemPlace} (ht : P.underlying t = some (.slice e)) (he : P.underlying e = some (.struct fs))
    (hone : oneCellFields P fs = true) (hC : P.cellsOf e = fs.size) (h : DataW.trod enc P w base spare held fuel t cs = some x) :
    (cs = [.slice none 0 0] ∧ x = (.nil, [])) ∨
    ∃ (a : Addr) (len cap m : Nat) (D : Nat → DataW H) (Pl : Nat → List MemPlace), cs = [.slice (some a) len cap] ∧ base ≤ a.block ∧ len ≤ cap ∧ cap ≤ maxLen ∧ m = (if spare a.block then cap else len) ∧
      x = (.slice ((List.range len).map D) ((List.range (m - len)).map fun j => D (len + j)), MemPlace.row a (m * fs.size) ++ (List.range m).flatMap Pl) ∧
      ∀ i, i < m → ∃ (ys : List (DataW H × List MemPlace)) (n : Nat), D i = .agg (ys.map (·.1)) ∧ Pl i = ys.flatMap (·.2) ∧ ys.length = fs.size ∧
        ∀ (j : Nat) (f : Field), fs[j]? = some f → ∃ (v : Value) (y : DataW H × List MemPlace), w.cell? (a.add (i * fs.size + j)) = some v ∧ ys[j]? = some y ∧ DataW.trod enc P w base spare held n f.type [v] = some y := by
  rcases open_slice ht h with h0 | ⟨a, len, cap, m, n, D, Pl, hcs, hb, hl, hm, hmm, hx, hi⟩
  · exact .inl h0
  · refine .inr ⟨a, len, cap, m, D, Pl, hcs, hb, hl, hm, hmm, by rw [hC] at hx; exact hx, fun i him => ?_⟩
    obtain ⟨cs', hc, ht'⟩ := hi i him
    rw [hC] at hc
    obtain ⟨ys, n', hn', hy, hlen, hyl, hf⟩ := DataW.trod_struct he ht'
    obtain ⟨_, hcl, hat⟩ := World.cells?_some hc
    simp only [Prod.mk.injEq] at hy
    refine ⟨ys, n', hy.1, hy.2, hyl, fun j f hj => ?_⟩
    obtain ⟨ho, hk⟩ := hone_of hone j f hj
    have hjl : j < fs.size := (Array.getElem?_eq_some_iff.1 hj).1
    have hcell := hat j hjl
    have hv : cs'[j]? = some (cs'[j]'(by omega)) := List.getElem?_eq_getElem (by omega)
    have h1 := hf j f hj
    rw [ho, hk] at h1
    have hone' : (cs'.drop j).take 1 = [cs'[j]'(by omega)] := by
      rw [List.drop_eq_getElem_cons (by omega)]
      rfl
    rw [hone'] at h1
    have hys : ys[j]? = some (ys[j]'(by omega)) := List.getElem?_eq_getElem (by omega)
    refine ⟨_, _, ?_, hys, h1.trans hys⟩
    rw [← Go.Deep.add_add, hcell, hv]

/-- A slice of structs of ints: its cells are ints. -/
theorem open_rows {t e : TypeId} {fs : Array Field} {fuel : Nat} {A : Option Addr} {len cap : Nat} {x : DataW H × List MemPlace} (ht : P.underlying t = some (.slice e)) (he : P.underlying e = some (.struct fs))
    (hone : oneCellFields P fs = true) (hC : P.cellsOf e = fs.size) (hfs : 0 < fs.size) (hint : ∀ (j : Nat) (f : Field), fs[j]? = some f → P.underlying f.type = some (.int .i64))
    (h : DataW.trod enc P w base spare held fuel t [.slice A len cap] = some x) :
    ∃ f : Nat → Int, len ≤ cap ∧ len ≤ maxLen ∧ (0 < len → ∃ b off, A = some ⟨b, off, none⟩ ∧ b < w.heap.size ∧ ∀ i j, i < len → j < fs.size → w.cell? ⟨b, off + (i * fs.size + j), none⟩ = some (.int .i64 (f (i * fs.size + j)))) := by
  rcases open_slice_fields ht he hone hC h with ⟨hcs, _⟩ | ⟨a, len', cap', m, D, Pl, hcs, hb, hl, hm, hmm, hx, hi⟩
  · simp only [List.cons.injEq, Value.slice.injEq, and_true] at hcs
    obtain ⟨rfl, rfl, rfl⟩ := hcs
    exact ⟨fun _ => 0, Nat.le_refl _, by simp [maxLen], fun h => absurd h (by omega)⟩
  · simp only [List.cons.injEq, Value.slice.injEq, and_true] at hcs
    obtain ⟨rfl, rfl, rfl⟩ := hcs
    refine ⟨fun j => intOf ((w.cell? (a.add j)).getD undef), hl, by omega, fun hpos => ?_⟩
    have hlm : len ≤ m := by rw [hmm]; split <;> omega
    have key : ∀ i j, i < len → j < fs.size → ∃ n : Int, w.cell? (a.add (i * fs.size + j)) = some (.int .i64 n) := by
      intro i j hil hj
      obtain ⟨ys, n, _, _, _, hf⟩ := hi i (by omega)
      obtain ⟨v, y, hcell, _, hty⟩ := hf j fs[j] (Array.getElem?_eq_getElem hj)
      obtain ⟨q, e0, _, _⟩ := DataW.trod_int (hint j fs[j] (Array.getElem?_eq_getElem hj)) hty
      simp at e0
      subst e0
      exact ⟨q, hcell⟩
    · obtain ⟨n0, hn0⟩ := key 0 0 hpos hfs
      have hsp : a.spot = none := by
        cases hs : a.spot with
        | none => rfl
        | some s =>
          have e0 : a.add (0 * fs.size + 0) = a := by simp [Addr.add]
          rw [e0] at hn0
          unfold World.cell? at hn0
          split at hn0
          · rw [hs] at hn0; simp at hn0
          · cases hn0
      obtain ⟨b, off, sp⟩ := a
      simp at hsp
      subst hsp
      have hadd : ∀ k, (⟨b, off, none⟩ : Addr).add k = ⟨b, off + k, none⟩ := by
        intro k
        unfold Addr.add
        split <;> simp_all
      refine ⟨b, off, rfl, ?_, fun i j hil hj => ?_⟩
      · have := World.block_lt_of_cell? w _ hn0
        rw [hadd] at this
        exact this
      · obtain ⟨n, hn⟩ := key i j hil hj
        rw [hadd] at hn
        rw [hn]
        simp only [hadd, hn]
        rfl
end

end Go.Proofs.YtoknmjpnelbplaaGreat

namespace Go.Proofs.YtoknmjpnelbplaaGreat
open Go.ChangeShapes Go.WideShapes Go.RowKit

/-- A deposit: place, crate, day. -/
structure Dp where
  k : Int
  a : Int
  b : Int

def Dp.cs (r : Dp) : List Value := [.int .i64 r.k, .int .i64 r.a, .int .i64 r.b]

/-- v reads as the list of deposits. -/
def RDp (w : World) (v : Value) (l : List Dp) : Prop := RS w 3 v l.length (l.flatMap Dp.cs)

theorem RDp.below {w w' : World} {v : Value} {l : List Dp} (h : RDp w v l) (hb : Below w.heap.size w w') : RDp w' v l := RS.below h hb

theorem RDp.form {w : World} {v : Value} {l : List Dp} (h : RDp w v l) : ∃ A c, v = .slice A l.length c ∧ l.length ≤ c ∧ l.length ≤ maxLen ∧
    (0 < l.length → ∃ b off, A = some ⟨b, off, none⟩ ∧ b < w.heap.size ∧ ∀ k (hk : k < l.length), w.cell? ⟨b, off + k * 3, none⟩ = some (.int .i64 l[k].k) ∧ w.cell? ⟨b, off + k * 3 + 1, none⟩ = some (.int .i64 l[k].a) ∧
      w.cell? ⟨b, off + k * 3 + 2, none⟩ = some (.int .i64 l[k].b)) := by
  obtain ⟨_, A, c, hv, h1, h2, h3⟩ := h
  refine ⟨A, c, hv, h1, h2, fun hn => ?_⟩
  obtain ⟨b, off, hA, hlt, hc⟩ := h3 hn
  refine ⟨b, off, hA, hlt, fun k hk => ?_⟩
  have g := fun j hj => flat_get Dp.cs 3 (fun _ => rfl) l k j hk hj
  refine ⟨?_, ?_, ?_⟩
  · exact hc (k * 3 + 0) _ (by rw [g 0 (by omega)]; rfl)
  · have := hc (k * 3 + 1) _ (by rw [g 1 (by omega)]; rfl); rwa [← Nat.add_assoc] at this
  · have := hc (k * 3 + 2) _ (by rw [g 2 (by omega)]; rfl); rwa [← Nat.add_assoc] at this

set_option maxHeartbeats 400000 in
theorem toDep_any (k a b : Int) (w : World) :
    Calls Tryz.prog 124 #[.agg #[.int .i64 k, .int .i64 a, .int .i64 b]] w fun e w' => e = .returned (.agg #[.int .i64 k, .int .i64 a, .int .i64 b]) ∧ Below w.heap.size w w' := by
  go_enter Tryz.func124, Tryz.ntmps124
  go_wp2
  exact bodyPost_ret (v := .agg #[.int .i64 k, .int .i64 a, .int .i64 b]) (by simp [results, Tryz.results124, go_sem]) rfl ⟨rfl, by (repeat (first | exact Below.refl _ _ | assumption | refine Below.drew ?_ | refine below_drewN ?_ _ | refine Below.alloc ?_ (by first | omega | (simp; done) | (simp; omega)) _ | refine Below.setCell ?_ (by first | omega | (simp; done) | (simp; omega)) _ | refine Below.step (by assumption) ?_ (by first | omega | (simp; done) | (simp; omega)) | refine Below.mark (by assumption) (by assumption) ?_ (by first | omega | (simp; done) | (simp; omega)) (by first | omega | (simp; done) | (simp; omega))))⟩

section
variable {H : Type} {enc : TypeId × Value → H} {w : World} {base : Nat} {spare : Nat → Bool} {held : Bool}
set_option maxRecDepth 100000 in
/-- A list of deposits that came in. -/
theorem deps_of_trod {n : Nat} {A : Option Addr} {len cap : Nat} {x : DataW H × List MemPlace} (hf : DataW.trod enc Tryz.prog w base spare held n 30 [.slice A len cap] = some x) :
    ∃ l : List Dp, RDp w (.slice A len cap) l := by
  obtain ⟨f, hlc, hm, hc⟩ := open_rows Tryz.underlying30 Tryz.underlying136 (by kernel_rfl) (by kernel_rfl) (by decide) (fun j g hj => by
    match j, hj with
    | 0, hj => cases hj; exact Tryz.underlying3
    | 1, hj => cases hj; exact Tryz.underlying3
    | 2, hj => cases hj; exact Tryz.underlying3
    | j + 3, hj => simp at hj) (by simpa [Value.cells] using hf)
  refine ⟨(List.range len).map fun i => ⟨f (i * 3 + 0), f (i * 3 + 1), f (i * 3 + 2)⟩, ?_, A, cap, by simp, by simpa using hlc, by simpa using hm, fun hpos => ?_⟩
  · rw [flat_len Dp.cs 3 (fun _ => rfl)]
  · obtain ⟨b, off, hA, hb, hcell⟩ := hc (by simpa using hpos)
    refine ⟨b, off, hA, hb, fun j u hu => ?_⟩
    have hj : j < len * 3 := by
      have := (List.getElem?_eq_some_iff.1 hu).1
      rw [flat_len Dp.cs 3 (fun _ => rfl)] at this
      simpa using this
    have hq : j / 3 < len := by omega
    have hr : j % 3 < 3 := by omega
    have e : j / 3 * 3 + j % 3 = j := by omega
    have h1 := hcell (j / 3) (j % 3) hq hr
    have h2 := flat_get Dp.cs 3 (fun _ => rfl) ((List.range len).map fun i => (⟨f (i * 3 + 0), f (i * 3 + 1), f (i * 3 + 2)⟩ : Dp)) (j / 3) (j % 3) (by simpa using hq) hr
    rw [e, hu] at h2
    show w.cell? ⟨b, off + j, none⟩ = some u
    have e' : off + j = off + (j / 3 * 3 + j % 3) := by omega
    rw [e', h2]
    refine Eq.trans h1 ?_
    have : j % 3 = 0 ∨ j % 3 = 1 ∨ j % 3 = 2 := by omega
    rcases this with h | h | h <;> rw [h] <;> simp [Dp.cs]
end

theorem szDepositS_any (v : Value) (l : List Dp) (n : Int) (w : World) (h : RDp w v l) (h0 : 0 ≤ n) (h1 : n ≤ 1000000000) :
    Calls Tryz.prog 58 #[v, .int .i64 n] w fun e w' => e = .returned (.int .i64 (szF n l.length)) ∧ w = w' := by
  obtain ⟨A, c, rfl, hc, hm, hcell⟩ := h.form
  unfold maxLen at hm
  clear h hcell
  by_cases hlt : n < l.length
  · have hneg : n - (l.length : Int) < 0 := by omega
    have HF : Hid (szF n l.length = -1) := Lib.hid (by unfold szF; rw [if_pos hlt])
    go_enter Tryz.func58, Tryz.ntmps58
    go_wp2
    all_goals go_ret
    all_goals exact ⟨ret_int HF.out.symm, rfl⟩
  · have hneg : ¬ n - (l.length : Int) < 0 := by omega
    have HF : Hid (szF n l.length = n - l.length) := Lib.hid (by unfold szF; rw [if_neg hlt])
    go_enter Tryz.func58, Tryz.ntmps58
    go_wp2
    all_goals go_ret
    all_goals exact ⟨ret_int HF.out.symm, rfl⟩

theorem infoDep : (Tryz.prog.info? 91).map (fun i => (i.zero, i.size, i.bytes)) = some (some (.agg #[.int .i64 0, .int .i64 0, .int .i64 0]), 3, 24) := by kernel_rfl

/-- The first k deposits, zeroes behind them. -/
def fillDp (l : List Dp) (k : Nat) : List Value := (l.take k).flatMap Dp.cs ++ List.replicate ((l.length - k) * 3) (.int .i64 0)

theorem fillDp_all (l : List Dp) : fillDp l l.length = l.flatMap Dp.cs := by simp [fillDp]

theorem fillDp_get (l : List Dp) (k j : Nat) (h : k < l.length) (hj : j < 3) : (fillDp l k)[k * 3 + j]? = some (.int .i64 0) := by
  unfold fillDp
  have hl : ((l.take k).flatMap Dp.cs).length = k * 3 := by rw [flat_len Dp.cs 3 (fun _ => rfl), List.length_take, Nat.min_eq_left (by omega)]
  rw [List.getElem?_append_right (by omega), hl, Nat.add_sub_cancel_left, List.getElem?_replicate, if_pos]
  have : 1 * 3 ≤ (l.length - k) * 3 := Nat.mul_le_mul_right _ (by omega)
  omega

theorem fillDp_succ (l : List Dp) (k : Nat) (h : k < l.length) :
    fillDp l (k + 1) = ((((fillDp l k).set (k * 3) (.int .i64 l[k].k)).set (k * 3 + 1) (.int .i64 l[k].a)).set (k * 3 + 2) (.int .i64 l[k].b)) := by
  unfold fillDp
  have hl : ((l.take k).flatMap Dp.cs).length = k * 3 := by rw [flat_len Dp.cs 3 (fun _ => rfl), List.length_take, Nat.min_eq_left (by omega)]
  have hr : (l.length - k) * 3 = (l.length - (k + 1)) * 3 + 1 + 1 + 1 := by
    have : l.length - k = (l.length - (k + 1)) + 1 := by omega
    rw [this, Nat.add_mul]
  rw [List.take_succ_eq_append_getElem h, List.flatMap_append, hr]
  have e0 : ∀ (x : List Value) (y : List Value) (n j : Nat) (u : Value), x.length = n → (x ++ y).set (n + j) u = x ++ y.set j u := by
    intro x y n j u hx
    rw [List.set_append, if_neg (by omega), hx, Nat.add_sub_cancel_left]
  rw [show k * 3 = k * 3 + 0 from rfl, e0 _ _ _ 0 _ hl, Nat.add_zero, e0 _ _ _ 1 _ hl, e0 _ _ _ 2 _ hl]
  simp [List.replicate_succ, Dp.cs]

theorem made3d (n : Nat) : (madeCells #[.int .i64 0, .int .i64 0, .int .i64 0] n).toList = List.replicate n (.int .i64 0) := by
  apply List.ext_getElem?
  intro j
  by_cases hj : j < n
  · simp only [madeCells, Array.toList_map, List.getElem?_map, Array.toList_range, List.getElem?_range hj, List.getElem?_replicate, if_pos hj, Option.map_some]
    congr 1
    have : j % 3 = 0 ∨ j % 3 = 1 ∨ j % 3 = 2 := by omega
    show #[Value.int .i64 0, .int .i64 0, .int .i64 0][j % 3]! = _
    rcases this with h | h | h <;> rw [h] <;> rfl
  · simp [madeCells, hj]

def OwnDp (base : Nat) (w : World) (v : Value) (l : List Dp) : Prop := w.ownsRow base 91 3 v l.length (l.flatMap Dp.cs)

theorem OwnDp.reads {base : Nat} {w : World} {v : Value} {l : List Dp} (h : OwnDp base w v l) : RDp w v l := own_reads h

def RetDp (l : List Dp) (w : World) (e : Ending) (w' : World) : Prop := ∃ v, e = .returned v ∧ OwnDp w.heap.size w' v l ∧ Below w.heap.size w w'

set_option maxHeartbeats 4000000 in
set_option maxRecDepth 100000 in
theorem toDepositS_any (v : Value) (l : List Dp) (w : World) (h : RDp w v l) (hle : l.length ≤ 1048576) :
    Calls Tryz.prog 67 #[v] w (RetDp l w) := by
  obtain ⟨A, c, rfl, hc, hm, hcell⟩ := h.form
  clear h hm
  obtain ⟨i0, hi, hz0, hz1, hz2⟩ := info_parts infoDep
  go_enter Tryz.func67, Tryz.ntmps67
  go_wp2_with (at_make; refine wpList_make_full _ rfl _ _ 42 rfl w.heap.size 91 i0 (.agg #[.int .i64 0, .int .i64 0, .int .i64 0]) 3 Tryz.underlying42 hi hz0 hz1 .i64 .i64 _ _ l.length rfl rfl rfl rfl (by rw [hz2]; omega) (by unfold maxLen; omega) (Nat.le_refl _) ?_)
  intro w1 hown1 hgr1
  have hb1 : Below w.heap.size w w1 := (Below.refl _ _).grown hgr1 (Nat.le_refl _) (by intro k hk; cases hk)
  have hown : w1.ownsRow w.heap.size 91 3 (.slice (some ⟨w.heap.size, 0, none⟩) l.length l.length) l.length (fillDp l 0) := by
    rw [made3d] at hown1
    simpa [fillDp] using hown1
  have hw1 : w.heap.size ≤ w1.heap.size := hb1.size
  clear hown1 hgr1 hz0 hz1 hz2 hi
  go_wp2
  go_loopw [4] (fun i wr => ∃ k : Nat, k ≤ l.length ∧ i = .int .i64 k ∧ wr.ownsRow w.heap.size 91 3 (.slice (some ⟨w.heap.size, 0, none⟩) l.length l.length) l.length (fillDp l k) ∧ Below w.heap.size w wr) (fun i _ => l.length - (intOf i).toNat)
  case atStart => exact ⟨0, Nat.zero_le _, rfl, hown, hb1⟩
  case round =>
    obtain ⟨k, hk, rfl, ho, hbl⟩ := hrel
    have hsz := hbl.size
    clear hown hb1 hw1
    by_cases hlt : k < l.length
    · obtain ⟨b, off, rfl, hb, hcl⟩ := hcell (by omega)
      obtain ⟨k0, k1, k2⟩ := hcl k hlt
      have q0 := (hbl.cell (p := ⟨b, off + k * 3, none⟩) hb).trans k0
      have q1 := (hbl.cell (p := ⟨b, off + k * 3 + 1, none⟩) hb).trans k1
      have q2 := (hbl.cell (p := ⟨b, off + k * 3 + 2, none⟩) hb).trans k2
      clear k0 k1 k2 hcl hcell
      go_wp2_with fail
      refine (toDep_any _ _ _ _).mono ?_
      rintro e w2 ⟨rfl, hb2⟩
      have ho2 := own_kept ho hb2
      have hsz2 := hb2.size
      have hbl2 : Below w.heap.size w w2 := by (repeat (first | exact Below.refl _ _ | assumption | refine Below.drew ?_ | refine below_drewN ?_ _ | refine Below.alloc ?_ (by first | omega | (simp; done) | (simp; omega)) _ | refine Below.setCell ?_ (by first | omega | (simp; done) | (simp; omega)) _ | refine Below.step (by assumption) ?_ (by first | omega | (simp; done) | (simp; omega)) | refine Below.mark (by assumption) (by assumption) ?_ (by first | omega | (simp; done) | (simp; omega)) (by first | omega | (simp; done) | (simp; omega))))
      have x0 := ho2.cellAt (k * 3 + 0) (by omega)
      have x1 := ho2.cellAt (k * 3 + 1) (by omega)
      have x2 := ho2.cellAt (k * 3 + 2) (by omega)
      have f0 := ho2.frozenAt (k * 3)
      have f1 := ho2.frozenAt (k * 3 + 1)
      have f2 := ho2.frozenAt (k * 3 + 2)
      rw [fillDp_get l k _ hlt (by omega)] at x0 x1 x2
      rw [Nat.add_zero] at x0
      have s1 := (ho2.stored (k * 3) (.int .i64 l[k].k)).1
      have s2 := (s1.stored (k * 3 + 1) (.int .i64 l[k].a)).1
      have s3 := (s2.stored (k * 3 + 2) (.int .i64 l[k].b)).1
      rw [← fillDp_succ l k hlt] at s3
      have HB := ((hbl2.setCell (p := ⟨w.heap.size, k * 3, none⟩) (Nat.le_refl _) (.int .i64 l[k].k)).setCell (p := ⟨w.heap.size, k * 3 + 1, none⟩) (Nat.le_refl _) (.int .i64 l[k].a)).setCell (p := ⟨w.heap.size, k * 3 + 2, none⟩) (Nat.le_refl _) (.int .i64 l[k].b)
      have HS := Lib.hid s3
      have HBL := Lib.hid HB
      clear s1 s2 s3 HB hbl2 ho2 ho hb2 hbl
      go_wp2
      go_roundw
      case rel => exact ⟨k + 1, by omega, by go_num, HS.out, HBL.out⟩
      case measure => simp [intOf]; omega
    · have hkk : k = l.length := by omega
      subst hkk
      rw [fillDp_all] at ho
      have HO := Lib.hid ho
      have HB := Lib.hid hbl
      clear ho hbl hcell
      go_wp2
      go_ret
      exact ⟨_, rfl, HO.out, HB.out⟩

theorem eqDep_any (a b c a' b' c' : Int) (w : World) :
    Calls Tryz.prog 134 #[.agg #[.int .i64 a, .int .i64 b, .int .i64 c], .agg #[.int .i64 a', .int .i64 b', .int .i64 c']] w
      fun e w' => e = .returned (.bool (a == a' && b == b' && c == c')) ∧ Below w.heap.size w w' := by
  go_enter Tryz.func134, Tryz.ntmps134
  go_wp2
  all_goals go_ret
  all_goals refine ⟨ret_bool ?_, by (repeat (first | exact Below.refl _ _ | assumption | refine Below.drew ?_ | refine below_drewN ?_ _ | refine Below.alloc ?_ (by first | omega | (simp; done) | (simp; omega)) _ | refine Below.setCell ?_ (by first | omega | (simp; done) | (simp; omega)) _ | refine Below.step (by assumption) ?_ (by first | omega | (simp; done) | (simp; omega)) | refine Below.mark (by assumption) (by assumption) ?_ (by first | omega | (simp; done) | (simp; omega)) (by first | omega | (simp; done) | (simp; omega))))⟩
  all_goals simp_all

theorem Dp.beq_self (r : Dp) : (r.k == r.k && r.a == r.a && r.b == r.b) = true := by simp

set_option maxHeartbeats 2000000 in
set_option maxRecDepth 100000 in
/-- Two lists that read alike are found equal. -/
theorem eqDepositS_any (v u : Value) (l : List Dp) (w : World) (hv : RDp w v l) (hu : RDp w u l) :
    Calls Tryz.prog 75 #[v, u] w fun e w' => e = .returned (.bool true) ∧ Below w.heap.size w w' := by
  obtain ⟨A, c, rfl, hc, hm, hcell⟩ := hv.form
  obtain ⟨A', c', rfl, hc', hm', hcell'⟩ := hu.form
  unfold maxLen at hm hm'
  clear hv hu
  go_enter Tryz.func75, Tryz.ntmps75
  go_wp2
  go_loopw [5] (fun i wr => ∃ k : Nat, k ≤ l.length ∧ i = .int .i64 k ∧ Below w.heap.size w wr) (fun i _ => l.length - (intOf i).toNat)
  case atStart => exact ⟨0, Nat.zero_le _, rfl, Below.refl _ _⟩
  case round =>
    obtain ⟨k, hk, rfl, hbl⟩ := hrel
    have hsz := hbl.size
    by_cases hlt : k < l.length
    · obtain ⟨b, off, rfl, hb, hcl⟩ := hcell (by omega)
      obtain ⟨k0, k1, k2⟩ := hcl k hlt
      have q0 := (hbl.cell (p := ⟨b, off + k * 3, none⟩) hb).trans k0
      have q1 := (hbl.cell (p := ⟨b, off + k * 3 + 1, none⟩) hb).trans k1
      have q2 := (hbl.cell (p := ⟨b, off + k * 3 + 2, none⟩) hb).trans k2
      obtain ⟨b', off', rfl, hb', hcl'⟩ := hcell' (by omega)
      obtain ⟨j0, j1, j2⟩ := hcl' k hlt
      have p0 := (hbl.cell (p := ⟨b', off' + k * 3, none⟩) hb').trans j0
      have p1 := (hbl.cell (p := ⟨b', off' + k * 3 + 1, none⟩) hb').trans j1
      have p2 := (hbl.cell (p := ⟨b', off' + k * 3 + 2, none⟩) hb').trans j2
      have hi1 : (0 : Int) ≤ (k : Int) := by omega
      have hi2 : (k : Int) < (l.length : Int) := by omega
      clear k0 k1 k2 hcl hcell j0 j1 j2 hcl' hcell'
      go_wp2
      go_still_tail 8, (by kernel_rfl)
      go_wp2_with fail
      refine (eqDep_any _ _ _ _ _ _ _).mono ?_
      rw [Dp.beq_self]
      rintro e w2 ⟨rfl, hb2⟩
      have hbl2 : Below w.heap.size w w2 := hbl.trans ((show Below wr.heap.size wr w2 from ⟨hb2.os, hb2.tape, hb2.output, hb2.size, hb2.block⟩).mono hsz)
      clear hb2
      go_wp2
      go_roundw
      case rel => exact ⟨k + 1, by omega, by go_num, hbl2⟩
      case measure => simp [intOf]; omega
    · go_wp2
      go_ret
      exact ⟨rfl, hbl⟩

end Go.Proofs.YtoknmjpnelbplaaGreat

namespace Go.Proofs.YtoknmjpnelbplaaGreat
open Go.RowKit

/-- The first k filled in. -/
def fillJ (zs : List Int) (k : Nat) : List Int := zs.take k ++ List.replicate (zs.length - k) 0
theorem fillJ_len (zs : List Int) (k : Nat) (h : k ≤ zs.length) : (fillJ zs k).length = zs.length := by simp [fillJ]; omega
theorem fillJ_zero (zs : List Int) : fillJ zs 0 = List.replicate zs.length 0 := by simp [fillJ]
theorem fillJ_all (zs : List Int) : fillJ zs zs.length = zs := by simp [fillJ]
theorem fillJ_succ (zs : List Int) (k : Nat) (h : k < zs.length) : (fillJ zs k).set k (zs.getD k 0) = fillJ zs (k + 1) := by
  unfold fillJ
  have e : (zs.take k).length = k := by simp; omega
  rw [List.set_append, if_neg (by omega), e, Nat.sub_self, show zs.length - k = (zs.length - (k + 1)) + 1 by omega, List.replicate_succ, List.set_cons_zero, List.take_succ_eq_append_getElem h, List.append_assoc]
  simp [List.getD, h]

theorem szIS_any (v : Value) (l : List Int) (n : Int) (w : World) (h : RI w v l) (h0 : 0 ≤ n) (h1 : n ≤ 1000000000) :
    Calls Tryz.prog 57 #[v, .int .i64 n] w fun e w' => e = .returned (.int .i64 (szF n l.length)) ∧ w = w' := by
  obtain ⟨A, c, rfl, hc, hm, hcell⟩ := h.form
  unfold maxLen at hm
  clear h hcell
  by_cases hlt : n < l.length
  · have hneg : n - (l.length : Int) < 0 := by omega
    have HF : Hid (szF n l.length = -1) := Lib.hid (by unfold szF; rw [if_pos hlt])
    go_enter Tryz.func57, Tryz.ntmps57
    go_wp2
    all_goals go_ret
    all_goals exact ⟨ret_int HF.out.symm, rfl⟩
  · have hneg : ¬ n - (l.length : Int) < 0 := by omega
    have HF : Hid (szF n l.length = n - l.length) := Lib.hid (by unfold szF; rw [if_neg hlt])
    go_enter Tryz.func57, Tryz.ntmps57
    go_wp2
    all_goals go_ret
    all_goals exact ⟨ret_int HF.out.symm, rfl⟩

set_option maxHeartbeats 4000000 in
set_option maxRecDepth 100000 in
theorem toIS_any (v : Value) (zs : List Int) (w : World) (h : RI w v zs) (hle : zs.length ≤ 1048576) :
    Calls Tryz.prog 66 #[v] w (RetI zs w) := by
  obtain ⟨A, c, rfl, hc, hm, hcell⟩ := h.form
  unfold maxLen at hm
  clear h
  obtain ⟨i0, hi, iz0, iz1, iz2⟩ := info_parts infoInt
  go_enter Tryz.func66, Tryz.ntmps66
  go_wp2_with (at_make; refine wpList_make_full _ rfl _ _ 29 rfl w.heap.size 3 i0 (.int .i64 0) 1 Tryz.underlying29 hi iz0 iz1 .i64 .i64 _ _ zs.length rfl rfl rfl rfl (by rw [iz2]; omega) (by unfold maxLen; omega) (by omega) ?_)
  intro w1 hown1 hgr1
  have hb1 : Below w.heap.size w w1 := (Below.refl _ _).grown hgr1 (Nat.le_refl _) (by intro k hk; cases hk)
  have hown : OwnI w.heap.size w1 (.slice (some ⟨w.heap.size, 0, none⟩) zs.length zs.length) (fillJ zs 0) := by
    have e : ∀ n : Nat, (madeCells #[.int .i64 0] n).toList = (List.replicate n (0 : Int)).map vI := by
      intro n
      apply List.ext_getElem?
      intro j
      by_cases hj : j < n
      · simp only [madeCells, Array.toList_map, List.getElem?_map, Array.toList_range, List.getElem?_range hj, List.getElem?_replicate, if_pos hj, Option.map_some]
        congr 1
        show #[Value.int .i64 0][j % 1]! = _
        rw [Nat.mod_one]; rfl
      · simp [madeCells, hj]
    unfold OwnI
    rw [fillJ_zero, List.length_replicate, ← e]
    exact hown1
  have hw1 : w.heap.size ≤ w1.heap.size := hb1.size
  clear hown1 hgr1 iz0 iz1 iz2 hi
  go_wp2
  go_loopw [4] (fun i wr => ∃ k : Nat, k ≤ zs.length ∧ i = .int .i64 k ∧ OwnI w.heap.size wr (.slice (some ⟨w.heap.size, 0, none⟩) zs.length zs.length) (fillJ zs k) ∧ Below w.heap.size w wr) (fun i _ => zs.length - (intOf i).toNat)
  case atStart => exact ⟨0, Nat.zero_le _, rfl, hown, hb1⟩
  case round =>
    obtain ⟨k, hk, rfl, ho, hbl⟩ := hrel
    clear hown hb1 hw1
    have hfl := fillJ_len zs k hk
    by_cases hlt : k < zs.length
    · obtain ⟨b, off, rfl, hb, hcl⟩ := hcell (by omega)
      have hx := (hbl.cell (p := ⟨b, off + k, none⟩) hb).trans (hcl k hlt)
      have hlt1 : (k : Int) < (zs.length : Int) := by omega
      have ik1 : (0 : Int) ≤ (k : Int) := by omega
      have xp := ho.cell (q := k) (by omega)
      obtain ⟨z, hz⟩ : ∃ z, wr.cell? ⟨w.heap.size, k, none⟩ = some z := ⟨_, xp⟩
      have fp := ho.frz k
      have HO : Hid (OwnI w.heap.size (wr.setCell ⟨w.heap.size, k, none⟩ (.int .i64 (zs.getD k 0))) (.slice (some ⟨w.heap.size, 0, none⟩) zs.length zs.length) (fillJ zs (k + 1))) := Lib.hid (by
        rw [← fillJ_succ zs k hlt]; exact ho.set_ k _)
      have HB := Lib.hid (hbl.setCell (p := ⟨w.heap.size, k, none⟩) (Nat.le_refl _) (.int .i64 (zs.getD k 0)))
      generalize zs.getD k 0 = y at *
      clear ho hbl hcl hcell xp
      go_wp2
      go_roundw
      case rel => exact ⟨k + 1, by omega, by go_num, HO.out, HB.out⟩
      case measure => simp [intOf]; omega
    · have hkk : k = zs.length := by omega
      subst hkk
      rw [fillJ_all] at ho
      clear hcell
      go_wp2
      go_ret
      exact ⟨_, rfl, ho, hbl⟩

end Go.Proofs.YtoknmjpnelbplaaGreat

namespace Go.Proofs.YtoknmjpnelbplaaGreat
open Go.ChangeShapes Go.WideShapes Go.Deep Go.RowKit Go.Joins

/-- A studio: its draft, its colors, its deposits, its fund. -/
structure St where
  D : Dr
  cs : List Int
  ds : List Dp
  fund : Int

/-- Seven values read as a studio. -/
structure RSt (w : World) (a b c d e f g : Value) (S : St) : Prop where
  dr : RD w a b c d e S.D
  cs : RI w f S.cs
  ds : RDp w g S.ds

theorem RSt.below {w w' : World} {a b c d e f g : Value} {S : St} (h : RSt w a b c d e f g S) (hb : Below w.heap.size w w') : RSt w' a b c d e f g S :=
  ⟨h.dr.below hb, h.cs.below hb, h.ds.below hb⟩

section
variable {H : Type} {enc : TypeId × Value → H} {w : World} {base : Nat} {spare : Nat → Bool} {held : Bool}
theorem list8 {α : Type} {l : List α} (h : l.length = 8) : ∃ a b c d e f g i, l = [a, b, c, d, e, f, g, i] := by
  match l, h with
  | [a, b, c, d, e, f, g, i], _ => exact ⟨a, b, c, d, e, f, g, i, rfl⟩

set_option maxRecDepth 100000 in
theorem trod_draft {n : Nat} {cs : List Value} {x : DataW H × List MemPlace} (h : DataW.trod enc Tryz.prog w base spare held n 28 cs = some x) :
    ∃ u0 u1 u2 u3 u4 D, cs = [u0, u1, u2, u3, u4] ∧ RD w u0 u1 u2 u3 u4 D := by
  obtain ⟨ys, m, _, _, hcl, hyl, hf⟩ := DataW.trod_struct Tryz.underlying28 h
  have hC : Tryz.prog.cellsOf 28 = 5 := by kernel_rfl
  rw [hC] at hcl
  obtain ⟨u0, u1, u2, u3, u4, rfl⟩ := list5 hcl
  have hyl' : ys.length = 3 := hyl
  have h0 : DataW.trod enc Tryz.prog w base spare held m 25 (List.take (Tryz.prog.cellsOf 25) (List.drop 0 [u0, u1, u2, u3, u4])) = ys[0]? := hf 0 _ rfl
  have h1 : DataW.trod enc Tryz.prog w base spare held m 25 (List.take (Tryz.prog.cellsOf 25) (List.drop 2 [u0, u1, u2, u3, u4])) = ys[1]? := hf 1 _ rfl
  have h2 : DataW.trod enc Tryz.prog w base spare held m 26 (List.take (Tryz.prog.cellsOf 26) (List.drop 4 [u0, u1, u2, u3, u4])) = ys[2]? := hf 2 _ rfl
  rw [List.getElem?_eq_getElem (show 0 < ys.length by omega)] at h0
  rw [List.getElem?_eq_getElem (show 1 < ys.length by omega)] at h1
  rw [List.getElem?_eq_getElem (show 2 < ys.length by omega)] at h2
  have c0 : Tryz.prog.cellsOf 26 = 1 := by kernel_rfl
  have c1 : Tryz.prog.cellsOf 25 = 2 := by kernel_rfl
  simp only [c0, c1, List.drop_zero, List.drop_succ_cons, List.take_succ_cons, List.take_zero] at h0 h1 h2
  obtain ⟨fn, fl, hfn, hfl⟩ := trod_window h0
  obtain ⟨nn, nl, hnn, hnl⟩ := trod_window h1
  obtain ⟨ss, hss⟩ := trod_steps h2
  exact ⟨u0, u1, u2, u3, u4, ⟨fn, fl, nn, nl, ss⟩, rfl, hfn, hfl, hnn, hnl, hss⟩

theorem trod_ints {n : Nat} {v : Value} {x : DataW H × List MemPlace} (h : DataW.trod enc Tryz.prog w base spare held n 29 [v] = some x) : ∃ zs : List Int, RI w v zs := by
  rcases open_ints Tryz.underlying29 Tryz.underlying3 (by kernel_rfl) h with ⟨hcs, hx⟩ | ⟨a, len, cap, zs, hcs, _, hl, hm, hz, hx, hcell, hwz⟩
  · simp only [List.cons.injEq, and_true] at hcs
    subst hcs
    exact ⟨[], RS.nil _ _⟩
  · simp only [List.cons.injEq, and_true] at hcs
    subst hcs
    have hle : len ≤ zs.length := by rw [hz]; split <;> omega
    have hlen : (zs.take len).length = len := by simp; omega
    refine ⟨zs.take len, ⟨by simp, some a, cap, by rw [hlen], by rw [hlen]; exact hl, by rw [hlen]; omega, fun hn => ?_⟩⟩
    have hn' : 0 < len := by rw [hlen] at hn; exact hn
    have h0 := hcell 0 (by omega)
    obtain ⟨ab, ao, spot⟩ := a
    have hspot : spot = none := by simpa [Addr.add] using World.cell?_spot h0
    subst hspot
    refine ⟨ab, ao, rfl, ?_, fun j u hu => ?_⟩
    · have := World.block_lt_of_cell? w _ h0
      simpa [Addr.add] using this
    · have hj : j < len := by
        have h1 := (List.getElem?_eq_some_iff.1 hu).1
        simp at h1
        omega
      have hc := hcell j (by omega)
      have e1 : zs.getD j 0 = zs[j] := by simp [List.getD, List.getElem?_eq_getElem (show j < zs.length by omega)]
      rw [e1] at hc
      have hu' : u = .int .i64 zs[j] := by
        rw [List.getElem?_map, List.getElem?_take, if_pos hj, List.getElem?_eq_getElem (by omega)] at hu
        simpa [vI] using hu.symm
      rw [hu']
      by_cases h0 : j = 0
      · subst h0; simpa [Addr.add] using hc
      · simpa [Addr.add, h0] using hc

set_option maxRecDepth 100000 in
theorem trod_deps {n : Nat} {v : Value} {x : DataW H × List MemPlace} (h : DataW.trod enc Tryz.prog w base spare held n 30 [v] = some x) : ∃ l : List Dp, RDp w v l := by
  have hv : ∃ A len cap, v = .slice A len cap := by
    rcases open_slice Tryz.underlying30 h with ⟨hcs, _⟩ | ⟨a, len, cap, m, n', D, Pl, hcs, _⟩
    · simp only [List.cons.injEq, and_true] at hcs
      exact ⟨_, _, _, hcs⟩
    · simp only [List.cons.injEq, and_true] at hcs
      exact ⟨_, _, _, hcs⟩
  obtain ⟨A, len, cap, rfl⟩ := hv
  exact deps_of_trod h

set_option maxRecDepth 100000 in
/-- A studio that came in. -/
theorem open_studio {v : Value} {d : DataW H} {p : List MemPlace} (hval : Value.okWide Tryz.prog w .any base 32 v) (h : DataW.Trod enc Tryz.prog w 0 spare held 32 v d p) :
    ∃ v0 v1 v2 v3 v4 v5 v6 S, v = .agg #[v0, v1, v2, v3, v4, v5, v6, .int .i64 (St.fund S)] ∧ RSt w v0 v1 v2 v3 v4 v5 v6 S := by
  obtain ⟨cs, rfl, hsz⟩ := okWide_struct Tryz.underlying32 hval
  have hC : Tryz.prog.cellsOf 32 = 8 := by kernel_rfl
  rw [hC] at hsz
  obtain ⟨fuel, hf⟩ := h
  obtain ⟨ys, m, _, _, hcl, hyl, hf⟩ := DataW.trod_struct Tryz.underlying32 hf
  obtain ⟨cs⟩ := cs
  obtain ⟨u0, u1, u2, u3, u4, u5, u6, u7, rfl⟩ := list8 (show cs.length = 8 from hsz)
  have hyl' : ys.length = 4 := hyl
  have h0 : DataW.trod enc Tryz.prog w 0 spare held m 28 (List.take (Tryz.prog.cellsOf 28) (List.drop 0 [u0, u1, u2, u3, u4, u5, u6, u7])) = ys[0]? := hf 0 _ rfl
  have h1 : DataW.trod enc Tryz.prog w 0 spare held m 29 (List.take (Tryz.prog.cellsOf 29) (List.drop 5 [u0, u1, u2, u3, u4, u5, u6, u7])) = ys[1]? := hf 1 _ rfl
  have h2 : DataW.trod enc Tryz.prog w 0 spare held m 30 (List.take (Tryz.prog.cellsOf 30) (List.drop 6 [u0, u1, u2, u3, u4, u5, u6, u7])) = ys[2]? := hf 2 _ rfl
  have h3 : DataW.trod enc Tryz.prog w 0 spare held m 3 (List.take (Tryz.prog.cellsOf 3) (List.drop 7 [u0, u1, u2, u3, u4, u5, u6, u7])) = ys[3]? := hf 3 _ rfl
  rw [List.getElem?_eq_getElem (show 0 < ys.length by omega)] at h0
  rw [List.getElem?_eq_getElem (show 1 < ys.length by omega)] at h1
  rw [List.getElem?_eq_getElem (show 2 < ys.length by omega)] at h2
  rw [List.getElem?_eq_getElem (show 3 < ys.length by omega)] at h3
  have c0 : Tryz.prog.cellsOf 28 = 5 := by kernel_rfl
  have c1 : Tryz.prog.cellsOf 29 = 1 := by kernel_rfl
  have c2 : Tryz.prog.cellsOf 30 = 1 := by kernel_rfl
  have c3 : Tryz.prog.cellsOf 3 = 1 := by kernel_rfl
  simp only [c0, c1, c2, c3, Value.cells, List.drop_zero, List.drop_succ_cons, List.take_succ_cons, List.take_zero] at h0 h1 h2 h3
  obtain ⟨w0, w1, w2, w3, w4, D, e, hD⟩ := trod_draft h0
  simp only [List.cons.injEq, and_true] at e
  obtain ⟨rfl, rfl, rfl, rfl, rfl⟩ := e
  obtain ⟨zs, hzs⟩ := trod_ints h1
  obtain ⟨l, hl⟩ := trod_deps h2
  obtain ⟨k, e3, _, _⟩ := DataW.trod_int Tryz.underlying3 h3
  simp at e3
  subst e3
  exact ⟨u0, u1, u2, u3, u4, u5, u6, ⟨D, zs, l, k⟩, rfl, hD, hzs, hl⟩
end

/-- What is left of a bound behind a studio. -/
def szSt (S : St) : Int :=
  if szD 1048576 S.D < 0 then -1 else if szF (szD 1048576 S.D) S.cs.length < 0 then -1 else szF (szF (szD 1048576 S.D) S.cs.length) S.ds.length

/-- The numbers of a studio are few. -/
structure StLe (S : St) : Prop where
  D : DrLe S.D
  cs : S.cs.length ≤ 1048576
  ds : S.ds.length ≤ 1048576

theorem szD_ub {D : Dr} (h : ¬ szD 1048576 D < 0) : szD 1048576 D ≤ 1048576 := by
  unfold szD at h ⊢
  split
  · omega
  · rename_i h1
    rw [if_neg h1] at h
    split
    · omega
    · rename_i h2
      rw [if_neg h2] at h
      have e1 := szW_val h1
      have e2 := szW_val h2
      have e3 := szT_val h
      omega

theorem szF_val {n : Int} {k : Nat} (h : ¬ szF n k < 0) : szF n k = n - k ∧ (k : Int) ≤ n := by
  unfold szF at h ⊢
  split
  · rename_i h1; rw [if_pos h1] at h; omega
  · omega

theorem szSt_le {S : St} (h : ¬ szSt S < 0) : StLe S := by
  unfold szSt at h
  split at h
  · omega
  · rename_i h1
    split at h
    · omega
    · rename_i h2
      have e0 := szD_ub h1
      have e1 := szF_val h2
      have e2 := szF_val h
      exact ⟨szD_le h1, by omega, by omega⟩

theorem szF_neg {n : Int} {k : Nat} (h : szF n k < 0) : szF n k = -1 ∨ n < 0 := by
  unfold szF at h ⊢
  split
  · exact .inl rfl
  · rename_i h1; rw [if_neg h1] at h; right; omega

set_option maxHeartbeats 4000000 in
set_option maxRecDepth 100000 in
theorem szStudio_at (v0 v1 v2 v3 v4 v5 v6 : Value) (S : St) (x : Int) (w : World) (h : RSt w v0 v1 v2 v3 v4 v5 v6 S) (hx : Hid (szSt S = x)) :
    Calls Tryz.prog 15 #[.agg #[v0, v1, v2, v3, v4, v5, v6, .int .i64 S.fund], .int .i64 1048576] w fun e w' => e = .returned (.int .i64 x) ∧ Below w.heap.size w w' := by
  obtain ⟨y, hy⟩ : ∃ y, szD 1048576 S.D = y := ⟨_, rfl⟩
  have HY := Lib.hid hy
  have hdr := h.dr
  by_cases hy0 : y < 0
  · have hx' := hx.out
    unfold szSt at hx'
    rw [hy, if_pos hy0] at hx'
    subst hx'
    clear hy hx
    go_enter Tryz.func15, Tryz.ntmps15
    go_wp2_with fail
    refine (szDraft_at _ _ _ _ _ S.D y _ (hdr.below (by (repeat' (first | (with_reducible exact Below.refl _ _) | (with_reducible assumption) | (with_reducible refine Below.drew ?_) | (with_reducible refine below_drewN ?_ _) | (with_reducible refine Below.alloc ?_ ?_ _) | (with_reducible refine Below.setCell ?_ ?_ _) | (with_reducible refine Below.step (by assumption) ?_ ?_))); all_goals (first | omega | (simp; done) | (simp; omega)))) HY).mono ?_
    rintro e w1 ⟨rfl, hb1⟩; (first | (with_reducible have hcf1 := bcell_drew hb1) | have hcf1 := bcell hb1); obtain ⟨hc1, hf1⟩ := hcf1; have hz1 := hb1.size; (try simp at hz1); (try have hp1_0 : w.heap.size < w1.heap.size := by omega); (try have hp1_1 : w.heap.size + 1 < w1.heap.size := by omega); (try have hp1_2 : w.heap.size + 1 + 1 < w1.heap.size := by omega); (try have hp1_3 : w.heap.size + 1 + 1 + 1 < w1.heap.size := by omega)
    go_wp2
    go_ret
    exact ⟨rfl, by (repeat' (first | (with_reducible exact Below.refl _ _) | (with_reducible assumption) | (with_reducible refine Below.drew ?_) | (with_reducible refine below_drewN ?_ _) | (with_reducible refine Below.alloc ?_ ?_ _) | (with_reducible refine Below.setCell ?_ ?_ _) | (with_reducible refine Below.step (by assumption) ?_ ?_))); all_goals (first | omega | (simp; done) | (simp; omega))⟩
  · have yub : y ≤ 1048576 := by rw [← hy]; exact szD_ub (by rw [hy]; exact hy0)
    obtain ⟨z, hz⟩ : ∃ z, szF y S.cs.length = z := ⟨_, rfl⟩
    have HZ := Lib.hid hz
    by_cases hz0 : z < 0
    · have hx' := hx.out
      unfold szSt at hx'
      rw [hy, if_neg hy0, hz, if_pos hz0] at hx'
      subst hx'
      clear hy hx hz
      go_enter Tryz.func15, Tryz.ntmps15
      go_wp2_with fail
      refine (szDraft_at _ _ _ _ _ S.D y _ (hdr.below (by (repeat' (first | (with_reducible exact Below.refl _ _) | (with_reducible assumption) | (with_reducible refine Below.drew ?_) | (with_reducible refine below_drewN ?_ _) | (with_reducible refine Below.alloc ?_ ?_ _) | (with_reducible refine Below.setCell ?_ ?_ _) | (with_reducible refine Below.step (by assumption) ?_ ?_))); all_goals (first | omega | (simp; done) | (simp; omega)))) HY).mono ?_
      rintro e w1 ⟨rfl, hb1⟩; (first | (with_reducible have hcf1 := bcell_drew hb1) | have hcf1 := bcell hb1); obtain ⟨hc1, hf1⟩ := hcf1; have hz1 := hb1.size; (try simp at hz1); (try have hp1_0 : w.heap.size < w1.heap.size := by omega); (try have hp1_1 : w.heap.size + 1 < w1.heap.size := by omega); (try have hp1_2 : w.heap.size + 1 + 1 < w1.heap.size := by omega); (try have hp1_3 : w.heap.size + 1 + 1 + 1 < w1.heap.size := by omega)
      have hbw1 : Below w.heap.size w w1 := by (repeat' (first | (with_reducible exact Below.refl _ _) | (with_reducible assumption) | (with_reducible refine Below.drew ?_) | (with_reducible refine below_drewN ?_ _) | (with_reducible refine Below.alloc ?_ ?_ _) | (with_reducible refine Below.setCell ?_ ?_ _) | (with_reducible refine Below.step (by assumption) ?_ ?_))); all_goals (first | omega | (simp; done) | (simp; omega))
      have hX1 : Blk w1 w.heap.size 32 #[v0, v1, v2, v3, v4, v5, v6, .int .i64 S.fund] := Blk.below (Blk.newAt rfl) hb1 (by first | omega | (simp; done) | (simp; omega))
      clear hb1 hc1 hf1
      (have x_0 := hX1.cell 0); (have x_1 := hX1.cell 1); (have x_2 := hX1.cell 2); (have x_3 := hX1.cell 3); (have x_4 := hX1.cell 4); (have x_5 := hX1.cell 5); (have x_6 := hX1.cell 6); (have x_7 := hX1.cell 7); simp only [List.getElem?_toArray, List.getElem?_cons_succ, List.getElem?_cons_zero] at x_0 x_1 x_2 x_3 x_4 x_5 x_6 x_7
      go_wp2_with fail
      refine (szIS_any _ S.cs y _ (h.cs.below hbw1) (by omega) (by omega)).mono ?_
      rintro e w' ⟨rfl, rfl⟩
      rw [HZ.out]
      go_wp2
      go_ret
      exact ⟨rfl, hbw1⟩
    · have zub : z ≤ 1048576 := by have := (szF_val (n := y) (k := S.cs.length) (by rw [hz]; exact hz0)).1; omega
      have HW : Hid (szF z S.ds.length = x) := Lib.hid (by
        have hx' := hx.out
        unfold szSt at hx'
        rw [hy, if_neg hy0, hz, if_neg hz0] at hx'
        exact hx')
      clear hy hx hz
      by_cases hx0 : x < 0
      all_goals
        have hx1 : x < 0 → x = -1 := fun hh => by
          rcases szF_neg (n := z) (k := S.ds.length) (by rw [HW.out]; exact hh) with h1 | h1
          · rw [HW.out] at h1; exact h1
          · omega
        have HX1 := Lib.hid hx1
        clear hx1
        go_enter Tryz.func15, Tryz.ntmps15
        go_wp2_with fail
        refine (szDraft_at _ _ _ _ _ S.D y _ (hdr.below (by (repeat' (first | (with_reducible exact Below.refl _ _) | (with_reducible assumption) | (with_reducible refine Below.drew ?_) | (with_reducible refine below_drewN ?_ _) | (with_reducible refine Below.alloc ?_ ?_ _) | (with_reducible refine Below.setCell ?_ ?_ _) | (with_reducible refine Below.step (by assumption) ?_ ?_))); all_goals (first | omega | (simp; done) | (simp; omega)))) HY).mono ?_
        rintro e w1 ⟨rfl, hb1⟩; (first | (with_reducible have hcf1 := bcell_drew hb1) | have hcf1 := bcell hb1); obtain ⟨hc1, hf1⟩ := hcf1; have hz1 := hb1.size; (try simp at hz1); (try have hp1_0 : w.heap.size < w1.heap.size := by omega); (try have hp1_1 : w.heap.size + 1 < w1.heap.size := by omega); (try have hp1_2 : w.heap.size + 1 + 1 < w1.heap.size := by omega); (try have hp1_3 : w.heap.size + 1 + 1 + 1 < w1.heap.size := by omega)
        have hbw1 : Below w.heap.size w w1 := by (repeat' (first | (with_reducible exact Below.refl _ _) | (with_reducible assumption) | (with_reducible refine Below.drew ?_) | (with_reducible refine below_drewN ?_ _) | (with_reducible refine Below.alloc ?_ ?_ _) | (with_reducible refine Below.setCell ?_ ?_ _) | (with_reducible refine Below.step (by assumption) ?_ ?_))); all_goals (first | omega | (simp; done) | (simp; omega))
        have hX1 : Blk w1 w.heap.size 32 #[v0, v1, v2, v3, v4, v5, v6, .int .i64 S.fund] := Blk.below (Blk.newAt rfl) hb1 (by first | omega | (simp; done) | (simp; omega))
        clear hb1 hc1 hf1
        (have x_0 := hX1.cell 0); (have x_1 := hX1.cell 1); (have x_2 := hX1.cell 2); (have x_3 := hX1.cell 3); (have x_4 := hX1.cell 4); (have x_5 := hX1.cell 5); (have x_6 := hX1.cell 6); (have x_7 := hX1.cell 7); simp only [List.getElem?_toArray, List.getElem?_cons_succ, List.getElem?_cons_zero] at x_0 x_1 x_2 x_3 x_4 x_5 x_6 x_7
        go_wp2_with fail
        refine (szIS_any _ S.cs y _ (h.cs.below hbw1) (by omega) (by omega)).mono ?_
        rintro e w' ⟨rfl, rfl⟩
        rw [HZ.out]
        go_wp2_with fail
        refine (szDepositS_any _ S.ds z _ (h.ds.below hbw1) (by omega) (by omega)).mono ?_
        rintro e w' ⟨rfl, rfl⟩
        rw [HW.out]
        go_wp2
        go_ret
        first
          | exact ⟨ret_int (HX1.out (by assumption)).symm, hbw1⟩
          | exact ⟨rfl, hbw1⟩

/-- A studio lies in blocks of its own, all apart. -/
structure OwnSt (base : Nat) (w : World) (a b c d e f g : Value) (S : St) (fs : List SF) : Prop where
  dr : OwnD base w a b c d e S.D fs
  cs : OwnI base w f S.cs
  ds : OwnDp base w g S.ds
  d_c : ∀ k, blksD a b c d e fs k → ¬ f.ownBlock = some k
  d_d : ∀ k, blksD a b c d e fs k → ¬ g.ownBlock = some k
  c_d : ∀ k, f.ownBlock = some k → ¬ g.ownBlock = some k

/-- The blocks of a studio. -/
def blksSt (a b c d e f g : Value) (fs : List SF) (k : Nat) : Prop := blksD a b c d e fs k ∨ f.ownBlock = some k ∨ g.ownBlock = some k

section
variable {base : Nat} {w w' : World} {a b c d e f g : Value} {S : St} {fs : List SF}
theorem OwnSt.lt (h : OwnSt base w a b c d e f g S fs) (k : Nat) (hk : blksSt a b c d e f g fs k) : base ≤ k ∧ k < w.heap.size := by
  rcases hk with hk | hk | hk
  · exact h.dr.lt k hk
  · exact h.cs.lt k hk
  · exact World.ownsRow.lt h.ds k hk

theorem OwnSt.turned {T : Nat → Prop} (h : OwnSt base w a b c d e f g S fs) (hb : Turns T w w') (hs : ∀ k, blksSt a b c d e f g fs k → ¬ T k) : OwnSt base w' a b c d e f g S fs :=
  ⟨h.dr.turned hb (fun k hk => hs k (.inl hk)), own_turned h.cs hb (fun k hk => hs k (.inr (.inl hk))), own_turned h.ds hb (fun k hk => hs k (.inr (.inr hk))), h.d_c, h.d_d, h.c_d⟩

theorem OwnSt.kept (h : OwnSt base w a b c d e f g S fs) (hb : Below w.heap.size w w') : OwnSt base w' a b c d e f g S fs :=
  h.turned (T := fun _ => False) (Turns.ofBelow hb) (fun _ _ h => h)

theorem OwnSt.alloc (h : OwnSt base w a b c d e f g S fs) (o : Obj) : OwnSt base (w.alloc o) a b c d e f g S fs := h.kept ((Below.refl _ _).alloc (Nat.le_refl _) o)

theorem OwnSt.setLow (h : OwnSt base w a b c d e f g S fs) {p : Addr} (hp : p.block < base) (u : Value) : OwnSt base (w.setCell p u) a b c d e f g S fs :=
  h.turned (T := fun b => b = p.block) (Turns.ofGrown (set_grown w p u) (fun k hk => by cases hk; rfl)) (fun k hk e => by have := (h.lt k hk).1; omega)

theorem OwnD.setLow {D : Dr} (h : OwnD base w a b c d e D fs) {p : Addr} (hp : p.block < base) (u : Value) : OwnD base (w.setCell p u) a b c d e D fs :=
  h.turned (S := fun b => b = p.block) (Turns.ofGrown (set_grown w p u) (fun k hk => by cases hk; rfl)) (fun k hk e => by have := (h.lt k hk).1; omega)

theorem OwnDp.mono {base base' : Nat} {w : World} {v : Value} {l : List Dp} (h : OwnDp base w v l) (hb : base' ≤ base) : OwnDp base' w v l := by
  obtain ⟨h1, h2⟩ := h
  refine ⟨h1, ?_⟩
  rcases h2 with h2 | ⟨g, cap, cur, e1, e2, e3⟩
  · exact .inl h2
  · exact .inr ⟨g, cap, cur, e1, Nat.le_trans hb e2, e3⟩

theorem OwnSt.mono {base' : Nat} (h : OwnSt base w a b c d e f g S fs) (hb : base' ≤ base) : OwnSt base' w a b c d e f g S fs :=
  ⟨h.dr.mono hb, h.cs.mono hb, h.ds.mono hb, h.d_c, h.d_d, h.c_d⟩

theorem OwnSt.reads (h : OwnSt base w a b c d e f g S fs) : RSt w a b c d e f g S := ⟨h.dr.reads, h.cs.reads, h.ds.reads⟩

theorem OwnDp.form {base : Nat} {w : World} {v : Value} {l : List Dp} (h : OwnDp base w v l) : ∃ A c, v = .slice A l.length c := by
  obtain ⟨A, c, e, _⟩ := h.reads.form
  exact ⟨A, c, e⟩
end

/-- A call returns a studio in new memory. -/
def RetStu (S : St) (w : World) (e : Ending) (w' : World) : Prop := ∃ A0 ac0 A1 ac1 A2 ac2 A3 ac3 A4 ac4 A5 ac5 A6 ac6 fs, e = .returned (.agg #[.slice A0 S.D.fn.length ac0, .slice A1 S.D.fl.length ac1, .slice A2 S.D.nn.length ac2, .slice A3 S.D.nl.length ac3, .slice A4 S.D.ss.length ac4, .slice A5 S.cs.length ac5, .slice A6 S.ds.length ac6, .int .i64 S.fund]) ∧
  OwnSt w.heap.size w' (.slice A0 S.D.fn.length ac0) (.slice A1 S.D.fl.length ac1) (.slice A2 S.D.nn.length ac2) (.slice A3 S.D.nl.length ac3) (.slice A4 S.D.ss.length ac4) (.slice A5 S.cs.length ac5) (.slice A6 S.ds.length ac6) S fs ∧ Below w.heap.size w w'

set_option maxHeartbeats 8000000 in
set_option maxRecDepth 100000 in
theorem toStudio_any (v0 v1 v2 v3 v4 v5 v6 : Value) (S : St) (w : World) (h : RSt w v0 v1 v2 v3 v4 v5 v6 S) (hle : StLe S) :
    Calls Tryz.prog 17 #[.agg #[v0, v1, v2, v3, v4, v5, v6, .int .i64 S.fund]] w (RetStu S w) := by
  have hdr := h.dr
  have hcs := h.cs
  have hds := h.ds
  go_enter Tryz.func17, Tryz.ntmps17
  go_wp2_with fail
  refine (toDraft_any _ _ _ _ _ S.D _ (hdr.below (by (repeat' (first | (with_reducible exact Below.refl _ _) | (with_reducible assumption) | (with_reducible refine Below.drew ?_) | (with_reducible refine below_drewN ?_ _) | (with_reducible refine Below.alloc ?_ ?_ _) | (with_reducible refine Below.setCell ?_ ?_ _) | (with_reducible refine Below.step (by assumption) ?_ ?_))); all_goals (first | omega | (simp; done) | (simp; omega)))) hle.D).mono ?_
  rintro e w1 ⟨A0, ac0, A1, ac1, A2, ac2, A3, ac3, A4, ac4, fs, rfl, ho1, hb1⟩
  have hz1 := hb1.size
  simp at hz1
  have hX1 : Blk w1 w.heap.size 32 #[v0, v1, v2, v3, v4, v5, v6, .int .i64 S.fund] := Blk.below (((Blk.newAt rfl).alloc _).alloc _) hb1 (by first | omega | (simp; done) | (simp; omega))
  have hR1 : Blk w1 (w.heap.size + 1) 44 #[.slice none 0 0, .slice none 0 0, .slice none 0 0, .slice none 0 0, .slice none 0 0, .slice none 0 0, .slice none 0 0, .int .i64 0] := Blk.below ((Blk.newAt (by simp)).alloc _) hb1 (by first | omega | (simp; done) | (simp; omega))
  have hS1 : Blk w1 (w.heap.size + 1 + 1) 44 #[.slice none 0 0, .slice none 0 0, .slice none 0 0, .slice none 0 0, .slice none 0 0, .slice none 0 0, .slice none 0 0, .int .i64 0] := Blk.below (Blk.newAt (by simp)) hb1 (by first | omega | (simp; done) | (simp; omega))
  have hO1 : OwnD (w.heap.size + 1 + 1 + 1) w1 (.slice A0 S.D.fn.length ac0) (.slice A1 S.D.fl.length ac1) (.slice A2 S.D.nn.length ac2) (.slice A3 S.D.nl.length ac3) (.slice A4 S.D.ss.length ac4) S.D fs := by simpa using ho1
  have hbw1 : Below w.heap.size w w1 := by (repeat' (first | (with_reducible exact Below.refl _ _) | (with_reducible assumption) | (with_reducible refine Below.drew ?_) | (with_reducible refine below_drewN ?_ _) | (with_reducible refine Below.alloc ?_ ?_ _) | (with_reducible refine Below.setCell ?_ ?_ _) | (with_reducible refine Below.step (by assumption) ?_ ?_))); all_goals (first | omega | (simp; done) | (simp; omega))
  clear hb1 ho1
  (have x_0 := hX1.cell 0); (have x_1 := hX1.cell 1); (have x_2 := hX1.cell 2); (have x_3 := hX1.cell 3); (have x_4 := hX1.cell 4); (have x_5 := hX1.cell 5); (have x_6 := hX1.cell 6); (have x_7 := hX1.cell 7); simp only [List.getElem?_toArray, List.getElem?_cons_succ, List.getElem?_cons_zero] at x_0 x_1 x_2 x_3 x_4 x_5 x_6 x_7; (have x_f0 := hX1.frozen 0); (have x_f1 := hX1.frozen 1); (have x_f2 := hX1.frozen 2); (have x_f3 := hX1.frozen 3); (have x_f4 := hX1.frozen 4); (have x_f5 := hX1.frozen 5); (have x_f6 := hX1.frozen 6); (have x_f7 := hX1.frozen 7)
  (have s_0 := hS1.cell 0); (have s_1 := hS1.cell 1); (have s_2 := hS1.cell 2); (have s_3 := hS1.cell 3); (have s_4 := hS1.cell 4); (have s_5 := hS1.cell 5); (have s_6 := hS1.cell 6); (have s_7 := hS1.cell 7); simp only [List.getElem?_toArray, List.getElem?_cons_succ, List.getElem?_cons_zero] at s_0 s_1 s_2 s_3 s_4 s_5 s_6 s_7; (have s_f0 := hS1.frozen 0); (have s_f1 := hS1.frozen 1); (have s_f2 := hS1.frozen 2); (have s_f3 := hS1.frozen 3); (have s_f4 := hS1.frozen 4); (have s_f5 := hS1.frozen 5); (have s_f6 := hS1.frozen 6); (have s_f7 := hS1.frozen 7)
  have hXlt := hX1.lt
  have hSlt := hS1.lt
  go_wp2_with fail
  obtain ⟨u1, hu1⟩ : ∃ u1, u1 = (((((w1.setCell ⟨w.heap.size + 1 + 1, 0, none⟩ (.slice A0 S.D.fn.length ac0)).setCell ⟨w.heap.size + 1 + 1, 1, none⟩ (.slice A1 S.D.fl.length ac1)).setCell ⟨w.heap.size + 1 + 1, 2, none⟩ (.slice A2 S.D.nn.length ac2)).setCell ⟨w.heap.size + 1 + 1, 3, none⟩ (.slice A3 S.D.nl.length ac3)).setCell ⟨w.heap.size + 1 + 1, 4, none⟩ (.slice A4 S.D.ss.length ac4)) := ⟨_, rfl⟩
  rw [← hu1]
  have hy1 : u1.heap.size = w1.heap.size := by rw [hu1]; simp
  have hX1' : Blk u1 w.heap.size 32 #[v0, v1, v2, v3, v4, v5, v6, .int .i64 S.fund] := hu1 ▸ (((((hX1).far (p := ⟨w.heap.size + 1 + 1, 0, none⟩) (by show _ ≠ w.heap.size + 1 + 1; omega) _).far (p := ⟨w.heap.size + 1 + 1, 1, none⟩) (by show _ ≠ w.heap.size + 1 + 1; omega) _).far (p := ⟨w.heap.size + 1 + 1, 2, none⟩) (by show _ ≠ w.heap.size + 1 + 1; omega) _).far (p := ⟨w.heap.size + 1 + 1, 3, none⟩) (by show _ ≠ w.heap.size + 1 + 1; omega) _).far (p := ⟨w.heap.size + 1 + 1, 4, none⟩) (by show _ ≠ w.heap.size + 1 + 1; omega) _
  have hR1' : Blk u1 (w.heap.size + 1) 44 #[.slice none 0 0, .slice none 0 0, .slice none 0 0, .slice none 0 0, .slice none 0 0, .slice none 0 0, .slice none 0 0, .int .i64 0] := hu1 ▸ (((((hR1).far (p := ⟨w.heap.size + 1 + 1, 0, none⟩) (by show _ ≠ w.heap.size + 1 + 1; omega) _).far (p := ⟨w.heap.size + 1 + 1, 1, none⟩) (by show _ ≠ w.heap.size + 1 + 1; omega) _).far (p := ⟨w.heap.size + 1 + 1, 2, none⟩) (by show _ ≠ w.heap.size + 1 + 1; omega) _).far (p := ⟨w.heap.size + 1 + 1, 3, none⟩) (by show _ ≠ w.heap.size + 1 + 1; omega) _).far (p := ⟨w.heap.size + 1 + 1, 4, none⟩) (by show _ ≠ w.heap.size + 1 + 1; omega) _
  have hS1' : Blk u1 (w.heap.size + 1 + 1) 44 #[.slice A0 S.D.fn.length ac0, .slice A1 S.D.fl.length ac1, .slice A2 S.D.nn.length ac2, .slice A3 S.D.nl.length ac3, .slice A4 S.D.ss.length ac4, .slice none 0 0, .slice none 0 0, .int .i64 0] := hu1 ▸ (((((hS1).set_ 0 _).set_ 1 _).set_ 2 _).set_ 3 _).set_ 4 _
  have hO1' : OwnD (w.heap.size + 1 + 1 + 1) u1 (.slice A0 S.D.fn.length ac0) (.slice A1 S.D.fl.length ac1) (.slice A2 S.D.nn.length ac2) (.slice A3 S.D.nl.length ac3) (.slice A4 S.D.ss.length ac4) S.D fs := hu1 ▸ (OwnD.setLow (OwnD.setLow (OwnD.setLow (OwnD.setLow (OwnD.setLow hO1 (p := ⟨w.heap.size + 1 + 1, 0, none⟩) (Nat.lt_succ_self _) _) (p := ⟨w.heap.size + 1 + 1, 1, none⟩) (Nat.lt_succ_self _) _) (p := ⟨w.heap.size + 1 + 1, 2, none⟩) (Nat.lt_succ_self _) _) (p := ⟨w.heap.size + 1 + 1, 3, none⟩) (Nat.lt_succ_self _) _) (p := ⟨w.heap.size + 1 + 1, 4, none⟩) (Nat.lt_succ_self _) _)
  have hbv1 : Below w.heap.size w u1 := hu1 ▸ (((((hbw1).setCell (p := ⟨w.heap.size + 1 + 1, 0, none⟩) (by first | omega | (simp; done) | (simp; omega)) _).setCell (p := ⟨w.heap.size + 1 + 1, 1, none⟩) (by first | omega | (simp; done) | (simp; omega)) _).setCell (p := ⟨w.heap.size + 1 + 1, 2, none⟩) (by first | omega | (simp; done) | (simp; omega)) _).setCell (p := ⟨w.heap.size + 1 + 1, 3, none⟩) (by first | omega | (simp; done) | (simp; omega)) _).setCell (p := ⟨w.heap.size + 1 + 1, 4, none⟩) (by first | omega | (simp; done) | (simp; omega)) _
  clear hu1 hX1 hR1 hS1 hO1 hbw1 x_0 x_1 x_2 x_3 x_4 x_5 x_6 x_7 s_0 s_1 s_2 s_3 s_4 s_5 s_6 s_7 x_f0 x_f1 x_f2 x_f3 x_f4 x_f5 x_f6 x_f7 s_f0 s_f1 s_f2 s_f3 s_f4 s_f5 s_f6 s_f7 hXlt hSlt
  refine (toIS_any _ S.cs _ (hcs.below hbv1) hle.cs).mono ?_
  rintro e w2 ⟨q5, rfl, ho2, hb2⟩
  obtain ⟨A5, ac5, _, rfl⟩ : ∃ A c, S.cs.length ≤ S.cs.length ∧ q5 = .slice A S.cs.length c := by obtain ⟨A, c, e, _⟩ := ho2.reads.form; exact ⟨A, c, Nat.le_refl _, e⟩
  have hz2 := hb2.size
  have hX2 := hX1'.below hb2 hX1'.lt
  have hR2 := hR1'.below hb2 hR1'.lt
  have hS2 := hS1'.below hb2 hS1'.lt
  have hO2 := hO1'.kept hb2
  have hlt1 := hO1'.lt
  have hbw2 := hbv1.trans (hb2.mono hbv1.size)
  clear hb2 hX1' hR1' hS1' hO1' hbv1
  (have x_0 := hX2.cell 0); (have x_1 := hX2.cell 1); (have x_2 := hX2.cell 2); (have x_3 := hX2.cell 3); (have x_4 := hX2.cell 4); (have x_5 := hX2.cell 5); (have x_6 := hX2.cell 6); (have x_7 := hX2.cell 7); simp only [List.getElem?_toArray, List.getElem?_cons_succ, List.getElem?_cons_zero] at x_0 x_1 x_2 x_3 x_4 x_5 x_6 x_7; (have x_f0 := hX2.frozen 0); (have x_f1 := hX2.frozen 1); (have x_f2 := hX2.frozen 2); (have x_f3 := hX2.frozen 3); (have x_f4 := hX2.frozen 4); (have x_f5 := hX2.frozen 5); (have x_f6 := hX2.frozen 6); (have x_f7 := hX2.frozen 7)
  (have s_0 := hS2.cell 0); (have s_1 := hS2.cell 1); (have s_2 := hS2.cell 2); (have s_3 := hS2.cell 3); (have s_4 := hS2.cell 4); (have s_5 := hS2.cell 5); (have s_6 := hS2.cell 6); (have s_7 := hS2.cell 7); simp only [List.getElem?_toArray, List.getElem?_cons_succ, List.getElem?_cons_zero] at s_0 s_1 s_2 s_3 s_4 s_5 s_6 s_7; (have s_f0 := hS2.frozen 0); (have s_f1 := hS2.frozen 1); (have s_f2 := hS2.frozen 2); (have s_f3 := hS2.frozen 3); (have s_f4 := hS2.frozen 4); (have s_f5 := hS2.frozen 5); (have s_f6 := hS2.frozen 6); (have s_f7 := hS2.frozen 7)
  have hXlt := hX2.lt
  have hSlt := hS2.lt
  go_wp2_with fail
  obtain ⟨u2, hu2⟩ : ∃ u2, u2 = (w2.setCell ⟨w.heap.size + 1 + 1, 5, none⟩ (.slice A5 S.cs.length ac5)) := ⟨_, rfl⟩
  rw [← hu2]
  have hy2 : u2.heap.size = w2.heap.size := by rw [hu2]; simp
  have hX2' : Blk u2 w.heap.size 32 #[v0, v1, v2, v3, v4, v5, v6, .int .i64 S.fund] := hu2 ▸ (hX2).far (p := ⟨w.heap.size + 1 + 1, 5, none⟩) (by show _ ≠ w.heap.size + 1 + 1; omega) _
  have hR2' : Blk u2 (w.heap.size + 1) 44 #[.slice none 0 0, .slice none 0 0, .slice none 0 0, .slice none 0 0, .slice none 0 0, .slice none 0 0, .slice none 0 0, .int .i64 0] := hu2 ▸ (hR2).far (p := ⟨w.heap.size + 1 + 1, 5, none⟩) (by show _ ≠ w.heap.size + 1 + 1; omega) _
  have hS2' : Blk u2 (w.heap.size + 1 + 1) 44 #[.slice A0 S.D.fn.length ac0, .slice A1 S.D.fl.length ac1, .slice A2 S.D.nn.length ac2, .slice A3 S.D.nl.length ac3, .slice A4 S.D.ss.length ac4, .slice A5 S.cs.length ac5, .slice none 0 0, .int .i64 0] := hu2 ▸ (hS2).set_ 5 _
  have hO2' : OwnD (w.heap.size + 1 + 1 + 1) u2 (.slice A0 S.D.fn.length ac0) (.slice A1 S.D.fl.length ac1) (.slice A2 S.D.nn.length ac2) (.slice A3 S.D.nl.length ac3) (.slice A4 S.D.ss.length ac4) S.D fs := hu2 ▸ (OwnD.setLow hO2 (p := ⟨w.heap.size + 1 + 1, 5, none⟩) (Nat.lt_succ_self _) _)
  have hN2' : OwnI u1.heap.size u2 (.slice A5 S.cs.length ac5) S.cs := hu2 ▸ own_turned ho2 (S := fun b => b = w.heap.size + 1 + 1) (Turns.ofGrown (set_grown w2 ⟨w.heap.size + 1 + 1, 5, none⟩ _) (fun k hk => by cases hk; rfl)) (fun k hk e => by have := (World.ownsRow.lt ho2 k hk).1; omega)
  have hbv2 : Below w.heap.size w u2 := hu2 ▸ (hbw2).setCell (p := ⟨w.heap.size + 1 + 1, 5, none⟩) (by first | omega | (simp; done) | (simp; omega)) _
  clear hu2 hX2 hR2 hS2 hO2 ho2 hbw2 x_0 x_1 x_2 x_3 x_4 x_5 x_6 x_7 s_0 s_1 s_2 s_3 s_4 s_5 s_6 s_7 x_f0 x_f1 x_f2 x_f3 x_f4 x_f5 x_f6 x_f7 s_f0 s_f1 s_f2 s_f3 s_f4 s_f5 s_f6 s_f7 hXlt hSlt
  refine (toDepositS_any _ S.ds _ (hds.below hbv2) hle.ds).mono ?_
  rintro e w3 ⟨q6, rfl, ho3, hb3⟩
  obtain ⟨A6, ac6, rfl⟩ := OwnDp.form ho3
  have hz3 := hb3.size
  have hX3 := hX2'.below hb3 hX2'.lt
  have hR3 := hR2'.below hb3 hR2'.lt
  have hS3 := hS2'.below hb3 hS2'.lt
  have hO3 := hO2'.kept hb3
  have hN3 := hN2'.kept hb3
  have hlt2 := World.ownsRow.lt hN2'
  have hlt3 := World.ownsRow.lt ho3
  have hbw3 := hbv2.trans (hb3.mono hbv2.size)
  have n1 : w.heap.size + 1 < w3.heap.size := hR3.lt
  have n2 : w.heap.size + 1 + 1 < w3.heap.size := hS3.lt
  have n0 : w.heap.size < w3.heap.size := hX3.lt
  have HST : Hid (OwnSt (w.heap.size + 1 + 1 + 1) w3 (.slice A0 S.D.fn.length ac0) (.slice A1 S.D.fl.length ac1) (.slice A2 S.D.nn.length ac2) (.slice A3 S.D.nl.length ac3) (.slice A4 S.D.ss.length ac4) (.slice A5 S.cs.length ac5) (.slice A6 S.ds.length ac6) S fs) := Lib.hid ⟨hO3, hN3.mono (by omega), ho3.mono (by omega), fun k h1 h2 => by have := (hlt1 k h1).2; have := (hlt2 k h2).1; omega, fun k h1 h2 => by have := (hlt1 k h1).2; have := (hlt3 k h2).1; omega, fun k h1 h2 => by have := (hlt2 k h1).2; have := (hlt3 k h2).1; omega⟩
  have HBW := Lib.hid hbw3
  clear hb3 hX2' hR2' hS2' hO2' hN2' hbv2 hO3 hN3 ho3 hlt1 hlt2 hlt3 hbw3
  (have x_0 := hX3.cell 0); (have x_1 := hX3.cell 1); (have x_2 := hX3.cell 2); (have x_3 := hX3.cell 3); (have x_4 := hX3.cell 4); (have x_5 := hX3.cell 5); (have x_6 := hX3.cell 6); (have x_7 := hX3.cell 7); simp only [List.getElem?_toArray, List.getElem?_cons_succ, List.getElem?_cons_zero] at x_0 x_1 x_2 x_3 x_4 x_5 x_6 x_7; (have x_f0 := hX3.frozen 0); (have x_f1 := hX3.frozen 1); (have x_f2 := hX3.frozen 2); (have x_f3 := hX3.frozen 3); (have x_f4 := hX3.frozen 4); (have x_f5 := hX3.frozen 5); (have x_f6 := hX3.frozen 6); (have x_f7 := hX3.frozen 7)
  (have r_0 := hR3.cell 0); (have r_1 := hR3.cell 1); (have r_2 := hR3.cell 2); (have r_3 := hR3.cell 3); (have r_4 := hR3.cell 4); (have r_5 := hR3.cell 5); (have r_6 := hR3.cell 6); (have r_7 := hR3.cell 7); simp only [List.getElem?_toArray, List.getElem?_cons_succ, List.getElem?_cons_zero] at r_0 r_1 r_2 r_3 r_4 r_5 r_6 r_7; (have r_f0 := hR3.frozen 0); (have r_f1 := hR3.frozen 1); (have r_f2 := hR3.frozen 2); (have r_f3 := hR3.frozen 3); (have r_f4 := hR3.frozen 4); (have r_f5 := hR3.frozen 5); (have r_f6 := hR3.frozen 6); (have r_f7 := hR3.frozen 7)
  (have s_0 := hS3.cell 0); (have s_1 := hS3.cell 1); (have s_2 := hS3.cell 2); (have s_3 := hS3.cell 3); (have s_4 := hS3.cell 4); (have s_5 := hS3.cell 5); (have s_6 := hS3.cell 6); (have s_7 := hS3.cell 7); simp only [List.getElem?_toArray, List.getElem?_cons_succ, List.getElem?_cons_zero] at s_0 s_1 s_2 s_3 s_4 s_5 s_6 s_7; (have s_f0 := hS3.frozen 0); (have s_f1 := hS3.frozen 1); (have s_f2 := hS3.frozen 2); (have s_f3 := hS3.frozen 3); (have s_f4 := hS3.frozen 4); (have s_f5 := hS3.frozen 5); (have s_f6 := hS3.frozen 6); (have s_f7 := hS3.frozen 7)
  go_wp2
  refine bodyPost_ret (v := .agg #[.slice A0 S.D.fn.length ac0, .slice A1 S.D.fl.length ac1, .slice A2 S.D.nn.length ac2, .slice A3 S.D.nl.length ac3, .slice A4 S.D.ss.length ac4, .slice A5 S.cs.length ac5, .slice A6 S.ds.length ac6, .int .i64 S.fund]) (by simp [results, Tryz.results17, go_sem, r_0, r_1, r_2, r_3, r_4, r_5, r_6, r_7, s_0, s_1, s_2, s_3, s_4, s_5, s_6, s_7, x_0, x_1, x_2, x_3, x_4, x_5, x_6, x_7, n0, n1, n2]) rfl ?_
  refine ⟨A0, ac0, A1, ac1, A2, ac2, A3, ac3, A4, ac4, A5, ac5, A6, ac6, fs, rfl, ?_, ?_⟩
  · refine OwnSt.mono (base := w.heap.size + 1 + 1 + 1) ?_ (by omega)
    repeat (first | (with_reducible exact HST.out) | (with_reducible refine OwnSt.setLow ?_ ?_ _))
    all_goals (first | omega | (simp; done) | (simp; omega))
  · have hbw3 := HBW.out
    (repeat' (first | (with_reducible exact Below.refl _ _) | (with_reducible assumption) | (with_reducible refine Below.drew ?_) | (with_reducible refine below_drewN ?_ _) | (with_reducible refine Below.alloc ?_ ?_ _) | (with_reducible refine Below.setCell ?_ ?_ _) | (with_reducible refine Below.step (by assumption) ?_ ?_))); all_goals (first | omega | (simp; done) | (simp; omega))

set_option maxHeartbeats 8000000 in
set_option maxRecDepth 100000 in
/-- Two studios that read alike are found equal. -/
theorem eqStudio_any (v0 v1 v2 v3 v4 v5 v6 u0 u1 u2 u3 u4 u5 u6 : Value) (S : St) (w : World) (h : RSt w v0 v1 v2 v3 v4 v5 v6 S) (g : RSt w u0 u1 u2 u3 u4 u5 u6 S) :
    Calls Tryz.prog 19 #[.agg #[v0, v1, v2, v3, v4, v5, v6, .int .i64 S.fund], .agg #[u0, u1, u2, u3, u4, u5, u6, .int .i64 S.fund]] w fun e w' => e = .returned (.bool true) ∧ Below w.heap.size w w' := by
  have a1 := h.dr
  have b1 := g.dr
  go_enter Tryz.func19, Tryz.ntmps19
  go_wp2_with fail
  refine (eqDraft_any _ _ _ _ _ _ _ _ _ _ S.D _ (a1.below (by (repeat' (first | (with_reducible exact Below.refl _ _) | (with_reducible assumption) | (with_reducible refine Below.drew ?_) | (with_reducible refine below_drewN ?_ _) | (with_reducible refine Below.alloc ?_ ?_ _) | (with_reducible refine Below.setCell ?_ ?_ _) | (with_reducible refine Below.step (by assumption) ?_ ?_))); all_goals (first | omega | (simp; done) | (simp; omega)))) (b1.below (by (repeat' (first | (with_reducible exact Below.refl _ _) | (with_reducible assumption) | (with_reducible refine Below.drew ?_) | (with_reducible refine below_drewN ?_ _) | (with_reducible refine Below.alloc ?_ ?_ _) | (with_reducible refine Below.setCell ?_ ?_ _) | (with_reducible refine Below.step (by assumption) ?_ ?_))); all_goals (first | omega | (simp; done) | (simp; omega))))).mono ?_
  rintro e w1 ⟨rfl, hb1⟩
  have hz1 := hb1.size
  simp at hz1
  have hX1 : Blk w1 w.heap.size 44 #[v0, v1, v2, v3, v4, v5, v6, .int .i64 S.fund] := Blk.below ((Blk.newAt rfl).alloc _) hb1 (by first | omega | (simp; done) | (simp; omega))
  have hY1 : Blk w1 (w.heap.size + 1) 44 #[u0, u1, u2, u3, u4, u5, u6, .int .i64 S.fund] := Blk.below (Blk.newAt (by simp)) hb1 (by first | omega | (simp; done) | (simp; omega))
  have hbw1 : Below w.heap.size w w1 := by (repeat' (first | (with_reducible exact Below.refl _ _) | (with_reducible assumption) | (with_reducible refine Below.drew ?_) | (with_reducible refine below_drewN ?_ _) | (with_reducible refine Below.alloc ?_ ?_ _) | (with_reducible refine Below.setCell ?_ ?_ _) | (with_reducible refine Below.step (by assumption) ?_ ?_))); all_goals (first | omega | (simp; done) | (simp; omega))
  clear hb1
  (have x_0 := hX1.cell 0); (have x_1 := hX1.cell 1); (have x_2 := hX1.cell 2); (have x_3 := hX1.cell 3); (have x_4 := hX1.cell 4); (have x_5 := hX1.cell 5); (have x_6 := hX1.cell 6); (have x_7 := hX1.cell 7); simp only [List.getElem?_toArray, List.getElem?_cons_succ, List.getElem?_cons_zero] at x_0 x_1 x_2 x_3 x_4 x_5 x_6 x_7
  (have y_0 := hY1.cell 0); (have y_1 := hY1.cell 1); (have y_2 := hY1.cell 2); (have y_3 := hY1.cell 3); (have y_4 := hY1.cell 4); (have y_5 := hY1.cell 5); (have y_6 := hY1.cell 6); (have y_7 := hY1.cell 7); simp only [List.getElem?_toArray, List.getElem?_cons_succ, List.getElem?_cons_zero] at y_0 y_1 y_2 y_3 y_4 y_5 y_6 y_7
  go_wp2_with fail
  refine (eqIntS_any _ _ S.cs S.cs _ (h.cs.below hbw1) (g.cs.below hbw1)).mono ?_
  rw [decide_eq_true (rfl : S.cs = S.cs)]
  rintro e w2 ⟨rfl, hb2⟩
  have hX2 := hX1.below hb2 hX1.lt
  have hY2 := hY1.below hb2 hY1.lt
  have hbw2 := hbw1.trans (hb2.mono hbw1.size)
  clear hb2 hX1 hY1 x_0 x_1 x_2 x_3 x_4 x_5 x_6 x_7 y_0 y_1 y_2 y_3 y_4 y_5 y_6 y_7
  (have x_0 := hX2.cell 0); (have x_1 := hX2.cell 1); (have x_2 := hX2.cell 2); (have x_3 := hX2.cell 3); (have x_4 := hX2.cell 4); (have x_5 := hX2.cell 5); (have x_6 := hX2.cell 6); (have x_7 := hX2.cell 7); simp only [List.getElem?_toArray, List.getElem?_cons_succ, List.getElem?_cons_zero] at x_0 x_1 x_2 x_3 x_4 x_5 x_6 x_7
  (have y_0 := hY2.cell 0); (have y_1 := hY2.cell 1); (have y_2 := hY2.cell 2); (have y_3 := hY2.cell 3); (have y_4 := hY2.cell 4); (have y_5 := hY2.cell 5); (have y_6 := hY2.cell 6); (have y_7 := hY2.cell 7); simp only [List.getElem?_toArray, List.getElem?_cons_succ, List.getElem?_cons_zero] at y_0 y_1 y_2 y_3 y_4 y_5 y_6 y_7
  go_wp2_with fail
  refine (eqDepositS_any _ _ S.ds _ (h.ds.below hbw2) (g.ds.below hbw2)).mono ?_
  rintro e w3 ⟨rfl, hb3⟩
  have hX3 := hX2.below hb3 hX2.lt
  have hY3 := hY2.below hb3 hY2.lt
  have hbw3 := hbw2.trans (hb3.mono hbw2.size)
  clear hb3 hX2 hY2 x_0 x_1 x_2 x_3 x_4 x_5 x_6 x_7 y_0 y_1 y_2 y_3 y_4 y_5 y_6 y_7
  have HBW := Lib.hid hbw3
  clear hbw3
  (have x_0 := hX3.cell 0); (have x_1 := hX3.cell 1); (have x_2 := hX3.cell 2); (have x_3 := hX3.cell 3); (have x_4 := hX3.cell 4); (have x_5 := hX3.cell 5); (have x_6 := hX3.cell 6); (have x_7 := hX3.cell 7); simp only [List.getElem?_toArray, List.getElem?_cons_succ, List.getElem?_cons_zero] at x_0 x_1 x_2 x_3 x_4 x_5 x_6 x_7
  (have y_0 := hY3.cell 0); (have y_1 := hY3.cell 1); (have y_2 := hY3.cell 2); (have y_3 := hY3.cell 3); (have y_4 := hY3.cell 4); (have y_5 := hY3.cell 5); (have y_6 := hY3.cell 6); (have y_7 := hY3.cell 7); simp only [List.getElem?_toArray, List.getElem?_cons_succ, List.getElem?_cons_zero] at y_0 y_1 y_2 y_3 y_4 y_5 y_6 y_7
  go_wp2
  go_ret
  exact ⟨rfl, HBW.out⟩

end Go.Proofs.YtoknmjpnelbplaaGreat

namespace Go.Proofs.YtoknmjpnelbplaaGreat
open Go.RowKit

end Go.Proofs.YtoknmjpnelbplaaGreat

namespace Go.Proofs.YtoknmjpnelbplaaGreat
open Go.RowKit

/-- The copy in its variable. -/
structure OutSt (w : World) (v0 v1 v2 v3 v4 : Value) (Z : Nat) (a b c d e : Value) (D : Dr) (fs : List SF) (wr : World) : Prop where
  own : OwnD (w.heap.size + 1 + 1) wr a b c d e D fs
  X : Blk wr w.heap.size 41 #[v0, v1, v2, v3, v4]
  R : Blk wr (w.heap.size + 1) 41 #[.slice none 0 0, .slice none 0 0, .slice none 0 0, .slice none 0 0, .slice none 0 0]
  Z_ : Blk wr Z 41 #[a, b, c, d, e]
  lt : w.heap.size + 1 < Z
  far : ¬ blksD a b c d e fs Z
  blw : Below w.heap.size w wr

section
variable {w wr wr' : World} {v0 v1 v2 v3 v4 a b c d e : Value} {Z : Nat} {D : Dr} {fs : List SF}
end

end Go.Proofs.YtoknmjpnelbplaaGreat

namespace Go.Proofs.YtoknmjpnelbplaaGreat
open Go.RowKit

attribute [local go_sem ↓] run_mn2 run_mx2

/-- Two groups put together. -/
def joinG (a b x : Int) : Int := if x = mx2 a b then mn2 a b else x

/-- Among the first j. -/
def mgK (a b : Int) (g : List Int) (j : Nat) : List Int := (g.take j).map (joinG a b) ++ g.drop j

theorem mgK_zero (a b : Int) (g : List Int) : mgK a b g 0 = g := by simp [mgK]
theorem mgK_all (a b : Int) (g : List Int) : mgK a b g g.length = g.map (joinG a b) := by simp [mgK]
theorem mgK_len (a b : Int) (g : List Int) (j : Nat) : (mgK a b g j).length = g.length := by
  simp [mgK]; omega
theorem mgK_get (a b : Int) (g : List Int) (j : Nat) (h : j < g.length) : (mgK a b g j).getD j 0 = g.getD j 0 := by
  unfold mgK
  rw [List.getD, List.getElem?_append_right (by simp; omega)]
  simp [List.getD, show min j g.length = j by omega]
theorem mgK_succ (a b : Int) (g : List Int) (j : Nat) (h : j < g.length) : mgK a b g (j + 1) = (mgK a b g j).set j (joinG a b (g.getD j 0)) := by
  unfold mgK
  rw [List.set_append, if_neg (by simp; omega), List.take_succ_eq_append_getElem h, List.drop_eq_getElem_cons h]
  have e : ((g.take j).map (joinG a b)).length = j := by simp; omega
  rw [e, Nat.sub_self, List.set_cons_zero, List.map_append, List.map_cons, List.map_nil, List.append_assoc, List.singleton_append, show g.getD j 0 = g[j] by simp [List.getD, h]]
theorem mgK_yes {a b : Int} {g : List Int} {j : Nat} (h : j < g.length) (he : g.getD j 0 = mx2 a b) : mgK a b g (j + 1) = (mgK a b g j).set j (mn2 a b) := by
  rw [mgK_succ a b g j h, joinG, if_pos he]
theorem set_same : ∀ (l : List Int) (j : Nat) (h : j < l.length), l.set j (l.getD j 0) = l
  | x :: l, 0, _ => rfl
  | x :: l, j + 1, h => by
    have := set_same l j (by simpa using h)
    simp only [List.getD_cons_succ, List.set_cons_succ, this]
theorem mgK_no {a b : Int} {g : List Int} {j : Nat} (h : j < g.length) (he : ¬ g.getD j 0 = mx2 a b) : mgK a b g (j + 1) = mgK a b g j := by
  rw [mgK_succ a b g j h, joinG, if_neg he, ← mgK_get a b g j h]
  exact set_same _ _ (by rw [mgK_len]; exact h)

def pstep (g : List Int) (l : Pr) : List Int := g.map (joinG (g.getD l.1.toNat 0) (g.getD l.2.toNat 0))

/-- The groups behind the first k leads. -/
def partsK (n : Nat) (ls : List Pr) (k : Nat) : List Int := (ls.take k).foldl pstep (natI (List.range n))

theorem foldl_pstep_len : ∀ (l : List Pr) (g : List Int), (l.foldl pstep g).length = g.length
  | [], g => rfl
  | p :: l, g => by rw [List.foldl_cons, foldl_pstep_len l]; simp [pstep]
theorem partsK_len (n : Nat) (ls : List Pr) (k : Nat) : (partsK n ls k).length = n := by
  unfold partsK
  rw [foldl_pstep_len]; simp [natI]
theorem partsK_zero (n : Nat) (ls : List Pr) : partsK n ls 0 = natI (List.range n) := rfl
theorem partsK_succ (n : Nat) (ls : List Pr) (k : Nat) (h : k < ls.length) (p q : Nat) (hp : (ndI ls k).1 = p) (hq : (ndI ls k).2 = q) :
    partsK n ls (k + 1) = (partsK n ls k).map (joinG ((partsK n ls k).getD p 0) ((partsK n ls k).getD q 0)) := by
  unfold partsK
  rw [List.take_succ_eq_append_getElem h, List.foldl_append, List.foldl_cons, List.foldl_nil, pstep]
  have e : ls[k] = ndI ls k := (ndI_nat ls k h).symm
  rw [e, hp, hq, Int.toNat_natCast, Int.toNat_natCast]

theorem natI_snoc (k : Nat) : natI (List.range (k + 1)) = natI (List.range k) ++ [(k : Int)] := by simp [natI, List.range_succ]

set_option maxHeartbeats 8000000 in
set_option maxRecDepth 100000 in
theorem sParts_any (vn vl : Value) (ns ls : List Pr) (w : World) (hn : RP w vn ns) (hl : RP w vl ls) (hm : ls.length ≤ 20) (hn12 : ns.length ≤ 12) (hn0 : 0 < ns.length) (hld : ∀ j : Nat, j < ls.length → leadB ns (ndI ls j) = true) :
    Calls Tryz.prog 122 #[.agg #[vn, vl]] w (RetI (partsK ns.length ls ls.length) w) := by
  obtain ⟨An, cn, rfl, hcn, hmn, _⟩ := hn.formI
  obtain ⟨Al, cl, rfl, hcl, hml, hcell⟩ := hl.formI
  unfold maxLen at hmn hml
  obtain ⟨i0, hi, iz0, iz1, iz2⟩ := info_parts infoInt
  have HLD := Lib.hid hld
  have HCELL := Lib.hid hcell
  clear hld hcell
  go_enter Tryz.func122, Tryz.ntmps122
  go_wp2
  go_loopw [3, 4] (fun v i wr => ∃ k : Nat, k ≤ ns.length ∧ i = .int .i64 k ∧ OwnI (w.heap.size + 1) wr v (natI (List.range k)) ∧ Blk wr w.heap.size 38 #[.slice An ns.length cn, .slice Al ls.length cl] ∧ Below w.heap.size w wr) (fun _ i _ => ns.length - (intOf i).toNat)
  case atStart => exact ⟨0, Nat.zero_le _, rfl, OwnI.made (by simp) (by simp), (Blk.newAt rfl).alloc _, by (repeat' (first | (with_reducible exact Below.refl _ _) | (with_reducible assumption) | (with_reducible refine Below.drew ?_) | (with_reducible refine below_drewN ?_ _) | (with_reducible refine Below.alloc ?_ ?_ _) | (with_reducible refine Below.setCell ?_ ?_ _) | (with_reducible refine Below.step (by assumption) ?_ ?_))); all_goals (first | omega | (simp; done) | (simp; omega))⟩
  case round =>
    obtain ⟨k, hk, rfl, ho, hW, hbl⟩ := hrel
    have hsz := hW.lt
    (have a_0 := hW.cell 0); (have a_1 := hW.cell 1); simp only [List.getElem?_toArray, List.getElem?_cons_succ, List.getElem?_cons_zero] at a_0 a_1
    obtain ⟨A1, c1, hv1⟩ := ho.form
    rw [natI_length, List.length_range] at hv1
    subst hv1
    by_cases hlt : k < ns.length
    · have HS := Lib.hid (natI_snoc k)
      have HGL : Hid ((natI (List.range k)).length = k) := Lib.hid (by simp [natI])
      generalize natI (List.range k) = G at *
      go_wp2_with (at_builtin; refine wpList_append_own _ rfl _ _ 29 rfl (w.heap.size + 1) 3 i0 (.int .i64 0) 1 8 Tryz.underlying29 hi iz0 iz1 iz2 rfl (by decide) _ _ _ rfl (World.ownsRow.alloc ho _) ⟨wr.heap.size, 0, none⟩ 1 1 [.int .i64 _] rfl rfl (cell_one_new _ _ _) (by intro u hu; simp at hu; subst hu; rfl) (by rw [HGL.out]; unfold maxLen; omega) (by rw [HGL.out]; omega) (by simp; omega) ?_)
      intro v2 w2 hown2 hg2 hne2
      have hb2 := (hbl.alloc (show w.heap.size ≤ wr.heap.size by omega) (.cells #[.int .i64 (k : Int)] 3)).grown hg2 (by simp; omega) (fun k hk => by have := (ho.lt k hk).1; omega)
      have hW2 : Blk w2 w.heap.size 38 #[.slice An ns.length cn, .slice Al ls.length cl] := (hg2.block _ (by simp; omega) (fun e => by have := (ho.lt _ e.symm).1; omega)).trans (hW.alloc _)
      have ho2 := Lib.hid (OwnI.snoc hown2)
      clear hg2 hne2 hown2 ho hW hbl a_0 a_1
      go_wp2
      go_roundw
      case rel => exact ⟨k + 1, by omega, by go_num, by rw [HS.out]; exact ho2.out, hW2, hb2⟩
      case measure => simp [intOf]; omega
    · have hkk : k = ns.length := by omega
      subst hkk
      rcases hcase : ho.2 with ⟨e0, e1⟩ | ⟨gb, cap, cur, e0, hbg, hrest⟩
      · rw [natI_length, List.length_range] at e1; omega
      clear hcase hrest
      injection e0 with e0 e1 e2
      subst e0 e2
      clear e1
      have hgz := (ho.lt gb rfl).2
      have hne : ¬ gb = w.heap.size := by omega
      have ho' := Lib.hid (show OwnI (w.heap.size + 1) wr (.slice (some ⟨gb, 0, none⟩) ns.length c1) (partsK ns.length ls 0) from ho)
      clear ho hlt hk
      go_wp2
      go_loopw [5] (fun i wr => ∃ k : Nat, k ≤ ls.length ∧ i = .int .i64 k ∧ OwnI (w.heap.size + 1) wr (.slice (some ⟨gb, 0, none⟩) ns.length c1) (partsK ns.length ls k) ∧ Blk wr w.heap.size 38 #[.slice An ns.length cn, .slice Al ls.length cl] ∧ Below w.heap.size w wr ∧ gb < wr.heap.size) (fun i _ => ls.length - (intOf i).toNat)
      case atStart => exact ⟨0, Nat.zero_le _, rfl, ho'.out, hW, hbl, hgz⟩
      case round =>
        clear ho' hW hbl hgz hsz a_0 a_1
        obtain ⟨k, hk, rfl, ho, hW, hbl, hgz⟩ := hrel
        have hsz := hW.lt
        (have a_0 := hW.cell 0); (have a_1 := hW.cell 1); simp only [List.getElem?_toArray, List.getElem?_cons_succ, List.getElem?_cons_zero] at a_0 a_1
        by_cases hlt : k < ls.length
        · obtain ⟨b, off, rfl, hb, hcl⟩ := HCELL.out (by omega)
          obtain ⟨k0, k1⟩ := hcl k hlt
          have q0 := (hbl.cell (p := ⟨b, off + k * 2, none⟩) hb).trans k0
          have q1 := (hbl.cell (p := ⟨b, off + k * 2 + 1, none⟩) hb).trans k1
          obtain ⟨h1, h2, h3, _⟩ := leadB_iff.1 (HLD.out k hlt)
          obtain ⟨p, hp⟩ : ∃ p : Nat, (ndI ls k).1 = p := ⟨(ndI ls k).1.toNat, by omega⟩
          obtain ⟨q, hq⟩ : ∃ q : Nat, (ndI ls k).2 = q := ⟨(ndI ls k).2.toNat, by omega⟩
          have HS := Lib.hid (partsK_succ ns.length ls k hlt p q hp hq)
          have HGL := Lib.hid (partsK_len ns.length ls k)
          rw [hp] at q0 h1 h2
          rw [hq] at q1 h2 h3
          have hpn : p < ns.length := by omega
          have hqn : q < ns.length := by omega
          generalize partsK ns.length ls k = G at *
          have x0 := ho.cell (q := p) (by rw [HGL.out]; exact hpn)
          have x1 := ho.cell (q := q) (by rw [HGL.out]; exact hqn)
          obtain ⟨a, ha⟩ : ∃ a, G.getD p 0 = a := ⟨_, rfl⟩
          obtain ⟨c, hc⟩ : ∃ c, G.getD q 0 = c := ⟨_, rfl⟩
          rw [ha] at x0 HS
          rw [hc] at x1 HS
          have ip1 : (0 : Int) ≤ (p : Int) := by omega
          have ip2 : (p : Int) < (ns.length : Int) := by omega
          have iq1 : (0 : Int) ≤ (q : Int) := by omega
          have iq2 : (q : Int) < (ns.length : Int) := by omega
          have ho' := Lib.hid (show OwnI (w.heap.size + 1) wr (.slice (some ⟨gb, 0, none⟩) ns.length c1) (mgK a c G 0) by rw [mgK_zero]; exact ho)
          clear hcl k0 k1 hp hq ha hc ho h1 h2 h3
          go_wp2
          go_loopw [8] (fun x wr => ∃ j : Nat, j ≤ ns.length ∧ x = .int .i64 j ∧ OwnI (w.heap.size + 1) wr (.slice (some ⟨gb, 0, none⟩) ns.length c1) (mgK a c G j) ∧ Blk wr w.heap.size 38 #[.slice An ns.length cn, .slice (some ⟨b, off, none⟩) ls.length cl] ∧ Below w.heap.size w wr ∧ gb < wr.heap.size) (fun x _ => ns.length - (intOf x).toNat)
          case atStart => exact ⟨0, Nat.zero_le _, rfl, ho'.out, hW, hbl, hgz⟩
          case round =>
            clear ho' hW hbl hgz hsz a_0 a_1 q0 q1 x0 x1
            obtain ⟨j, hj, rfl, ho, hW, hbl, hgz⟩ := hrel
            have hsz := hW.lt
            (have a_0 := hW.cell 0); (have a_1 := hW.cell 1); simp only [List.getElem?_toArray, List.getElem?_cons_succ, List.getElem?_cons_zero] at a_0 a_1
            by_cases hlj : j < ns.length
            · have hjg : j < G.length := by rw [HGL.out]; exact hlj
              have x0 := ho.cell (q := j) (by rw [mgK_len]; exact hjg)
              rw [mgK_get a c G j hjg] at x0
              have HY := Lib.hid (fun he => mgK_yes (a := a) (b := c) hjg he)
              have HN := Lib.hid (fun he => mgK_no (a := a) (b := c) hjg he)
              generalize G.getD j 0 = x at *
              by_cases he : x = mx2 a c
              · have e1 : (x == mx2 a c) = true := beq_iff_eq.2 he
                have fp := ho.frz j
                have HO := Lib.hid (show OwnI (w.heap.size + 1) (wr.setCell ⟨gb, j, none⟩ (.int .i64 (mn2 a c))) (.slice (some ⟨gb, 0, none⟩) ns.length c1) (mgK a c G (j + 1)) by rw [HY.out he]; exact ho.set_ j _)
                have HB2 := Lib.hid (hbl.setCell (p := ⟨gb, j, none⟩) (show w.heap.size ≤ gb by omega) (.int .i64 (mn2 a c)))
                have HW2 := Lib.hid (hW.far (p := ⟨gb, j, none⟩) (Ne.symm hne) (.int .i64 (mn2 a c)))
                clear ho hW hbl he a_0 a_1
                go_wp2
                go_roundw
                case rel => exact ⟨j + 1, by omega, by go_num, HO.out, HW2.out, HB2.out, by simpa using hgz⟩
                case measure => simp [intOf]; omega
              · have e1 : (x == mx2 a c) = false := beq_eq_false_iff_ne.2 he
                have HO := Lib.hid (show OwnI (w.heap.size + 1) wr (.slice (some ⟨gb, 0, none⟩) ns.length c1) (mgK a c G (j + 1)) by rw [HN.out he]; exact ho)
                clear ho he
                go_wp2
                go_roundw
                case rel => exact ⟨j + 1, by omega, by go_num, HO.out, hW, hbl, hgz⟩
                case measure => simp [intOf]; omega
            · have hjj : j = ns.length := by omega
              subst hjj
              have HO := Lib.hid (show OwnI (w.heap.size + 1) wr (.slice (some ⟨gb, 0, none⟩) ns.length c1) (partsK ns.length ls (k + 1)) by
                rw [HS.out, ← mgK_all]; rw [HGL.out]; exact ho)
              clear ho
              go_wp2
              go_roundw
              case rel => exact ⟨k + 1, by omega, by go_num, HO.out, hW, hbl, hgz⟩
              case measure => simp [intOf]; omega
        · have hkk : k = ls.length := by omega
          subst hkk
          have HO := Lib.hid ho
          clear ho
          go_wp2
          go_ret
          exact ⟨_, rfl, HO.out.mono (by omega), hbl⟩

/-- The window is valid, has leads, and hangs together. -/
noncomputable def wholeB (ns ls : List Pr) : Bool := winB ns ls && (decide (0 < ls.length) && (partsK ns.length ls ls.length).all (· == 0))

theorem whole_win {ns ls : List Pr} (h : wholeB ns ls = true) : WinOk ns ls ∧ 0 < ls.length := by
  unfold wholeB at h
  rw [Bool.and_eq_true, Bool.and_eq_true] at h
  exact ⟨winB_true.1 h.1, by simpa using h.2.1⟩

set_option maxHeartbeats 4000000 in
set_option maxRecDepth 100000 in
theorem sWhole_any (vn vl : Value) (ns ls : List Pr) (w : World) (hn : RP w vn ns) (hl : RP w vl ls) :
    Calls Tryz.prog 64 #[.agg #[vn, vl]] w fun e w' => e = .returned (.bool (wholeB ns ls)) ∧ Below w.heap.size w w' := by
  obtain ⟨An, cn, rfl, hcn, hmn, _⟩ := hn.formI
  obtain ⟨Al, cl, rfl, hcl, hml, _⟩ := hl.formI
  unfold maxLen at hmn hml
  have hb0 : Below w.heap.size w (w.alloc (.cells #[.slice An ns.length cn, .slice Al ls.length cl] 38)) := by (repeat' (first | (with_reducible exact Below.refl _ _) | (with_reducible assumption) | (with_reducible refine Below.drew ?_) | (with_reducible refine below_drewN ?_ _) | (with_reducible refine Below.alloc ?_ ?_ _) | (with_reducible refine Below.setCell ?_ ?_ _) | (with_reducible refine Below.step (by assumption) ?_ ?_))); all_goals (first | omega | (simp; done) | (simp; omega))
  cases hw : winB ns ls
  · have HR : Hid (wholeB ns ls = false) := Lib.hid (by simp [wholeB, hw])
    go_enter Tryz.func64, Tryz.ntmps64
    go_wp2_with fail
    refine (sWinOk_at _ _ ns ls _ _ (hn.below hb0) (hl.below hb0) hw).mono ?_
    rintro e w1 ⟨rfl, hb1⟩; (first | (with_reducible have hcf1 := bcell_drew hb1) | have hcf1 := bcell hb1); obtain ⟨hc1, hf1⟩ := hcf1; have hz1 := hb1.size; (try simp at hz1); (try have hp1_0 : w.heap.size < w1.heap.size := by omega); (try have hp1_1 : w.heap.size + 1 < w1.heap.size := by omega); (try have hp1_2 : w.heap.size + 1 + 1 < w1.heap.size := by omega); (try have hp1_3 : w.heap.size + 1 + 1 + 1 < w1.heap.size := by omega)
    go_wp2
    go_ret
    exact ⟨ret_bool HR.out.symm, by (repeat' (first | (with_reducible exact Below.refl _ _) | (with_reducible assumption) | (with_reducible refine Below.drew ?_) | (with_reducible refine below_drewN ?_ _) | (with_reducible refine Below.alloc ?_ ?_ _) | (with_reducible refine Below.setCell ?_ ?_ _) | (with_reducible refine Below.step (by assumption) ?_ ?_))); all_goals (first | omega | (simp; done) | (simp; omega))⟩
  · by_cases h0 : ls.length = 0
    · have HR : Hid (wholeB ns ls = false) := Lib.hid (by simp [wholeB, hw, h0])
      have e1 : ((ls.length : Int) == 0) = true := by simp [h0]
      clear h0
      go_enter Tryz.func64, Tryz.ntmps64
      go_wp2_with fail
      refine (sWinOk_at _ _ ns ls _ _ (hn.below hb0) (hl.below hb0) hw).mono ?_
      rintro e w1 ⟨rfl, hb1⟩; (first | (with_reducible have hcf1 := bcell_drew hb1) | have hcf1 := bcell hb1); obtain ⟨hc1, hf1⟩ := hcf1; have hz1 := hb1.size; (try simp at hz1); (try have hp1_0 : w.heap.size < w1.heap.size := by omega); (try have hp1_1 : w.heap.size + 1 < w1.heap.size := by omega); (try have hp1_2 : w.heap.size + 1 + 1 < w1.heap.size := by omega); (try have hp1_3 : w.heap.size + 1 + 1 + 1 < w1.heap.size := by omega)
      go_wp2
      go_ret
      exact ⟨ret_bool HR.out.symm, by (repeat' (first | (with_reducible exact Below.refl _ _) | (with_reducible assumption) | (with_reducible refine Below.drew ?_) | (with_reducible refine below_drewN ?_ _) | (with_reducible refine Below.alloc ?_ ?_ _) | (with_reducible refine Below.setCell ?_ ?_ _) | (with_reducible refine Below.step (by assumption) ?_ ?_))); all_goals (first | omega | (simp; done) | (simp; omega))⟩
    · have hok := winB_true.1 hw
      have HR : Hid (wholeB ns ls = (partsK ns.length ls ls.length).all (· == 0)) := Lib.hid (by simp [wholeB, hw]; omega)
      have e1 : ((ls.length : Int) == 0) = false := by simp [h0]
      have HOK := Lib.hid hok
      clear hok h0
      go_enter Tryz.func64, Tryz.ntmps64
      go_wp2_with fail
      refine (sWinOk_at _ _ ns ls _ _ (hn.below hb0) (hl.below hb0) hw).mono ?_
      rintro e w1 ⟨rfl, hb1⟩
      have hbw1 : Below w.heap.size w w1 := by (repeat' (first | (with_reducible exact Below.refl _ _) | (with_reducible assumption) | (with_reducible refine Below.drew ?_) | (with_reducible refine below_drewN ?_ _) | (with_reducible refine Below.alloc ?_ ?_ _) | (with_reducible refine Below.setCell ?_ ?_ _) | (with_reducible refine Below.step (by assumption) ?_ ?_))); all_goals (first | omega | (simp; done) | (simp; omega))
      have hW1 : Blk w1 w.heap.size 38 #[.slice An ns.length cn, .slice Al ls.length cl] := (Blk.newAt rfl).below hb1 (by simp)
      have hsz := hW1.lt
      (have a_0 := hW1.cell 0); (have a_1 := hW1.cell 1); simp only [List.getElem?_toArray, List.getElem?_cons_succ, List.getElem?_cons_zero] at a_0 a_1
      clear hb1
      go_wp2_with fail
      refine (sParts_any _ _ ns ls _ (hn.below hbw1) (hl.below hbw1) HOK.out.2.2.1 HOK.out.2.1 HOK.out.1 (fun j hj => (HOK.out.2.2.2.2.2 j hj).1)).mono ?_
      rintro e w2 ⟨v, rfl, ho2, hb2⟩
      have hbw2 := hbw1.trans (hb2.mono hbw1.size)
      have HGL := Lib.hid (partsK_len ns.length ls ls.length)
      obtain ⟨A, c, rfl, hc, hm, hcell⟩ := ho2.reads.form
      generalize partsK ns.length ls ls.length = G at *
      unfold maxLen at hm
      clear hb2 ho2 hW1 a_0 a_1 hsz hbw1 hw
      go_wp2
      go_loop [4] (fun i => ∃ k : Nat, k ≤ G.length ∧ i = .int .i64 k ∧ (G.take k).all (· == 0) = true) (fun i => G.length - (intOf i).toNat)
      case atStart => exact ⟨0, Nat.zero_le _, rfl, by simp⟩
      case round =>
        obtain ⟨k, hk, rfl, hall⟩ := hrel
        by_cases hlt : k < G.length
        · obtain ⟨b, off, rfl, hb, hcl⟩ := hcell (by omega)
          have hck := hcl k hlt
          clear hcl hcell
          have hts : (G.take (k + 1)).all (· == 0) = (G.getD k 0 == 0) := by
            rw [List.take_succ_eq_append_getElem hlt, List.all_append, hall]
            simp [List.getD, List.getElem?_eq_getElem hlt]
          have hex : (G.getD k 0 == 0) = false → G.all (· == 0) = false := by
            intro h0
            rw [List.all_eq_false]
            exact ⟨G[k], List.getElem_mem hlt, by simpa [List.getD, List.getElem?_eq_getElem hlt] using h0⟩
          generalize hx : G.getD k 0 = x at *
          have HTS := Lib.hid hts
          have HEX := Lib.hid hex
          clear hts hex hall hx
          by_cases hq : x = 0
          · have HQ : Hid ((x == 0) = true) := Lib.hid (by simp [hq])
            have e2 : (x != 0) = false := by simp [hq]
            clear hq
            go_wp2
            go_round
            case rel => exact ⟨k + 1, by omega, by go_num, by rw [HTS.out]; exact HQ.out⟩
            case measure => simp [intOf]; omega
          · have HQ : Hid ((x == 0) = false) := Lib.hid (by simp [hq])
            have e2 : (x != 0) = true := by simp [hq]
            clear hq
            go_wp2
            go_ret
            exact ⟨ret_bool (by rw [HR.out]; exact (HEX.out HQ.out).symm), hbw2⟩
        · have hkk : G.length ≤ k := by omega
          rw [List.take_of_length_le hkk] at hall
          have HA := Lib.hid hall
          clear hall hcell
          go_wp2
          go_ret
          exact ⟨ret_bool (by rw [HR.out]; exact HA.out.symm), hbw2⟩

theorem sWhole_at (vn vl : Value) (ns ls : List Pr) (b : Bool) (w : World) (hn : RP w vn ns) (hl : RP w vl ls) (hb : wholeB ns ls = b) :
    Calls Tryz.prog 64 #[.agg #[vn, vl]] w fun e w' => e = .returned (.bool b) ∧ Below w.heap.size w w' := by
  subst hb; exact sWhole_any vn vl ns ls w hn hl

end Go.Proofs.YtoknmjpnelbplaaGreat

namespace Go.Proofs.YtoknmjpnelbplaaGreat
open Go.RowKit

theorem bits_or_nat {a b : Nat} (ha : a < 2 ^ 63) (hb : b < 2 ^ 63) : bits .or .i64 (a : Int) (b : Int) = ((a ||| b : Nat) : Int) := by
  have e : bits .or .i64 (a : Int) (b : Int) = IntKind.i64.wrap ((BitVec.ofInt 64 (a : Int) ||| BitVec.ofInt 64 (b : Int)).toNat : Int) := rfl
  have h : a ||| b < 2 ^ 63 := Nat.or_lt_two_pow ha hb
  rw [e, BitVec.ofInt_natCast, BitVec.ofInt_natCast, BitVec.toNat_or, BitVec.toNat_ofNat, BitVec.toNat_ofNat, Nat.mod_eq_of_lt (by omega), Nat.mod_eq_of_lt (by omega)]
  exact IntWalk.i64_in _ (by omega)

theorem bits_and_nat {a b : Nat} (ha : a < 2 ^ 63) (hb : b < 2 ^ 63) : bits .and .i64 (a : Int) (b : Int) = ((a &&& b : Nat) : Int) := by
  have e : bits .and .i64 (a : Int) (b : Int) = IntKind.i64.wrap ((BitVec.ofInt 64 (a : Int) &&& BitVec.ofInt 64 (b : Int)).toNat : Int) := rfl
  have h : a &&& b ≤ a := Nat.and_le_left
  rw [e, BitVec.ofInt_natCast, BitVec.ofInt_natCast, BitVec.toNat_and, BitVec.toNat_ofNat, BitVec.toNat_ofNat, Nat.mod_eq_of_lt (by omega), Nat.mod_eq_of_lt (by omega)]
  exact IntWalk.i64_in _ (by omega)

theorem bits_xor_nat {a b : Nat} (ha : a < 2 ^ 63) (hb : b < 2 ^ 63) : bits .xor .i64 (a : Int) (b : Int) = ((a ^^^ b : Nat) : Int) := by
  have e : bits .xor .i64 (a : Int) (b : Int) = IntKind.i64.wrap ((BitVec.ofInt 64 (a : Int) ^^^ BitVec.ofInt 64 (b : Int)).toNat : Int) := rfl
  have h : a ^^^ b < 2 ^ 63 := Nat.xor_lt_two_pow ha hb
  rw [e, BitVec.ofInt_natCast, BitVec.ofInt_natCast, BitVec.toNat_xor, BitVec.toNat_ofNat, BitVec.toNat_ofNat, Nat.mod_eq_of_lt (by omega), Nat.mod_eq_of_lt (by omega)]
  exact IntWalk.i64_in _ (by omega)

/-- Is bit k set? As the program asks: set>>k&1 == 1. -/
theorem bit_test {s k : Nat} (hs : s < 2 ^ 62) : bits .and .i64 ((s : Int) / 2 ^ k) 1 = if s.testBit k then 1 else 0 := by
  have e : ((s : Int) / 2 ^ k) = ((s / 2 ^ k : Nat) : Int) := by rw [Int.natCast_ediv]; rfl
  have hle : s / 2 ^ k ≤ s := Nat.div_le_self _ _
  have h := bits_and_nat (a := s / 2 ^ k) (b := 1) (by omega) (by omega)
  rw [e, show (1 : Int) = ((1 : Nat) : Int) from rfl, h, Nat.and_one_is_mod, Nat.testBit_eq_decide_div_mod_eq]
  have h2 : s / 2 ^ k % 2 = 0 ∨ s / 2 ^ k % 2 = 1 := by omega
  rcases h2 with h2 | h2 <;> simp [h2]

theorem shl_one {k : Nat} (hk : k < 62) : IntKind.i64.wrap (1 * 2 ^ k) = ((2 ^ k : Nat) : Int) := by
  have h : (2 : Nat) ^ k < 2 ^ 62 := Nat.pow_lt_pow_right (by omega) hk
  have e : (1 * 2 ^ k : Int) = ((2 ^ k : Nat) : Int) := by rw [Int.one_mul, Int.natCast_pow]; rfl
  rw [e]
  clear e
  generalize (2 : Nat) ^ k = z at *
  exact IntWalk.i64_in _ (by omega)

/-- The members of a set among the first m numbers. -/
def memS (s m : Nat) : List Nat := (List.range m).filter (s.testBit ·)

theorem memS_succ_yes {s m : Nat} (h : s.testBit m = true) : memS s (m + 1) = memS s m ++ [m] := by simp [memS, List.range_succ, List.filter_append, h]
theorem memS_succ_no {s m : Nat} (h : s.testBit m = false) : memS s (m + 1) = memS s m := by simp [memS, List.range_succ, List.filter_append, h]
theorem memS_le (s m : Nat) : (memS s m).length ≤ m := by
  have := List.length_filter_le (s.testBit ·) (List.range m)
  simpa [memS] using this

theorem memS_all {s m : Nat} : (memS s m).length = m ↔ ∀ i, i < m → s.testBit i = true := by
  constructor
  · intro h i hi
    have h2 : (List.range m).filter (s.testBit ·) = List.range m := List.length_filter_eq_length_iff.1 (by simpa [memS] using h) |> fun h3 => List.filter_eq_self.2 h3
    have := List.filter_eq_self.1 h2 i (List.mem_range.2 hi)
    exact this
  · intro h
    have h2 : (List.range m).filter (s.testBit ·) = List.range m := List.filter_eq_self.2 (fun i hi => h i (List.mem_range.1 hi))
    simp [memS, h2]

/-- Behind the last bit. -/
theorem memS_more {s m : Nat} (h : s < 2 ^ m) : ∀ j, memS s (m + j) = memS s m
  | 0 => rfl
  | j + 1 => by
    rw [show m + (j + 1) = (m + j) + 1 by omega, memS_succ_no (Nat.testBit_lt_two_pow (Nat.lt_of_lt_of_le h (Nat.pow_le_pow_right (by omega) (by omega))))]
    exact memS_more h j

end Go.Proofs.YtoknmjpnelbplaaGreat

namespace Go.Proofs.YtoknmjpnelbplaaGreat

/-- A lead's ends join the set if one of them is in it. -/
def addS (s : Nat) (l : Pr) : Nat := if s.testBit l.1.toNat || s.testBit l.2.toNat then s ||| (2 ^ l.1.toNat ||| 2 ^ l.2.toNat) else s
def roundS (s : Nat) (ls : List Pr) : Nat := ls.foldl addS s
def roundsS (s : Nat) (ls : List Pr) : Nat → Nat
  | 0 => s
  | k + 1 => roundS (roundsS s ls k) ls

theorem addS_sub (s : Nat) (l : Pr) {i : Nat} (h : s.testBit i = true) : (addS s l).testBit i = true := by
  unfold addS
  split
  · rw [Nat.testBit_or, h]; rfl
  · exact h

theorem roundS_sub : ∀ (ls : List Pr) (s : Nat) {i : Nat}, s.testBit i = true → (roundS s ls).testBit i = true
  | [], s, i, h => h
  | l :: ls, s, i, h => by
    show (roundS (addS s l) ls).testBit i = true
    exact roundS_sub ls _ (addS_sub s l h)

theorem roundS_append (s : Nat) (a b : List Pr) : roundS s (a ++ b) = roundS (roundS s a) b := by simp [roundS]

theorem addS_lt {s m : Nat} {l : Pr} (hs : s < 2 ^ m) (h1 : l.1.toNat < m) (h2 : l.2.toNat < m) : addS s l < 2 ^ m := by
  unfold addS
  split
  · exact Nat.or_lt_two_pow hs (Nat.or_lt_two_pow (Nat.pow_lt_pow_right (by omega) h1) (Nat.pow_lt_pow_right (by omega) h2))
  · exact hs

theorem roundS_lt {m : Nat} : ∀ (ls : List Pr) (s : Nat), s < 2 ^ m → (∀ l ∈ ls, l.1.toNat < m ∧ l.2.toNat < m) → roundS s ls < 2 ^ m
  | [], s, h, _ => h
  | l :: ls, s, h, hl => by
    show roundS (addS s l) ls < 2 ^ m
    exact roundS_lt ls _ (addS_lt h (hl l (by simp)).1 (hl l (by simp)).2) (fun x hx => hl x (by simp [hx]))

theorem roundsS_lt {m : Nat} {ls : List Pr} {s : Nat} (h : s < 2 ^ m) (hl : ∀ l ∈ ls, l.1.toNat < m ∧ l.2.toNat < m) : ∀ k, roundsS s ls k < 2 ^ m
  | 0 => h
  | k + 1 => roundS_lt ls _ (roundsS_lt h hl k) hl

/-- A round that turns nothing: no lead leads out of the set. -/
theorem round_fix {s : Nat} {ls : List Pr} (h : roundS s ls = s) : ∀ l ∈ ls, (s.testBit l.1.toNat = true ↔ s.testBit l.2.toNat = true) := by
  have key : ∀ (ls : List Pr) (t : Nat), (∀ i, s.testBit i = true → t.testBit i = true) → (∀ i, (roundS t ls).testBit i = true → s.testBit i = true) → ∀ l ∈ ls, (s.testBit l.1.toNat = true ↔ s.testBit l.2.toNat = true) := by
    intro ls
    induction ls with
    | nil => intro t _ _ l hl; cases hl
    | cons x ls ih =>
      intro t h1 h2 l hl
      have h3 : ∀ i, (addS t x).testBit i = true → s.testBit i = true := fun i hi => h2 i (roundS_sub ls _ hi)
      rcases List.mem_cons.1 hl with rfl | hl
      · have h4 : s.testBit l.1.toNat = true ∨ s.testBit l.2.toNat = true → s.testBit l.1.toNat = true ∧ s.testBit l.2.toNat = true := by
          intro hor
          have ht : (t.testBit l.1.toNat || t.testBit l.2.toNat) = true := by
            rcases hor with h5 | h5
            · rw [h1 _ h5]; rfl
            · rw [h1 _ h5, Bool.or_true]
          have e : addS t l = t ||| (2 ^ l.1.toNat ||| 2 ^ l.2.toNat) := by unfold addS; rw [if_pos ht]
          constructor
          · exact h3 _ (by rw [e]; simp [Nat.testBit_or, Nat.testBit_two_pow_self])
          · exact h3 _ (by rw [e]; simp [Nat.testBit_or, Nat.testBit_two_pow_self])
        exact ⟨fun h5 => (h4 (.inl h5)).2, fun h5 => (h4 (.inr h5)).1⟩
      · exact ih (addS t x) (fun i hi => addS_sub t x (h1 i hi)) h2 l hl
  exact key ls s (fun _ h => h) (fun i hi => by rw [h] at hi; exact hi)

theorem memS_mono {s t m : Nat} (h : ∀ i, s.testBit i = true → t.testBit i = true) : (memS s m).length ≤ (memS t m).length := by
  induction m with
  | zero => simp [memS]
  | succ m ih =>
    cases hs : s.testBit m
    · rw [memS_succ_no hs]
      cases ht : t.testBit m
      · rw [memS_succ_no ht]; exact ih
      · rw [memS_succ_yes ht]; simp; omega
    · rw [memS_succ_yes hs, memS_succ_yes (h m hs)]; simp; exact ih

theorem memS_strict {s t m : Nat} (h : ∀ i, s.testBit i = true → t.testBit i = true) (hs : s < 2 ^ m) (ht : t < 2 ^ m) (hne : s ≠ t) : (memS s m).length < (memS t m).length := by
  have hi : ∃ i, i < m ∧ s.testBit i = false ∧ t.testBit i = true := by
    apply Classical.byContradiction
    intro hc
    apply hne
    apply Nat.eq_of_testBit_eq
    intro i
    cases h1 : s.testBit i
    · cases h2 : t.testBit i
      · rfl
      · have hm : i < m := by
          apply Classical.byContradiction
          intro hm
          rw [Nat.testBit_lt_two_pow (Nat.lt_of_lt_of_le ht (Nat.pow_le_pow_right (by omega) (by omega)))] at h2
          cases h2
        exact absurd ⟨i, hm, h1, h2⟩ hc
    · exact (h i h1).symm
  obtain ⟨i, him, h1, h2⟩ := hi
  clear hs ht hne
  induction m with
  | zero => omega
  | succ m ih =>
    by_cases he : i = m
    · subst he
      rw [memS_succ_no h1, memS_succ_yes h2]
      have := memS_mono (m := i) h
      simp; omega
    · have := ih (by omega)
      cases hs : s.testBit m
      · rw [memS_succ_no hs]
        cases ht : t.testBit m
        · rw [memS_succ_no ht]; exact this
        · rw [memS_succ_yes ht]; simp; omega
      · rw [memS_succ_yes hs, memS_succ_yes (h m hs)]; simp; exact this

/-- As many rounds as there are nodes are enough. -/
theorem rounds_fix {s m : Nat} {ls : List Pr} (hs : s < 2 ^ m) (h0 : 0 < (memS s m).length) (hl : ∀ l ∈ ls, l.1.toNat < m ∧ l.2.toNat < m) : roundS (roundsS s ls m) ls = roundsS s ls m := by
  apply Classical.byContradiction
  intro hc
  have stay : ∀ k j, roundS (roundsS s ls k) ls = roundsS s ls k → roundsS s ls (k + j) = roundsS s ls k := by
    intro k j hk
    induction j with
    | zero => rfl
    | succ j ih => show roundS (roundsS s ls (k + j)) ls = _; rw [ih, hk]
  have hne : ∀ k, k ≤ m → roundS (roundsS s ls k) ls ≠ roundsS s ls k := by
    intro k hk he
    have := stay k (m - k) he
    rw [show k + (m - k) = m by omega] at this
    rw [this] at hc
    exact hc he
  have grow : ∀ k, k ≤ m → k < (memS (roundsS s ls k) m).length := by
    intro k
    induction k with
    | zero => intro _; exact h0
    | succ k ih =>
      intro hk
      have h1 := ih (by omega)
      have h2 := memS_strict (s := roundsS s ls k) (t := roundS (roundsS s ls k) ls) (m := m) (fun i hi => roundS_sub ls _ hi) (roundsS_lt hs hl k) (roundS_lt ls _ (roundsS_lt hs hl k) hl) (fun e => hne k (by omega) e.symm)
      show k + 1 < (memS (roundS (roundsS s ls k) ls) m).length
      omega
  have h1 := grow m (Nat.le_refl _)
  have h2 := memS_le (roundsS s ls m) m
  omega

/-- The groups behind all leads. -/
theorem joinG_cases (a b x : Int) : joinG a b x = x ∨ (x = mx2 a b ∧ joinG a b x = mn2 a b) := by
  unfold joinG; split
  · rename_i h; exact .inr ⟨h, rfl⟩
  · exact .inl rfl

theorem mxmn (a b : Int) : (mx2 a b = a ∧ mn2 a b = b) ∨ (mx2 a b = b ∧ mn2 a b = a) := by
  rw [mx2_eq, mn2_eq]; omega

theorem getD_mapG {g : List Int} {f : Int → Int} {i : Nat} (h : i < g.length) : (g.map f).getD i 0 = f (g.getD i 0) := by
  simp [List.getD, h]

/-- Ends of leads, as numbers below n. -/
def EndsIn (n : Nat) (ls : List Pr) : Prop := ∀ j : Nat, j < ls.length → ∃ p q : Nat, (ndI ls j).1 = p ∧ (ndI ls j).2 = q ∧ p < n ∧ q < n

/-- All labels are numbers of nodes, the label of 0 is 0. -/
theorem parts_bd {n : Nat} {ls : List Pr} (hl : EndsIn n ls) : ∀ k, k ≤ ls.length → ∀ i, i < n → 0 ≤ (partsK n ls k).getD i 0 ∧ (partsK n ls k).getD i 0 ≤ i
  | 0, _, i, hi => by
    rw [partsK_zero]
    have : (natI (List.range n)).getD i 0 = (i : Int) := by simp [natI, List.getD, hi]
    rw [this]; omega
  | k + 1, hk, i, hi => by
    obtain ⟨p, q, h1, h2, h3, h4⟩ := hl k (by omega)
    rw [partsK_succ n ls k (by omega) p q h1 h2, getD_mapG (by rw [partsK_len]; exact hi)]
    have hb := parts_bd hl k (by omega)
    have hp := hb p h3
    have hq := hb q h4
    have h0 := hb i hi
    rcases joinG_cases ((partsK n ls k).getD p 0) ((partsK n ls k).getD q 0) ((partsK n ls k).getD i 0) with h | ⟨h, h'⟩
    · rw [h]; exact h0
    · rw [h']
      rw [mx2_eq] at h
      rw [mn2_eq]
      omega

/-- A set that no lead leads out of holds a node if it holds its label. -/
theorem parts_closed {n : Nat} {ls : List Pr} (hl : EndsIn n ls) (C : Nat → Prop) (hC : ∀ j : Nat, j < ls.length → ∀ p q : Nat, (ndI ls j).1 = p → (ndI ls j).2 = q → (C p ↔ C q)) : ∀ k, k ≤ ls.length → ∀ i, i < n → (C i ↔ C ((partsK n ls k).getD i 0).toNat)
  | 0, _, i, hi => by
    rw [partsK_zero]
    have : (natI (List.range n)).getD i 0 = (i : Int) := by simp [natI, List.getD, hi]
    rw [this, Int.toNat_natCast]
  | k + 1, hk, i, hi => by
    obtain ⟨p, q, h1, h2, h3, h4⟩ := hl k (by omega)
    rw [partsK_succ n ls k (by omega) p q h1 h2, getD_mapG (by rw [partsK_len]; exact hi)]
    have ih := parts_closed hl C hC k (by omega)
    have hp := ih p h3
    have hq := ih q h4
    have h0 := ih i hi
    have hpq := hC k (by omega) p q h1 h2
    generalize (partsK n ls k).getD p 0 = a at *
    generalize (partsK n ls k).getD q 0 = b at *
    generalize (partsK n ls k).getD i 0 = x at *
    rcases joinG_cases a b x with h | ⟨h, h'⟩
    · rw [h]; exact h0
    · rw [h', h0, h]
      rcases mxmn a b with ⟨e1, e2⟩ | ⟨e1, e2⟩ <;> rw [e1, e2]
      · rw [← hp, ← hq, hpq]
      · rw [← hp, ← hq, hpq]

/-- The ends of a lead have one label behind it. -/
theorem parts_same {n : Nat} {ls : List Pr} (hl : EndsIn n ls) : ∀ k, k ≤ ls.length → ∀ j, j < k → ∀ p q : Nat, (ndI ls j).1 = p → (ndI ls j).2 = q → (partsK n ls k).getD p 0 = (partsK n ls k).getD q 0
  | 0, _, j, hj, _, _, _, _ => absurd hj (by omega)
  | k + 1, hk, j, hj, p, q, hp, hq => by
    obtain ⟨p', q', h1, h2, h3, h4⟩ := hl k (by omega)
    obtain ⟨p2, q2, g1, g2, g3, g4⟩ := hl j (by omega)
    have e1 : p2 = p := by rw [hp] at g1; omega
    have e2 : q2 = q := by rw [hq] at g2; omega
    subst e1 e2
    rw [partsK_succ n ls k (by omega) p' q' h1 h2, getD_mapG (by rw [partsK_len]; exact g3), getD_mapG (by rw [partsK_len]; exact g4)]
    by_cases he : j = k
    · subst he
      have e3 : p' = p2 := by rw [hp] at h1; omega
      have e4 : q' = q2 := by rw [hq] at h2; omega
      subst e3 e4
      generalize (partsK n ls j).getD p' 0 = a
      generalize (partsK n ls j).getD q' 0 = b
      unfold joinG
      rcases mxmn a b with ⟨x1, x2⟩ | ⟨x1, x2⟩ <;> rw [x1, x2] <;> split <;> split <;> simp_all
    · rw [parts_same hl k (by omega) j (by omega) p2 q2 hp hq]

/-- All nodes hang together with node 0: as a set in rounds, as groups. -/
theorem whole_set {n : Nat} {ls : List Pr} (hl : EndsIn n ls) (hn : 0 < n) :
    (memS (roundsS 1 ls n) n).length = n ↔ (partsK n ls ls.length).all (· == 0) = true := by
  have hl' : ∀ l ∈ ls, l.1.toNat < n ∧ l.2.toNat < n := by
    intro l hm
    obtain ⟨j, hj, e⟩ := List.getElem_of_mem hm
    obtain ⟨p, q, h1, h2, h3, h4⟩ := hl j hj
    rw [ndI_nat ls j hj, e] at h1 h2
    rw [h1, h2, Int.toNat_natCast, Int.toNat_natCast]
    exact ⟨h3, h4⟩
  have h1 : (1 : Nat) < 2 ^ n := Nat.one_lt_two_pow (by omega)
  have hm1 : 0 < (memS 1 n).length := List.length_pos_of_mem (a := 0) (by simp [memS, hn])
  have hf := round_fix (rounds_fix h1 hm1 hl')
  have hsub : ∀ k, (roundsS 1 ls k).testBit 0 = true := by
    intro k
    induction k with
    | zero => show (1 : Nat).testBit 0 = true; decide
    | succ k ih => exact roundS_sub ls _ ih
  generalize hS : roundsS 1 ls n = S at *
  rw [memS_all, List.all_eq_true]
  constructor
  · intro hall x hx
    obtain ⟨i, hi, e⟩ := List.getElem_of_mem hx
    have hin : i < n := by rw [partsK_len] at hi; exact hi
    -- all members have the label of 0
    have lab : ∀ k, ∀ i, i < n → (roundsS 1 ls k).testBit i = true → (partsK n ls ls.length).getD i 0 = (partsK n ls ls.length).getD 0 0 := by
      have step : ∀ (m : Nat), m ≤ ls.length → ∀ s : Nat, (∀ i, i < n → s.testBit i = true → (partsK n ls ls.length).getD i 0 = (partsK n ls ls.length).getD 0 0) → ∀ i, i < n → (roundS s (ls.take m)).testBit i = true → (partsK n ls ls.length).getD i 0 = (partsK n ls ls.length).getD 0 0 := by
        intro m
        induction m with
        | zero => intro _ s h i hi hb; exact h i hi (by simpa [roundS] using hb)
        | succ m ih =>
          intro hm s h i hi hb
          have ih' := ih (by omega) s h
          rw [List.take_succ_eq_append_getElem (by omega), roundS_append] at hb
          generalize roundS s (ls.take m) = t at *
          obtain ⟨p, q, g1, g2, g3, g4⟩ := hl m (by omega)
          have hpq := parts_same hl ls.length (Nat.le_refl _) m (by omega) p q g1 g2
          rw [ndI_nat ls m (by omega)] at g1 g2
          have hb' : (addS t ls[m]).testBit i = true := hb
          unfold addS at hb'
          rw [g1, g2, Int.toNat_natCast, Int.toNat_natCast] at hb'
          split at hb'
          · rename_i hor
            rw [Nat.testBit_or, Nat.testBit_or, Bool.or_eq_true, Bool.or_eq_true] at hb'
            have hlab : (partsK n ls ls.length).getD p 0 = (partsK n ls ls.length).getD 0 0 := by
              rw [Bool.or_eq_true] at hor
              rcases hor with h5 | h5
              · exact ih' p g3 h5
              · rw [hpq]; exact ih' q g4 h5
            rcases hb' with h5 | h5 | h5
            · exact ih' i hi h5
            · rw [Nat.testBit_two_pow] at h5
              have : p = i := by simpa using h5
              rw [← this]; exact hlab
            · rw [Nat.testBit_two_pow] at h5
              have : q = i := by simpa using h5
              rw [← this, ← hpq]; exact hlab
          · exact ih' i hi hb'
      intro k
      induction k with
      | zero =>
        intro i hi hb
        have : i = 0 := by
          apply Classical.byContradiction
          intro h
          rw [show roundsS 1 ls 0 = 2 ^ 0 from rfl, Nat.testBit_two_pow] at hb
          have : 0 = i := by simpa using hb
          omega
        rw [this]
      | succ k ih =>
        intro i hi hb
        have := step ls.length (Nat.le_refl _) (roundsS 1 ls k) ih i hi
        rw [List.take_length] at this
        exact this hb
    have h2 := lab n i hin (by rw [hS]; exact hall i hin)
    have h3 := parts_bd hl ls.length (Nat.le_refl _) 0 hn
    have h4 : (partsK n ls ls.length).getD i 0 = x := by simp [List.getD, hi, e]
    rw [h4] at h2
    have : x = 0 := by omega
    simp [this]
  · intro hall i hi
    have hc := parts_closed hl (fun i => S.testBit i = true) (fun j hj p q hp hq => by
      have := hf ls[j] (List.getElem_mem hj)
      rw [ndI_nat ls j hj] at hp hq
      rw [hp, hq, Int.toNat_natCast, Int.toNat_natCast] at this
      exact this) ls.length (Nat.le_refl _) i hi
    rw [hc]
    have hlen : i < (partsK n ls ls.length).length := by rw [partsK_len]; exact hi
    have h2 := hall (partsK n ls ls.length)[i] (List.getElem_mem hlen)
    have h3 : (partsK n ls ls.length).getD i 0 = 0 := by simpa [List.getD, hlen] using h2
    rw [h3]
    have := hsub n
    rw [hS] at this
    exact this

end Go.Proofs.YtoknmjpnelbplaaGreat

namespace Go.Proofs.YtoknmjpnelbplaaGreat
open Go.RowKit

set_option maxHeartbeats 2000000 in
set_option maxRecDepth 100000 in
theorem len64_any (x : Int) (w : World) (h0 : 0 ≤ x) (h : x ≤ 12) :
    Calls Tryz.prog 258 #[.int .u64 x] w fun e w' => (∃ k : Int, e = .returned (.int .i64 k)) ∧ w = w' := by
  go_enter Tryz.func258, Tryz.ntmps258
  go_wp2
  all_goals go_ret
  all_goals exact ⟨⟨_, rfl⟩, rfl⟩

set_option maxHeartbeats 2000000 in
set_option maxRecDepth 100000 in
theorem len_any (x : Int) (w : World) (h0 : 0 ≤ x) (h : x ≤ 12) :
    Calls Tryz.prog 248 #[.int .u64 x] w fun e w' => (∃ k : Int, e = .returned (.int .i64 k)) ∧ w = w' := by
  go_enter Tryz.func248, Tryz.ntmps248
  go_wp2_with (go_at_call 258; refine (len64_any _ _ h0 h).mono ?_; rintro e w' ⟨⟨k, rfl⟩, rfl⟩)
  all_goals go_ret
  all_goals exact ⟨⟨_, rfl⟩, rfl⟩

end Go.Proofs.YtoknmjpnelbplaaGreat

namespace Go.Proofs.YtoknmjpnelbplaaGreat

theorem insN_has {bf : Nat → Bool} {d e : Nat} {G : List Nat} : e ∈ insN bf d G ↔ e = d ∨ e ∈ G := by
  constructor
  · exact insN_mem
  · intro h
    unfold insN
    rw [List.mem_append, List.mem_cons]
    rcases h with h | h
    · exact .inr (.inl h)
    · rw [← List.take_append_drop (posN bf G G.length) G, List.mem_append] at h
      rcases h with h | h
      · exact .inl h
      · exact .inr (.inr h)

theorem insN_nodup {bf : Nat → Bool} {d : Nat} {G : List Nat} (h : G.Nodup) (hd : d ∉ G) : (insN bf d G).Nodup := by
  unfold insN
  have hs := List.take_append_drop (posN bf G G.length) G
  generalize G.take (posN bf G G.length) = a at *
  generalize G.drop (posN bf G G.length) = b at *
  subst hs
  rw [List.nodup_append] at h ⊢
  rw [List.mem_append, not_or] at hd
  obtain ⟨h1, h2, h3⟩ := h
  refine ⟨h1, List.nodup_cons.2 ⟨hd.2, h2⟩, fun x hx y hy => ?_⟩
  rcases List.mem_cons.1 hy with rfl | hy
  · rintro rfl; exact hd.1 hx
  · exact h3 x hx y hy

/-- The list around a node holds just its darts, each once. -/
theorem ardS_iff (ns ls : List Pr) (k : Nat) : ∀ (m e : Nat), e ∈ ardS ns ls k m ↔ e < m ∧ dFrom ls e = k
  | 0, e => by simp [ardS]
  | m + 1, e => by
    by_cases h : dFrom ls m = k
    · rw [ardS_yes h, insN_has, ardS_iff ns ls k m]
      constructor
      · rintro (rfl | ⟨h1, h2⟩)
        · exact ⟨by omega, h⟩
        · exact ⟨by omega, h2⟩
      · rintro ⟨h1, h2⟩
        by_cases he : e = m
        · exact .inl he
        · exact .inr ⟨by omega, h2⟩
    · rw [ardS_no h, ardS_iff ns ls k m]
      constructor
      · rintro ⟨h1, h2⟩; exact ⟨by omega, h2⟩
      · rintro ⟨h1, h2⟩
        refine ⟨?_, h2⟩
        by_cases he : e = m
        · subst he; exact absurd h2 h
        · omega

theorem ardS_nodup (ns ls : List Pr) (k : Nat) : ∀ m, (ardS ns ls k m).Nodup
  | 0 => by simp [ardS]
  | m + 1 => by
    by_cases h : dFrom ls m = k
    · rw [ardS_yes h]
      exact insN_nodup (ardS_nodup ns ls k m) (fun hm => by have := ((ardS_iff ns ls k m m).1 hm).1; omega)
    · rw [ardS_no h]; exact ardS_nodup ns ls k m

/-- The twin of a dart. -/
def twin (d : Nat) : Nat := if d % 2 = 0 then d + 1 else d - 1
theorem twin_twin (d : Nat) : twin (twin d) = d := by unfold twin; split <;> split <;> omega
theorem twin_lt {d m : Nat} (h : d < 2 * m) : twin d < 2 * m := by unfold twin; split <;> omega
theorem dFrom_twin (ls : List Pr) (d : Nat) : dFrom ls (twin d) = dTo ls d := by
  unfold dFrom dTo twin
  by_cases h : d % 2 = 0
  · rw [if_pos h, if_pos (by omega), if_neg (by omega), show (d + 1) / 2 = d / 2 by omega]
  · rw [if_neg h, if_neg (by omega), if_pos (by omega), show (d - 1) / 2 = d / 2 by omega]
theorem dTo_twin (ls : List Pr) (d : Nat) : dTo ls (twin d) = dFrom ls d := by
  have := dFrom_twin ls (twin d)
  rw [twin_twin] at this
  exact this.symm

/-- The darts around the node at which a dart begins. -/
def ringD (ns ls : List Pr) (d : Nat) : List Nat := ardS ns ls (dFrom ls d).toNat (2 * ls.length)

/-- The dart ahead of a dart around its node. -/
def lastD (ns ls : List Pr) (d : Nat) : Nat := (ringD ns ls d).getD (((ringD ns ls d).idxOf d + (ringD ns ls d).length - 1) % (ringD ns ls d).length) 0

theorem dFrom_nat {ns ls : List Pr} (hld : ∀ j : Nat, j < ls.length → leadB ns (ndI ls j) = true) {d : Nat} (hd : d < 2 * ls.length) : ∃ t : Nat, dFrom ls d = (t : Int) ∧ t < ns.length := by
  have := dTo_nat hld (twin_lt hd)
  rw [dTo_twin] at this
  exact this

theorem mod_pred_inj {i j n : Nat} (hi : i < n) (hj : j < n) (h : (i + n - 1) % n = (j + n - 1) % n) : i = j := by
  rcases Nat.eq_zero_or_pos i with rfl | hi0
  · rcases Nat.eq_zero_or_pos j with rfl | hj0
    · rfl
    · rw [show 0 + n - 1 = n - 1 by omega, Nat.mod_eq_of_lt (by omega), show j + n - 1 = (j - 1) + n by omega, Nat.add_mod_right, Nat.mod_eq_of_lt (by omega)] at h
      omega
  · rcases Nat.eq_zero_or_pos j with rfl | hj0
    · rw [show 0 + n - 1 = n - 1 by omega, Nat.mod_eq_of_lt (show n - 1 < n by omega), show i + n - 1 = (i - 1) + n by omega, Nat.add_mod_right, Nat.mod_eq_of_lt (show i - 1 < n by omega)] at h
      omega
    · rw [show i + n - 1 = (i - 1) + n by omega, show j + n - 1 = (j - 1) + n by omega, Nat.add_mod_right, Nat.add_mod_right, Nat.mod_eq_of_lt (show i - 1 < n by omega), Nat.mod_eq_of_lt (show j - 1 < n by omega)] at h
      omega

section
variable {ns ls : List Pr} (hld : ∀ j : Nat, j < ls.length → leadB ns (ndI ls j) = true)
include hld

theorem ring_iff {d : Nat} (hd : d < 2 * ls.length) (e : Nat) : e ∈ ringD ns ls d ↔ e < 2 * ls.length ∧ dFrom ls e = dFrom ls d := by
  obtain ⟨t, ht, _⟩ := dFrom_nat hld hd
  unfold ringD
  rw [ardS_iff, ht, Int.toNat_natCast]

theorem ring_self {d : Nat} (hd : d < 2 * ls.length) : d ∈ ringD ns ls d := (ring_iff hld hd d).2 ⟨hd, rfl⟩

theorem last_mem {d : Nat} (hd : d < 2 * ls.length) : lastD ns ls d ∈ ringD ns ls d := by
  have h := List.length_pos_of_mem (ring_self hld hd)
  unfold lastD
  have hk : ((ringD ns ls d).idxOf d + (ringD ns ls d).length - 1) % (ringD ns ls d).length < (ringD ns ls d).length := Nat.mod_lt _ h
  rw [List.getD, List.getElem?_eq_getElem hk]
  exact List.getElem_mem hk

theorem last_lt {d : Nat} (hd : d < 2 * ls.length) : lastD ns ls d < 2 * ls.length := ((ring_iff hld hd _).1 (last_mem hld hd)).1
theorem last_from {d : Nat} (hd : d < 2 * ls.length) : dFrom ls (lastD ns ls d) = dFrom ls d := ((ring_iff hld hd _).1 (last_mem hld hd)).2

theorem last_inj {d e : Nat} (hd : d < 2 * ls.length) (he : e < 2 * ls.length) (h : lastD ns ls d = lastD ns ls e) : d = e := by
  have hf : dFrom ls d = dFrom ls e := by rw [← last_from hld hd, h, last_from hld he]
  have hr : ringD ns ls d = ringD ns ls e := by unfold ringD; rw [hf]
  have h1 := ring_self hld hd
  have h2 := ring_self hld he
  rw [hr] at h1
  have hp := List.length_pos_of_mem h2
  have hn : (ringD ns ls e).Nodup := ardS_nodup _ _ _ _
  unfold lastD at h
  rw [hr] at h
  have k1 : ((ringD ns ls e).idxOf d + (ringD ns ls e).length - 1) % (ringD ns ls e).length < (ringD ns ls e).length := Nat.mod_lt _ hp
  have k2 : ((ringD ns ls e).idxOf e + (ringD ns ls e).length - 1) % (ringD ns ls e).length < (ringD ns ls e).length := Nat.mod_lt _ hp
  rw [List.getD, List.getD, List.getElem?_eq_getElem k1, List.getElem?_eq_getElem k2] at h
  simp only [Option.getD_some] at h
  have hi := (List.getElem_inj hn).1 h
  have hx := mod_pred_inj (List.idxOf_lt_length_of_mem h1) (List.idxOf_lt_length_of_mem h2) hi
  have g1 := List.getElem_idxOf (List.idxOf_lt_length_of_mem h1)
  have g2 := List.getElem_idxOf (List.idxOf_lt_length_of_mem h2)
  refine g1.symm.trans (Eq.trans ?_ g2)
  simp only [hx]
end

/-- Among more places than there are two hold the same. -/
theorem pigeon : ∀ (n : Nat) (f : Nat → Nat), (∀ i, i ≤ n → f i < n) → ∃ i j, i < j ∧ j ≤ n ∧ f i = f j
  | 0, f, h => absurd (h 0 (Nat.le_refl _)) (by omega)
  | n + 1, f, h => by
    by_cases hc : ∃ i, i < n + 1 ∧ f i = f (n + 1)
    · obtain ⟨i, hi, e⟩ := hc
      exact ⟨i, n + 1, hi, Nat.le_refl _, e⟩
    · have hne : ∀ i, i < n + 1 → f i ≠ f (n + 1) := fun i hi e => hc ⟨i, hi, e⟩
      have hl := h (n + 1) (Nat.le_refl _)
      obtain ⟨i, j, h1, h2, h3⟩ := pigeon n (fun i => if f i < f (n + 1) then f i else f i - 1) (fun i hi => by
        have h4 := hne i (by omega)
        have h5 := h i (by omega)
        show (if f i < f (n + 1) then f i else f i - 1) < n
        split <;> omega)
      refine ⟨i, j, h1, by omega, ?_⟩
      have h4 := hne i (by omega)
      have h5 := hne j (by omega)
      have h3' : (if f i < f (n + 1) then f i else f i - 1) = (if f j < f (n + 1) then f j else f j - 1) := h3
      clear h3
      split at h3' <;> split at h3' <;> omega

/-- The dart behind a dart along the face to its left. -/
def nextD (ns ls : List Pr) (d : Nat) : Nat := lastD ns ls (twin d)

section
variable {ns ls : List Pr} (hld : ∀ j : Nat, j < ls.length → leadB ns (ndI ls j) = true)
include hld
theorem next_lt {d : Nat} (hd : d < 2 * ls.length) : nextD ns ls d < 2 * ls.length := last_lt hld (twin_lt hd)
theorem next_inj {d e : Nat} (hd : d < 2 * ls.length) (he : e < 2 * ls.length) (h : nextD ns ls d = nextD ns ls e) : d = e := by
  have := last_inj hld (twin_lt hd) (twin_lt he) h
  rw [← twin_twin d, this, twin_twin]
end

/-- k steps along the face. -/
def orbD (ns ls : List Pr) (d : Nat) : Nat → Nat
  | 0 => d
  | k + 1 => nextD ns ls (orbD ns ls d k)

section
variable {ns ls : List Pr} (hld : ∀ j : Nat, j < ls.length → leadB ns (ndI ls j) = true)
include hld
theorem orb_lt {d : Nat} (hd : d < 2 * ls.length) : ∀ k, orbD ns ls d k < 2 * ls.length
  | 0 => hd
  | k + 1 => next_lt hld (orb_lt hd k)

theorem orb_back {d : Nat} (hd : d < 2 * ls.length) : ∀ i j, orbD ns ls d i = orbD ns ls d (i + j) → orbD ns ls d j = d
  | 0, j, h => by rw [Nat.zero_add] at h; exact h.symm
  | i + 1, j, h => by
    refine orb_back hd i j ?_
    rw [show i + 1 + j = (i + j) + 1 by omega] at h
    exact next_inj hld (orb_lt hld hd i) (orb_lt hld hd (i + j)) h

theorem orb_comes {d : Nat} (hd : d < 2 * ls.length) : ∃ p, 0 < p ∧ p ≤ 2 * ls.length ∧ orbD ns ls d p = d := by
  obtain ⟨i, j, h1, h2, h3⟩ := pigeon (2 * ls.length) (orbD ns ls d) (fun i _ => orb_lt hld hd i)
  refine ⟨j - i, by omega, by omega, orb_back hld hd i (j - i) ?_⟩
  rw [h3, show i + (j - i) = j by omega]
end

/-- The first return among m steps from the k-th on, or m. -/
def perF (ns ls : List Pr) (d : Nat) : Nat → Nat → Nat
  | 0, k => k
  | m + 1, k => if orbD ns ls d k = d then k else perF ns ls d m (k + 1)

/-- How many darts a face has. -/
def perD (ns ls : List Pr) (d : Nat) : Nat := perF ns ls d (2 * ls.length) 1

theorem perF_spec (ns ls : List Pr) (d : Nat) : ∀ (m k : Nat), (∃ p, k ≤ p ∧ p < k + m ∧ orbD ns ls d p = d) →
    k ≤ perF ns ls d m k ∧ perF ns ls d m k < k + m ∧ orbD ns ls d (perF ns ls d m k) = d ∧ ∀ j, k ≤ j → j < perF ns ls d m k → orbD ns ls d j ≠ d
  | 0, k, ⟨p, h1, h2, _⟩ => absurd h2 (by omega)
  | m + 1, k, ⟨p, h1, h2, h3⟩ => by
    unfold perF
    split
    · rename_i h
      exact ⟨Nat.le_refl _, by omega, h, fun j hj hj' => by omega⟩
    · rename_i h
      have hp : k ≠ p := fun e => h (e ▸ h3)
      obtain ⟨g1, g2, g3, g4⟩ := perF_spec ns ls d m (k + 1) ⟨p, by omega, by omega, h3⟩
      refine ⟨by omega, by omega, g3, fun j hj hj' => ?_⟩
      by_cases e : j = k
      · subst e; exact h
      · exact g4 j (by omega) hj'

theorem per_spec {ns ls : List Pr} (hld : ∀ j : Nat, j < ls.length → leadB ns (ndI ls j) = true) {d : Nat} (hd : d < 2 * ls.length) :
    0 < perD ns ls d ∧ perD ns ls d ≤ 2 * ls.length ∧ orbD ns ls d (perD ns ls d) = d ∧ ∀ j, 0 < j → j < perD ns ls d → orbD ns ls d j ≠ d := by
  obtain ⟨p, h1, h2, h3⟩ := orb_comes hld hd
  obtain ⟨g1, g2, g3, g4⟩ := perF_spec ns ls d (2 * ls.length) 1 ⟨p, by omega, by omega, h3⟩
  exact ⟨g1, by unfold perD; omega, g3, fun j hj hj' => g4 j (by omega) hj'⟩

/-- The first k darts of a walk. -/
def walkK (ns ls : List Pr) (d k : Nat) : List Nat := (List.range k).map (orbD ns ls d)
theorem walkK_succ (ns ls : List Pr) (d k : Nat) : walkK ns ls d (k + 1) = walkK ns ls d k ++ [orbD ns ls d k] := by simp [walkK, List.range_succ]
theorem walkK_length (ns ls : List Pr) (d k : Nat) : (walkK ns ls d k).length = k := by simp [walkK]
/-- The border of the face to the left of a dart. -/
def walkD (ns ls : List Pr) (d : Nat) : List Nat := walkK ns ls d (perD ns ls d)

end Go.Proofs.YtoknmjpnelbplaaGreat

namespace Go.Proofs.YtoknmjpnelbplaaGreat

/-- The first i of a list, sorted. -/
def isoK (lt : Nat → Nat → Bool) (G : List Nat) (i : Nat) : List Nat := (G.take i).foldl (fun S d => insN (lt d) d S) []

theorem isoK_zero (lt : Nat → Nat → Bool) (G : List Nat) : isoK lt G 0 = [] := rfl
theorem isoK_succ (lt : Nat → Nat → Bool) (G : List Nat) (i : Nat) (h : i < G.length) : isoK lt G (i + 1) = insN (lt G[i]) G[i] (isoK lt G i) := by
  unfold isoK
  rw [List.take_succ_eq_append_getElem h, List.foldl_append]
  rfl
theorem isoK_len (lt : Nat → Nat → Bool) (G : List Nat) : ∀ i, i ≤ G.length → (isoK lt G i).length = i
  | 0, _ => rfl
  | i + 1, h => by rw [isoK_succ lt G i (by omega), insN_length, isoK_len lt G i (by omega)]

/-- What the row holds while number i goes down: p is its place. -/
def isoR (lt : Nat → Nat → Bool) (G : List Nat) (i p : Nat) : List Int := gapI (isoK lt G i) p ((G.getD i 0 : Nat) : Int) ++ natI (G.drop (i + 1))

/-- What the row holds ahead of number i. -/
def isoH (lt : Nat → Nat → Bool) (G : List Nat) (i : Nat) : List Int := natI (isoK lt G i) ++ natI (G.drop i)

theorem isoH_zero (lt : Nat → Nat → Bool) (G : List Nat) : isoH lt G 0 = natI G := by simp [isoH, isoK_zero, natI]
theorem isoH_all (lt : Nat → Nat → Bool) (G : List Nat) : isoH lt G G.length = natI (isoK lt G G.length) := by simp [isoH, natI]
theorem isoR_len (lt : Nat → Nat → Bool) (G : List Nat) (i p : Nat) (h : i < G.length) (hp : p ≤ i) : (isoR lt G i p).length = G.length := by
  unfold isoR
  rw [List.length_append, gapI_length _ _ _ (by rw [isoK_len lt G i (by omega)]; exact hp), isoK_len lt G i (by omega), natI_length, List.length_drop]
  omega

theorem isoR_start (lt : Nat → Nat → Bool) (G : List Nat) (i : Nat) (h : i < G.length) : isoR lt G i i = isoH lt G i := by
  unfold isoR isoH
  have hl := isoK_len lt G i (by omega)
  have e : gapI (isoK lt G i) i ((G.getD i 0 : Nat) : Int) = natI (isoK lt G i) ++ [((G.getD i 0 : Nat) : Int)] := by
    have := gapI_full (isoK lt G i) ((G.getD i 0 : Nat) : Int)
    rw [hl] at this
    exact this
  rw [e, List.append_assoc, List.drop_eq_getElem_cons h, show G.getD i 0 = G[i] by simp [List.getD, h]]
  rfl

theorem isoR_self (lt : Nat → Nat → Bool) (G : List Nat) (i p : Nat) (h : i < G.length) (hp : p ≤ i) : (isoR lt G i p).getD p 0 = ((G.getD i 0 : Nat) : Int) := by
  have hl := isoK_len lt G i (by omega)
  unfold isoR gapI natI
  have e : (List.map (fun (d : Nat) => (d : Int)) ((isoK lt G i).take p)).length = p := by simp; omega
  rw [List.getD, List.append_assoc, List.getElem?_append_right (by omega), e, Nat.sub_self]
  rfl

theorem isoR_below (lt : Nat → Nat → Bool) (G : List Nat) (i p : Nat) (h : i < G.length) (hp : p < i) : (isoR lt G i (p + 1)).getD p 0 = (((isoK lt G i).getD p 0 : Nat) : Int) := by
  have hl := isoK_len lt G i (by omega)
  have h1 := gapI_get (isoK lt G i) p ((G.getD i 0 : Nat) : Int) (by omega)
  have h2 := gapI_length (isoK lt G i) (p + 1) ((G.getD i 0 : Nat) : Int) (by omega)
  unfold isoR
  rw [List.getD, List.getElem?_append_left (by omega)]
  exact h1

/-- The two are exchanged. -/
theorem isoR_swap (lt : Nat → Nat → Bool) (G : List Nat) (i p : Nat) (h : i < G.length) (hp : p < i) :
    ((isoR lt G i (p + 1)).set (p + 1) (((isoK lt G i).getD p 0 : Nat) : Int)).set p ((G.getD i 0 : Nat) : Int) = isoR lt G i p := by
  have hl := isoK_len lt G i (by omega)
  have h1 := gapI_move (isoK lt G i) p ((G.getD i 0 : Nat) : Int) (by omega)
  have h2 := gapI_length (isoK lt G i) (p + 1) ((G.getD i 0 : Nat) : Int) (by omega)
  have h3 := gapI_length (isoK lt G i) p (((isoK lt G i).getD p 0 : Nat) : Int) (by omega)
  have h4 := gapI_put (isoK lt G i) p (((isoK lt G i).getD p 0 : Nat) : Int) (G.getD i 0) (by omega)
  unfold isoR
  rw [List.set_append, if_pos (by omega), h1, List.set_append, if_pos (by omega), h4]
  congr 1
  simp [gapI, natI]

/-- It has come to its place. -/
theorem isoR_end (lt : Nat → Nat → Bool) (G : List Nat) (i : Nat) (h : i < G.length) : isoR lt G i (posN (lt G[i]) (isoK lt G i) i) = isoH lt G (i + 1) := by
  have hl := isoK_len lt G i (by omega)
  unfold isoR isoH
  rw [isoK_succ lt G i h]
  unfold insN gapI natI
  rw [hl]
  simp [List.getD, h]

/-- The darts at a node among the first m, as they come. -/
def frD (ls : List Pr) (k : Nat) : Nat → List Nat
  | 0 => []
  | d + 1 => if dFrom ls d = k then frD ls k d ++ [d] else frD ls k d

theorem frD_no {ls : List Pr} {k d : Nat} (h : ¬ dFrom ls d = k) : frD ls k (d + 1) = frD ls k d := by simp [frD, h]
theorem frD_yes {ls : List Pr} {k d : Nat} (h : dFrom ls d = k) : frD ls k (d + 1) = frD ls k d ++ [d] := by simp [frD, h]

theorem isoK_app (lt : Nat → Nat → Bool) (G : List Nat) (d : Nat) : isoK lt (G ++ [d]) (G ++ [d]).length = insN (lt d) d (isoK lt G G.length) := by
  unfold isoK
  rw [List.take_length, List.take_length, List.foldl_append]
  rfl

/-- Sorted by insertion they are the list of the reference. -/
theorem iso_ard (ns ls : List Pr) (k : Nat) : ∀ m, isoK (bfD ns ls k) (frD ls k m) (frD ls k m).length = ardS ns ls k m
  | 0 => rfl
  | m + 1 => by
    by_cases h : dFrom ls m = k
    · rw [frD_yes h, isoK_app, iso_ard ns ls k m, ardS_yes h]
    · rw [frD_no h, iso_ard ns ls k m, ardS_no h]

theorem frD_lt (ls : List Pr) (k : Nat) : ∀ m e, e ∈ frD ls k m → e < m ∧ dFrom ls e = k
  | 0, e, h => by simp [frD] at h
  | m + 1, e, h => by
    by_cases hf : dFrom ls m = k
    · rw [frD_yes hf, List.mem_append, List.mem_singleton] at h
      rcases h with h | rfl
      · have := frD_lt ls k m e h; exact ⟨by omega, this.2⟩
      · exact ⟨by omega, hf⟩
    · rw [frD_no hf] at h
      have := frD_lt ls k m e h; exact ⟨by omega, this.2⟩

end Go.Proofs.YtoknmjpnelbplaaGreat

namespace Go.Proofs.YtoknmjpnelbplaaGreat
open Go.RowKit

/-- A comparison: function f bound to lb: behind w, whatever became of block g, it hands back c d e and leaves what was there alone. -/
def CmpAt (f : Nat) (lb : Array Value) (G : List Nat) (c : Nat → Nat → Int) (g : Option Nat) (w : World) : Prop :=
  ∀ (v : World) (d e : Nat), d ∈ G → e ∈ G → w.grownBy v g → Calls Tryz.prog f (#[.int .i64 d, .int .i64 e] ++ lb) v fun en v' => en = .returned (.int .i64 (c d e)) ∧ Below v.heap.size v v'

theorem grown_bel {w v v' : World} {row : Option Nat} (h : w.grownBy v row) (hb : Below v.heap.size v v') : w.grownBy v' row :=
  ⟨hb.os.trans h.os, hb.tape.trans h.tape, hb.output.trans h.output, Nat.le_trans h.size hb.size, fun i hi hne => (hb.block i (Nat.lt_of_lt_of_le hi h.size)).trans (h.block i hi hne)⟩

theorem grown_refl (w : World) (row : Option Nat) : w.grownBy w row := ⟨rfl, rfl, rfl, Nat.le_refl _, fun _ _ _ => rfl⟩

theorem grown_set {w v : World} {g : Nat} (h : w.grownBy v (some g)) (i : Nat) (x : Value) : w.grownBy (v.setCell ⟨g, i, none⟩ x) (some g) :=
  ⟨h.os, h.tape, h.output, by simpa [World.setCell] using h.size, fun j hj hne => (Below.heap_setCell v ⟨g, i, none⟩ x j (fun e => hne (by rw [e]))).trans (h.block j hj hne)⟩

theorem grown_drew {w v : World} {row : Option Nat} (h : w.grownBy v row) : w.grownBy v.drew row := ⟨h.os, h.tape, h.output, h.size, h.block⟩

theorem isoK_mem (lt : Nat → Nat → Bool) (G : List Nat) (e : Nat) : ∀ i, i ≤ G.length → e ∈ isoK lt G i → e ∈ G
  | 0, _, h => by simp [isoK_zero] at h
  | i + 1, hi, h => by
    rw [isoK_succ lt G i (by omega)] at h
    rcases insN_mem h with rfl | h
    · exact List.getElem_mem _
    · exact isoK_mem lt G e i (by omega) h

theorem isoH_one (lt : Nat → Nat → Bool) (G : List Nat) (h : 0 < G.length) : isoH lt G 1 = natI G := by
  have h1 := isoR_end lt G 0 h
  have h2 : posN (lt G[0]) (isoK lt G 0) 0 = 0 := rfl
  rw [h2, isoR_start lt G 0 h, isoH_zero] at h1
  exact h1.symm

set_option maxHeartbeats 4000000 in
set_option maxRecDepth 100000 in
theorem insSort_any (base f g cap : Nat) (lb : Array Value) (G : List Nat) (c : Nat → Nat → Int) (lt : Nat → Nat → Bool) (w : World) (hc : CmpAt f lb G c (some g) w) (hlt : ∀ d e, decide (c d e < 0) = lt d e)
    (ho : OwnI base w (.slice (some ⟨g, 0, none⟩) G.length cap) (natI G)) (h12 : G.length ≤ 12) (ef : Enters Tryz.prog f) :
    Calls Tryz.prog 236 #[.slice (some ⟨g, 0, none⟩) G.length cap, .int .i64 0, .int .i64 G.length, .func (.func f) #[] lb] w
      fun e w' => e = .returned (.tuple #[]) ∧ OwnI base w' (.slice (some ⟨g, 0, none⟩) G.length cap) (natI (isoK lt G G.length)) ∧ w.grownBy w' (some g) := by
  go_enter Tryz.func236, Tryz.ntmps236
  go_wp2
  go_loopw [8] (fun x wr => ∃ i : Nat, 1 ≤ i ∧ (i ≤ G.length ∨ G.length = 0) ∧ x = .int .i64 i ∧ OwnI base wr (.slice (some ⟨g, 0, none⟩) G.length cap) (isoH lt G (min i G.length)) ∧ w.grownBy wr (some g)) (fun x _ => G.length - (intOf x).toNat)
  case atStart =>
    refine ⟨1, Nat.le_refl _, by omega, rfl, ?_, grown_refl _ _⟩
    rcases Nat.eq_zero_or_pos G.length with h0 | h0
    · rw [h0, show min 1 0 = 0 from rfl, isoH_zero]; rw [h0] at ho; exact ho
    · rw [show min 1 G.length = 1 by omega, isoH_one lt G h0]; exact ho
  case round =>
    obtain ⟨i, hi1, hi2, rfl, ho2, hg⟩ := hrel
    have EF := Lib.hid ef
    clear ho ef
    by_cases hin : i < G.length
    · rw [show min i G.length = i by omega, ← isoR_start lt G i hin] at ho2
      have HE := Lib.hid (isoR_end lt G i hin)
      have hgi : G.getD i 0 = G[i] := by simp [List.getD, hin]
      have hgm : G.getD i 0 ∈ G := by rw [hgi]; exact List.getElem_mem hin
      have HKL := Lib.hid (isoK_len lt G i (by omega))
      have HKM := Lib.hid (fun e h => isoK_mem lt G e i (by omega) h)
      rw [← hgi] at HE
      have HRS := Lib.hid (fun p hp => isoR_self lt G i p hin hp)
      have HRB := Lib.hid (fun p hp => isoR_below lt G i p hin hp)
      have HSW := Lib.hid (fun p hp => isoR_swap lt G i p hin hp)
      have HRL := Lib.hid (fun p hp => isoR_len lt G i p hin hp)
      clear hgi
      generalize hD : G.getD i 0 = D at *
      have HDD := Lib.hid hD
      clear hD
      go_wp2
      go_loopw [9] (fun x wr2 => ∃ p : Nat, p ≤ i ∧ x = .int .i64 p ∧ OwnI base wr2 (.slice (some ⟨g, 0, none⟩) G.length cap) (isoR lt G i p) ∧ w.grownBy wr2 (some g) ∧ Hid (posN (lt D) (isoK lt G i) i = posN (lt D) (isoK lt G i) p)) (fun x _ => (intOf x).toNat)
      case atStart => exact ⟨i, Nat.le_refl _, rfl, ho2, hg, Lib.hid rfl⟩
      case round =>
        clear ho2 hg
        obtain ⟨p, hp, rfl, ho2, hg, HP⟩ := hrel
        by_cases hp0 : 0 < p
        · obtain ⟨r, rfl⟩ : ∃ r, p = r + 1 := ⟨p - 1, by omega⟩
          have hri : r < i := by omega
          have xs := ho2.cell (q := r + 1) (by rw [HRL.out _ hp]; omega)
          have xb := ho2.cell (q := r) (by rw [HRL.out _ hp]; omega)
          rw [HRS.out _ hp] at xs
          rw [HRB.out r hri] at xb
          have hem : (isoK lt G i).getD r 0 ∈ G := HKM.out _ (by rw [List.getD, List.getElem?_eq_getElem (by rw [HKL.out]; exact hri)]; exact List.getElem_mem _)
          have HPS : Hid (posN (lt D) (isoK lt G i) (r + 1) = if lt D ((isoK lt G i).getD r 0) then posN (lt D) (isoK lt G i) r else r + 1) := Lib.hid rfl
          have HS := Lib.hid (HSW.out r hri)
          have hl1 := hlt D ((isoK lt G i).getD r 0)
          have hcd := fun v (hv : w.grownBy v (some g)) => hc v D ((isoK lt G i).getD r 0) hgm hem hv
          generalize (isoK lt G i).getD r 0 = e at *
          rw [← hl1] at HPS
          generalize c D e = z at *
          have HC := Lib.hid hcd
          clear hcd hl1 hem
          have hp1 : (0 : Int) < ((r + 1 : Nat) : Int) := by omega
          have hsub : (((r + 1 : Nat) : Int)) - 1 = (r : Int) := by omega
          have ir1 : (0 : Int) ≤ (r : Int) := by omega
          have ir2 : (r : Int) < (G.length : Int) := by omega
          have ir3 : ((r + 1 : Nat) : Int) < (G.length : Int) := by omega
          have ir4 : (0 : Int) ≤ ((r + 1 : Nat) : Int) := by omega
          have hgs := (ho2.lt g rfl).2
          have f0 := ho2.frz r
          have f1 := ho2.frz (r + 1)
          clear hc hlt
          have hef : ∀ (args : Array Value) (w : World), (callFunc f args).run Tryz.prog w = .ok (.enter f args) w := EF.out
          go_wp2_with fail
          (refine wp_region_quietG (by kernel_rfl) (by kernel_rfl) (fun hG => ?_))
          repeat (go_big_quiet_step ((go_at_fn f; exact quietG (HC.out _ (grown_bel hg (Grw.below _))))))
          refine wpQuiet_nil ?_
          clear hG
          rintro w3 ⟨⟨_, hb3⟩, rfl⟩
          have ho3 := ho2.kept hb3
          have hg3 := grown_bel hg hb3
          have g0 := ho3.frz r
          have g1 := ho3.frz (r + 1)
          have ys := ho3.cell (q := r + 1) (by rw [HRL.out _ hp]; omega)
          have yb := ho3.cell (q := r) (by rw [HRL.out _ hp]; omega)
          rw [HRS.out _ hp] at ys
          have yb' : w3.cell? ⟨g, r, none⟩ = some (.int .i64 e) := by
            have := (hb3.cell (p := ⟨g, r, none⟩) hgs).trans xb
            exact this
          clear yb f0 f1 xs xb hg hb3 hef
          by_cases hz : z < 0
          · have e1 : decide (z < 0) = true := by simp [hz]
            have HO := Lib.hid (show OwnI base ((w3.setCell ⟨g, r + 1, none⟩ (.int .i64 e)).setCell ⟨g, r, none⟩ (.int .i64 D)) (.slice (some ⟨g, 0, none⟩) G.length cap) (isoR lt G i r) by
              rw [← HS.out]
              exact (ho3.set_ (r + 1) _).set_ r _)
            have HG := Lib.hid (grown_set (grown_set hg3 (r + 1) (.int .i64 e)) r (.int .i64 D))
            have HP2 : Hid (posN (lt D) (isoK lt G i) i = posN (lt D) (isoK lt G i) r) := Lib.hid (by rw [HP.out, HPS.out, if_pos e1])
            clear ho2 ho3 hg3
            go_wp2_with fail
            go_region
            all_goals go_wp2
            all_goals go_roundw
            case rel => exact ⟨r, by omega, by go_num, HO.out, grown_drew HG.out, HP2⟩
            case measure => simp [intOf]
          · have e1 : decide (z < 0) = false := by simp [hz]
            have HP2 : Hid (posN (lt D) (isoK lt G i) i = r + 1) := Lib.hid (by rw [HP.out, HPS.out, e1]; rfl)
            have HO : Hid (OwnI base w3 (.slice (some ⟨g, 0, none⟩) G.length cap) (isoH lt G (i + 1))) := Lib.hid (by rw [← HE.out, HP2.out]; exact ho3)
            clear ho2 ho3
            go_wp2
            go_roundw
            case rel => exact ⟨i + 1, by omega, by omega, by go_num, by rw [show min (i + 1) G.length = i + 1 by omega]; exact HO.out, hg3⟩
            case measure => simp [intOf]; omega
        · have hp0' : p = 0 := by omega
          subst hp0'
          have HP2 : Hid (posN (lt D) (isoK lt G i) i = 0) := Lib.hid HP.out
          have HO : Hid (OwnI base wr (.slice (some ⟨g, 0, none⟩) G.length cap) (isoH lt G (i + 1))) := Lib.hid (by rw [← HE.out, HP2.out]; exact ho2)
          clear ho2 hc hlt hp0
          go_wp2_with fail
          (refine wp_region_quietG (by kernel_rfl) (by kernel_rfl) (fun hG => ?_))
          repeat (go_big_quiet_step (fail))
          refine wpQuiet_nil ?_
          clear hG
          rintro w3 ⟨⟨_, hb3⟩, rfl⟩
          have ho3 := HO.out.kept hb3
          have hg3 := grown_bel hg hb3
          go_wp2
          go_roundw
          case rel => exact ⟨i + 1, by omega, by omega, by go_num, by rw [show min (i + 1) G.length = i + 1 by omega]; exact ho3, hg3⟩
          case measure => simp [intOf]; omega
    · have HO : Hid (OwnI base wr (.slice (some ⟨g, 0, none⟩) G.length cap) (natI (isoK lt G G.length))) := Lib.hid (by
        rw [show min i G.length = G.length by omega, isoH_all] at ho2; exact ho2)
      clear hc hlt ho2
      go_wp2
      go_end0
      exact ⟨rfl, HO.out, hg⟩

end Go.Proofs.YtoknmjpnelbplaaGreat

namespace Go.Proofs.YtoknmjpnelbplaaGreat
open Go.RowKit
section
variable {P : Program} {md : Region.Mode} {ops : Array Oper} {Q : Exit → Act → World → Prop} {S : World → Prop}

/-- Every order of what is left; S holds as long as number n is not listed. -/
def anyE (P : Program) (md : Region.Mode) (ops : Array Oper) (Q : Exit → Act → World → Prop) (S : World → Prop) (n : Nat) : Nat → Array Bool → Act → World → Prop
  | 0, listed, a, w => Region.ready md ops listed = [] ∧ Q .normal a w
  | fuel + 1, listed, a, w =>
    (Region.ready md ops listed = [] → Q .normal a w) ∧
    ∀ i ∈ Region.ready md ops listed, wpOp P ops Q i (fun a' w' => ((listed.setIfInBounds i true).getD n true = false → S w') ∧ anyE P md ops Q S n fuel (listed.setIfInBounds i true) a' w') a w

theorem any_of_E {n : Nat} : ∀ (fuel : Nat) (listed : Array Bool) (a : Act) (w : World), anyE P md ops Q S n fuel listed a w → wpAny P md ops Q fuel listed a w
  | 0, _, _, _, h => h
  | fuel + 1, _, _, _, h => ⟨h.1, fun i hi => wpOp_mono (fun a' w' h' => any_of_E fuel _ a' w' h'.2) (h.2 i hi)⟩

/-- Number i first, for which n waits. -/
theorem E_first {n i : Nat} {oi on : Oper} {v : Value} (hi : ops[i]? = some oi) (hon : ops[n]? = some on) (hwait : ∃ e ∈ on.after, Region.binds md e = true ∧ e.on = i) (hsel : ∀ (j : Nat) (o : Oper) cs b, ops[j]? = some o → o.op ≠ .select cs b)
    (hQ : ∀ c a w, Q (.panic c) (a.put oi.dst v) w → Q (.panic c) a w) :
    ∀ (fuel : Nat) (listed : Array Bool) (a : Act) (w : World),
      (∀ j oj, ops[j]? = some oj → j ≠ i → listed.getD j true = false → (∀ e ∈ oj.after, Region.binds md e = true → e.on ≠ i) → oi.apart ops oj = true) →
      i ∈ Region.ready md ops listed → listed.getD n true = false → YieldsIf P ops S oi v a → S w →
      anyE P md ops Q S n fuel (listed.setIfInBounds i true) (a.put oi.dst v) w → anyE P md ops Q S n (fuel + 1) listed a w := by
  intro fuel
  induction fuel with
  | zero =>
    intro listed a w _ hr hn hy hS H
    refine ⟨fun h => (by rw [h] at hr; cases hr), fun j hj => ?_⟩
    by_cases hji : j = i
    · subst hji
      exact hy.wpOp hi hS ⟨fun _ => hS, H⟩
    · have := ready_mono hj hji
      rw [H.1] at this
      cases this
  | succ fuel ih =>
    intro listed a w hfree hr hn hy hS H
    refine ⟨fun h => (by rw [h] at hr; cases hr), fun j hj => ?_⟩
    by_cases hji : j = i
    · subst hji
      exact hy.wpOp hi hS ⟨fun _ => hS, H⟩
    · have h1 := H.2 j (ready_mono hj hji)
      obtain ⟨hjun, oj, hoj, hall⟩ := mem_ready.1 hj
      have hnot : ∀ e ∈ oj.after, Region.binds md e = true → e.on ≠ i := fun e he hb heq => by
        have g1 := hall e he hb
        have g0 := (mem_ready.1 hr).1
        rw [heq] at g1
        rcases Nat.lt_or_ge i listed.size with h' | h'
        · simp [h'] at g0 g1; rw [g0] at g1; cases g1
        · simp [Array.getElem?_eq_none h'] at g1
      have hjn : j ≠ n := by
        rintro rfl
        rw [hon] at hoj
        cases hoj
        obtain ⟨e, he, hb, heq⟩ := hwait
        exact hnot e he hb heq
      have hin : i ≠ n := by
        rintro rfl
        rw [hon] at hi
        cases hi
        obtain ⟨e, he, hb, heq⟩ := hwait
        obtain ⟨h0, o', ho', hall'⟩ := mem_ready.1 hr
        rw [hon] at ho'
        cases ho'
        have g1 := hall' e he hb
        rw [heq] at g1
        rcases Nat.lt_or_ge i listed.size with h' | h'
        · simp [h'] at h0 g1; rw [h0] at g1; cases g1
        · simp [Array.getElem?_eq_none h'] at g1
      have h2 := wpOp_putIf hoj (hfree j oj hoj hji hjun hnot) (fun cs b => hsel i oi cs b hi) (fun cs b => hsel j oj cs b hoj) hQ hy h1
      have hfree' : ∀ k ok, ops[k]? = some ok → k ≠ i → (listed.setIfInBounds j true).getD k true = false →
          (∀ e ∈ ok.after, Region.binds md e = true → e.on ≠ i) → oi.apart ops ok = true := fun k ok hk hki hun hno => by
        refine hfree k ok hk hki ?_ hno
        by_cases hjk : j = k
        · subst hjk; exact hjun
        · rw [getD_set_ne true hjk] at hun; exact hun
      have hnf : ((listed.setIfInBounds i true).setIfInBounds j true).getD n true = false := by rw [getD_set_ne true hjn, getD_set_ne true hin]; exact hn
      refine wpOp_mono (fun a' w' h3 => ⟨fun _ => h3.2.1 hnf, ih (listed.setIfInBounds j true) a' w' hfree' (ready_mono hr (Ne.symm hji)) (by rw [getD_set_ne true hjn]; exact hn) h3.1 (h3.2.1 hnf) ?_⟩) h2
      rw [Array.setIfInBounds_comm _ _ hji]
      exact h3.2.2

theorem E_take {n i : Nat} {oi on : Oper} {v : Value} {fuel : Nat} {listed : Array Bool} {a : Act} {w : World} (hi' : (ops.toList.drop i).head? = some oi) (hon' : (ops.toList.drop n).head? = some on) (hwait : (on.after.any fun e => Region.binds md e && e.on == i) = true)
    (hs : Region.noSelect ops = true) (hf : Region.free md ops listed i = true) (hr : (Region.ready md ops listed).contains i = true) (hn : listed.getD n true = false)
    (hQ : ∀ c a w, Q (.panic c) (a.put oi.dst v) w → Q (.panic c) a w) (hy : YieldsIf P ops S oi v a) (hS : S w)
    (h : anyE P md ops Q S n fuel (listed.setIfInBounds i true) (a.put oi.dst v) w) : anyE P md ops Q S n (fuel + 1) listed a w := by
  have hi := op_of_head hi'
  have hon := op_of_head hon'
  refine E_first hi hon ?_ (Region.noSelect_spec hs) hQ fuel listed a w (Region.free_spec hi hf) (by simpa using hr) hn hy hS h
  rw [Array.any_eq_true] at hwait
  obtain ⟨k, hk, h⟩ := hwait
  rw [Bool.and_eq_true] at h
  exact ⟨on.after[k], Array.getElem_mem hk, h.1, by simpa using h.2⟩

theorem E_step {n i : Nat} {o : Oper} {fuel : Nat} {listed : Array Bool} {a : Act} {w : World} (ho' : (ops.toList.drop i).head? = some o) (hr : Region.ready md ops listed = [i])
    (h : ∀ K' : Act → World → Prop, (∀ a w, ((listed.setIfInBounds i true).getD n true = false → S w) → (((listed.setIfInBounds i true).getD n true = false → S w) → anyE P md ops Q S n fuel (listed.setIfInBounds i true) a w) → K' a w) → if Region.wanted o (yielded ops a.tmps) = true then Oper.wp P o a w K' Q else K' (a.put o.dst undef) w) :
    anyE P md ops Q S n (fuel + 1) listed a w := by
  have ho := op_of_head ho'
  refine ⟨fun h0 => (by rw [hr] at h0; cases h0), fun j hj => ?_⟩
  rw [hr, List.mem_singleton] at hj
  subst hj
  exact wpOp_step ho (fun K' hK => h K' (fun a w hS hW => hK a w ⟨hS, hW hS⟩))

theorem E_done {n : Nat} {listed : Array Bool} {a : Act} {w : World} (hr : Region.ready md ops listed = []) (h : Q .normal a w) : ∀ fuel, anyE P md ops Q S n fuel listed a w
  | 0 => ⟨hr, h⟩
  | _ + 1 => ⟨fun _ => h, by rw [hr]; simp⟩

theorem region_E {id n : Nat} {a : Act} {w : World} (hm : P.follows .mixedOrders = true) (hS : S w.drew)
    (h : S w.drew → anyE P .any ops Q S n ops.size (Array.replicate ops.size false) a w.drew) : (Code.region id ops true).wp P Q a w :=
  wp_region_any hm (any_of_E _ _ _ _ (h hS))

end
end Go.Proofs.YtoknmjpnelbplaaGreat

namespace Go.Proofs.YtoknmjpnelbplaaGreat
open Go.RowKit

/-- Operation j is done. -/
def tk (L : Array Bool) (j : Nat) : Bool := L.getD j true

theorem tk_self (L : Array Bool) (i : Nat) : tk (L.setIfInBounds i true) i = true := by
  unfold tk
  rcases Nat.lt_or_ge i L.size with h | h
  · simp [h]
  · simp [h]

theorem tk_ne {L : Array Bool} {i j : Nat} (h : i ≠ j) : tk (L.setIfInBounds i true) j = tk L j := getD_set_ne true h

theorem tk_false_lt {L : Array Bool} {j : Nat} (h : tk L j = false) : j < L.size := by
  unfold tk at h
  rcases Nat.lt_or_ge j L.size with h' | h'
  · exact h'
  · simp [h'] at h

theorem tk_getD {L : Array Bool} {j : Nat} (h : L.getD j false = true) : tk L j = true := by
  unfold tk
  rcases Nat.lt_or_ge j L.size with h' | h'
  · simp [h'] at h ⊢; exact h
  · simp [h'] at h

theorem preS {L : Array Bool} {i : Nat} {l : List Nat} (h : ∀ j ∈ l, tk L j = true) : ∀ j ∈ l, tk (L.setIfInBounds i true) j = true := by
  intro j hj
  by_cases hij : i = j
  · subst hij; exact tk_self L i
  · rw [tk_ne hij]; exact h j hj

/-- A fact once operation j is done. -/
def Aft (L : Array Bool) (j : Nat) (p : Prop) : Prop := tk L j = true → p

theorem Aft.keep {L : Array Bool} {i j : Nat} {p : Prop} (h : Aft L j p) (hne : i ≠ j) : Aft (L.setIfInBounds i true) j p := fun ht => h (by rw [tk_ne hne] at ht; exact ht)
theorem Aft.new {L : Array Bool} {j : Nat} {p : Prop} (h : p) : Aft L j p := fun _ => h
theorem Aft.no {L : Array Bool} {j : Nat} {p : Prop} (h : tk L j = false) : Aft L j p := fun ht => by rw [h] at ht; cases ht
/-- v points to a block of its own, known whole. -/
def NewAt (base : Nat) (t : TypeId) (cs : Array Value) (v : Value) (w : World) : Prop := ∃ g, v = .pointer (some ⟨g, 0, none⟩) ∧ base ≤ g ∧ Blk w g t cs
theorem NewAt.below {base : Nat} {t : TypeId} {cs : Array Value} {v : Value} {w w' : World} (h : NewAt base t cs v w) (hb : Below w.heap.size w w') : NewAt base t cs v w' := by
  obtain ⟨g, h1, h2, h3⟩ := h
  exact ⟨g, h1, h2, h3.below hb h3.lt⟩
theorem NewAt.ne {base : Nat} {t : TypeId} {cs : Array Value} {v : Value} {w : World} (h : NewAt base t cs v w) : v ≠ .pointer (some ⟨w.heap.size, 0, none⟩) := by
  obtain ⟨g, h1, h2, h3⟩ := h
  have := h3.lt
  rintro rfl
  injection h1 with h1
  injection h1 with h1
  injection h1 with h1
  omega

theorem NewAt.far {base : Nat} {t : TypeId} {cs : Array Value} {v : Value} {w : World} (h : NewAt base t cs v w) {g i : Nat} (hne : v ≠ .pointer (some ⟨g, 0, none⟩)) (x : Value) : NewAt base t cs v (w.setCell ⟨g, i, none⟩ x) := by
  obtain ⟨g', h1, h2, h3⟩ := h
  exact ⟨g', h1, h2, h3.far (p := ⟨g, i, none⟩) (fun e => hne (by rw [h1, show g' = g from e])) x⟩

/-- A block that operation i lays and operation s fills. -/
structure One (L : Array Bool) (i s base : Nat) (t : TypeId) (z f : Array Value) (v : Value) (w : World) : Prop where
  ord : tk L s = true → tk L i = true
  zero : tk L i = true → tk L s = false → NewAt base t z v w
  full : tk L s = true → NewAt base t f v w

theorem One.start {L : Array Bool} {i s base : Nat} {t : TypeId} {z f : Array Value} {v : Value} {w : World} (hi : tk L i = false) (hs : tk L s = false) : One L i s base t z f v w :=
  ⟨fun h => by (rw [hs] at h; cases h), fun h => by (rw [hi] at h; cases h), fun h => by (rw [hs] at h; cases h)⟩

theorem One.step {L : Array Bool} {i s base k : Nat} {t : TypeId} {z f : Array Value} {v : Value} {w w' : World} (h : One L i s base t z f v w) (h1 : k ≠ i) (h2 : k ≠ s) (hb : Below w.heap.size w w') : One (L.setIfInBounds k true) i s base t z f v w' :=
  ⟨by rw [tk_ne h1, tk_ne h2]; exact h.ord, by rw [tk_ne h1, tk_ne h2]; exact fun a b => (h.zero a b).below hb, by rw [tk_ne h2]; exact fun a => (h.full a).below hb⟩

theorem One.far {L : Array Bool} {i s base k g : Nat} {t : TypeId} {z f : Array Value} {v : Value} {w : World} (h : One L i s base t z f v w) (h1 : k ≠ i) (h2 : k ≠ s) (hne : tk L i = true → v ≠ .pointer (some ⟨g, 0, none⟩)) (a b : Nat) (x y : Value) :
    One (L.setIfInBounds k true) i s base t z f v ((w.setCell ⟨g, a, none⟩ x).setCell ⟨g, b, none⟩ y) :=
  ⟨by rw [tk_ne h1, tk_ne h2]; exact h.ord, by rw [tk_ne h1, tk_ne h2]; exact fun p q => ((h.zero p q).far (hne p) x).far (hne p) y, by rw [tk_ne h2]; exact fun p => ((h.full p).far (hne (h.ord p)) x).far (hne (h.ord p)) y⟩

theorem One.lay {L : Array Bool} {i s base : Nat} {t : TypeId} {z f : Array Value} {v : Value} {w : World} (h : One L i s base t z f v w) (hun : tk L i = false) (his : i ≠ s) (hb : base ≤ w.heap.size) : One (L.setIfInBounds i true) i s base t z f (.pointer (some ⟨w.heap.size, 0, none⟩)) (w.alloc (.cells z t)) := by
  have hs : tk L s = false := by
    cases hc : tk L s
    · rfl
    · have := h.ord hc
      rw [hun] at this; cases this
  exact ⟨(by rw [tk_ne his, hs]; exact (fun h => by cases h)), fun _ _ => ⟨_, rfl, hb, Blk.new w t z⟩, (by rw [tk_ne his, hs]; exact (fun h => by cases h))⟩

theorem One.fill {L : Array Bool} {i s base : Nat} {t : TypeId} {x y p q : Value} {v : Value} {w : World} {g : Nat} (h : One L i s base t #[x, y] #[p, q] v w) (hi : tk L i = true) (hs : tk L s = false) (hv : v = .pointer (some ⟨g, 0, none⟩)) (his : s ≠ i) :
    One (L.setIfInBounds s true) i s base t #[x, y] #[p, q] v ((w.setCell ⟨g, 0, none⟩ p).setCell ⟨g, 1, none⟩ q) := by
  obtain ⟨g', h1, h2, h3⟩ := h.zero hi hs
  rw [hv] at h1
  injection h1 with h1
  injection h1 with h1
  injection h1 with h1
  subst h1
  refine ⟨fun _ => by rw [tk_ne his]; exact hi, fun _ hc => (by rw [tk_self] at hc; cases hc), fun _ => ⟨g, hv, h2, ?_⟩⟩
  have := (h3.set_ 0 p).set_ 1 q
  simpa using this

/-- Two of them are not one. -/
def Apart2 (L : Array Bool) (i j : Nat) (v u : Value) : Prop := tk L i = true → tk L j = true → v ≠ u
theorem Apart2.start {L : Array Bool} {i j : Nat} {v u : Value} (h : tk L i = false) : Apart2 L i j v u := fun h1 => by rw [h] at h1; cases h1
theorem Apart2.step {L : Array Bool} {i j k : Nat} {v u : Value} (h : Apart2 L i j v u) (h1 : k ≠ i) (h2 : k ≠ j) : Apart2 (L.setIfInBounds k true) i j v u := by
  unfold Apart2; rw [tk_ne h1, tk_ne h2]; exact h
theorem One.old {L : Array Bool} {i s base : Nat} {t : TypeId} {z f : Array Value} {v : Value} {w : World} (h : One L i s base t z f v w) (hi : tk L i = true) : v ≠ .pointer (some ⟨w.heap.size, 0, none⟩) := by
  cases hs : tk L s
  · exact (h.zero hi hs).ne
  · exact (h.full hs).ne
theorem Apart2.newR {L : Array Bool} {i j s base : Nat} {t : TypeId} {z f : Array Value} {v : Value} {w : World} (h : One L i s base t z f v w) (h1 : j ≠ i) : Apart2 (L.setIfInBounds j true) i j v (.pointer (some ⟨w.heap.size, 0, none⟩)) := by
  unfold Apart2; rw [tk_ne h1]; exact fun hi _ => h.old hi
theorem Apart2.newL {L : Array Bool} {i j s base : Nat} {t : TypeId} {z f : Array Value} {v : Value} {w : World} (h : One L j s base t z f v w) (h1 : i ≠ j) : Apart2 (L.setIfInBounds i true) i j (.pointer (some ⟨w.heap.size, 0, none⟩)) v := by
  unfold Apart2; rw [tk_ne h1]; exact fun _ hj => (h.old hj).symm

section
variable {P : Program} {md : Region.Mode} {ops : Array Oper} {Q : Exit → Act → World → Prop} {S : World → Prop}

theorem ready_un {i : Nat} {L : Array Bool} (h : i ∈ Region.ready md ops L) : tk L i = false := (mem_ready.1 h).1
theorem ready_tk {i j : Nat} {o : Oper} {L : Array Bool} (h : i ∈ Region.ready md ops L) (ho : (ops.toList.drop i).head? = some o) (hw : (o.after.any fun e => Region.binds md e && e.on == j) = true) : tk L j = true := by
  obtain ⟨_, o', ho', hall⟩ := mem_ready.1 h
  rw [op_of_head ho] at ho'
  cases ho'
  rw [Array.any_eq_true] at hw
  obtain ⟨k, hk, h2⟩ := hw
  rw [Bool.and_eq_true] at h2
  have := hall o.after[k] (Array.getElem_mem hk) h2.1
  rw [show o.after[k].on = j by simpa using h2.2] at this
  exact tk_getD this

/-- Every bound edge leads back. -/
def backB (md : Region.Mode) (ops : Array Oper) : Bool := (List.range ops.size).all fun i => ((ops[i]?).map (·.after.all fun e => !Region.binds md e || decide (e.on < i))).getD true
/-- Number n waits for all ahead of it, all behind it wait for it. -/
def lastB (md : Region.Mode) (ops : Array Oper) (n : Nat) : Bool :=
  ((ops[n]?).map fun o => (List.range n).all fun j => o.after.any fun e => Region.binds md e && e.on == j).getD false &&
  (List.range ops.size).all fun i => decide (i ≤ n) || ((ops[i]?).map fun o => o.after.any fun e => Region.binds md e && e.on == n).getD true

theorem wp_step {i : Nat} {o : Oper} {K : Act → World → Prop} {a : Act} {w : World} (ho : (ops.toList.drop i).head? = some o)
    (h : ∀ K' : Act → World → Prop, (∀ a w, K a w → K' a w) → if Region.wanted o (yielded ops a.tmps) = true then Oper.wp P o a w K' Q else K' (a.put o.dst undef) w) : wpOp P ops Q i K a w :=
  wpOp_step (op_of_head ho) h

theorem ready_some (hb : backB md ops = true) {L : Array Bool} (hs : L.size = ops.size) {k : Nat} (hk : tk L k = false) : Region.ready md ops L ≠ [] := by
  intro hr
  have hex : ∀ m, m ≤ ops.size → ∀ j, j < m → tk L j = true := by
    intro m
    induction m with
    | zero => intro _ j hj; omega
    | succ m ih =>
      intro hm j hj
      rcases Nat.lt_succ_iff_lt_or_eq.1 hj with h | h
      · exact ih (by omega) j h
      · subst h
        apply Classical.byContradiction
        intro hc
        have hc' : tk L j = false := by simpa using hc
        have hj2 : j < ops.size := by omega
        have : j ∈ Region.ready md ops L := by
          rw [mem_ready]
          refine ⟨hc', ops[j], by simp [hj2], fun e he hbd => ?_⟩
          unfold backB at hb
          rw [List.all_eq_true] at hb
          have h1 := hb j (List.mem_range.2 hj2)
          simp only [Array.getElem?_eq_getElem hj2, Option.map_some, Option.getD_some, Array.all_eq_true_iff_forall_mem] at h1
          have h2 := h1 e he
          rw [hbd] at h2
          have h3 : e.on < j := by simpa using h2
          have h4 := ih (by omega) e.on h3
          unfold tk at h4
          have h5 : e.on < L.size := by omega
          simp [h5] at h4 ⊢
          exact h4
        rw [hr] at this
        cases this
  have hk2 := tk_false_lt hk
  have := hex ops.size (Nat.le_refl _) k (by omega)
  rw [this] at hk
  cases hk

/-- How many are left. -/
def leftN (N : Nat) (L : Array Bool) : Nat := (List.range N).countP fun j => !tk L j

theorem leftN_set {N i : Nat} {L : Array Bool} (hi : i < N) (h : tk L i = false) : leftN N (L.setIfInBounds i true) + 1 = leftN N L := by
  unfold leftN
  induction N with
  | zero => omega
  | succ N ih =>
    rw [List.range_succ, List.countP_append, List.countP_append]
    by_cases he : i = N
    · subst he
      have e : (List.range i).countP (fun j => !tk (L.setIfInBounds i true) j) = (List.range i).countP (fun j => !tk L j) := by
        apply List.countP_congr
        intro j hj
        have := List.mem_range.1 hj
        rw [tk_ne (show i ≠ j by omega)]
      rw [e]
      simp [List.countP_cons, tk_self, h]
    · have := ih (by omega)
      have e : [N].countP (fun j => !tk (L.setIfInBounds i true) j) = [N].countP (fun j => !tk L j) := by
        simp [List.countP_cons, tk_ne he]
      rw [e]
      omega

/-- The list of a region all of whose first n operations are done. -/
def doneL (n N : Nat) : Array Bool := Array.replicate n true ++ Array.replicate (N - n) false

theorem done_eq {n : Nat} {L : Array Bool} (h1 : ∀ j, j < n → tk L j = true) (h2 : ∀ j, n ≤ j → j < L.size → tk L j = false) (hn : n ≤ L.size) : L = doneL n L.size := by
  apply Array.ext
  · simp [doneL]; omega
  · intro j hj hj'
    have e : tk L j = L[j] := by unfold tk; simp [hj]
    rcases Nat.lt_or_ge j n with h | h
    · rw [← e, h1 j h]
      simp [doneL, Array.getElem_append, h]
    · rw [← e, h2 j h hj]
      simp [doneL, Array.getElem_append, show ¬ j < n by omega]

/-- What every operation ahead of number n keeps holds when number n comes up. -/
theorem E_phase {n : Nat} {Inv : Array Bool → Act → World → Prop} (hn : n < ops.size) (hb : backB md ops = true) (hl : lastB md ops n = true)
    (hstep : ∀ L a w, Inv L a w → ∀ i, i < n → i ∈ Region.ready md ops L → wpOp P ops Q i (fun a' w' => S w' ∧ Inv (L.setIfInBounds i true) a' w') a w)
    (hend : ∀ a w, Inv (doneL n ops.size) a w → anyE P md ops Q S n (ops.size - n) (doneL n ops.size) a w) :
    ∀ (fuel : Nat) (L : Array Bool) (a : Act) (w : World), L.size = ops.size → (∀ j, n ≤ j → j < ops.size → tk L j = false) → leftN ops.size L = fuel → Inv L a w → anyE P md ops Q S n fuel L a w := by
  intro fuel
  induction fuel with
  | zero =>
    intro L a w hs hun hc _
    exfalso
    have h0 := hun n (Nat.le_refl _) hn
    unfold leftN at hc
    rw [List.countP_eq_zero] at hc
    have := hc n (List.mem_range.2 hn)
    rw [h0] at this
    exact this rfl
  | succ fuel ih =>
    intro L a w hs hun hc hI
    by_cases hrn : n ∈ Region.ready md ops L
    · have hall : ∀ j, j < n → tk L j = true := by
        intro j hj
        unfold lastB at hl
        rw [Bool.and_eq_true] at hl
        have h1 := hl.1
        rw [Array.getElem?_eq_getElem hn, Option.map_some, Option.getD_some, List.all_eq_true] at h1
        exact ready_tk (o := ops[n]) hrn (by rw [List.head?_drop, Array.getElem?_toList, Array.getElem?_eq_getElem hn]) (h1 j (List.mem_range.2 hj))
      have hL := done_eq hall (fun j h1 h2 => hun j h1 (by omega)) (by omega)
      rw [hs] at hL
      have hcnt : fuel + 1 = ops.size - n := by
        rw [← hc, hL]
        unfold leftN
        have e : ∀ N, n ≤ N → (List.range N).countP (fun j => !tk (doneL n N) j) = N - n := by
          intro N hN
          have g : ∀ m, m ≤ N → (List.range m).countP (fun j => !tk (doneL n N) j) = m - n := by
            intro m
            induction m with
            | zero => intro _; simp
            | succ m ihm =>
              intro hm
              rw [List.range_succ, List.countP_append, ihm (by omega)]
              have hv : tk (doneL n N) m = decide (m < n) := by
                unfold tk doneL
                by_cases h : m < n
                · simp [Array.getElem?_append, h]
                · simp [Array.getElem?_append, h, show m - n < N - n by omega]
              by_cases h : m < n
              · simp [List.countP_cons, hv, h]; omega
              · simp [List.countP_cons, hv, h]; omega
          exact g N (Nat.le_refl _)
        exact e ops.size (by omega)
      rw [hcnt, hL]
      exact hend a w (by rw [hL] at hI; exact hI)
    · refine ⟨fun h0 => absurd h0 (ready_some hb hs (hun n (Nat.le_refl _) hn)), fun i hi => ?_⟩
      have hun_i := ready_un hi
      have hil : i < ops.size := by have := tk_false_lt hun_i; omega
      have hin : i < n := by
        apply Classical.byContradiction
        intro hge
        rcases Nat.lt_or_eq_of_le (Nat.le_of_not_lt hge) with h | h
        · unfold lastB at hl
          rw [Bool.and_eq_true] at hl
          have h1 := List.all_eq_true.1 hl.2 i (List.mem_range.2 hil)
          rw [Array.getElem?_eq_getElem hil, Option.map_some, Option.getD_some] at h1
          have h2 : (ops[i].after.any fun e => Region.binds md e && e.on == n) = true := by
            rcases Bool.or_eq_true_iff.1 h1 with h3 | h3
            · simp at h3; omega
            · exact h3
          have := ready_tk (o := ops[i]) hi (by rw [List.head?_drop, Array.getElem?_toList, Array.getElem?_eq_getElem hil]) h2
          rw [hun n (Nat.le_refl _) hn] at this
          cases this
        · subst h; exact hrn hi
      refine wpOp_mono (fun a' w' h' => ⟨fun _ => h'.1, ih (L.setIfInBounds i true) a' w' (by simpa using hs) (fun j h1 h2 => by rw [tk_ne (by omega)]; exact hun j h1 h2) ?_ h'.2⟩) (hstep L a w hI i hin hi)
      have := leftN_set (N := ops.size) hil hun_i
      omega

end
end Go.Proofs.YtoknmjpnelbplaaGreat

namespace Go.Proofs.YtoknmjpnelbplaaGreat

theorem frD_nodup (ls : List Pr) (k : Nat) : ∀ m, (frD ls k m).Nodup
  | 0 => by simp [frD]
  | m + 1 => by
    by_cases h : dFrom ls m = k
    · rw [frD_yes h, List.nodup_append]
      refine ⟨frD_nodup ls k m, by simp, fun a ha b hb => ?_⟩
      have := (frD_lt ls k m a ha).1
      simp at hb
      omega
    · rw [frD_no h]; exact frD_nodup ls k m

/-- Two darts of a valid window with the same ends are one. -/
theorem dart_one {ns ls : List Pr} (h : WinOk ns ls) {d e : Nat} (hd : d < 2 * ls.length) (he : e < 2 * ls.length) (h1 : dFrom ls d = dFrom ls e) (h2 : dTo ls d = dTo ls e) : d = e := by
  have h6 := h.2.2.2.2.2
  have l1 := leadB_iff.1 (h6 (d / 2) (by omega)).1
  have l2 := leadB_iff.1 (h6 (e / 2) (by omega)).1
  by_cases hq : d / 2 = e / 2
  · unfold dFrom at h1
    rw [hq] at h1 l1
    by_cases p1 : d % 2 = 1 <;> by_cases p2 : e % 2 = 1
    · omega
    · rw [if_pos p1, if_neg p2] at h1; omega
    · rw [if_neg p1, if_pos p2] at h1; omega
    · omega
  · exfalso
    refine lead_apart h (by omega) (by omega) hq ?_
    unfold dFrom at h1
    unfold dTo at h2
    refine Prod.ext_iff.2 ?_
    by_cases p1 : d % 2 = 1 <;> by_cases p2 : e % 2 = 1
    · rw [if_pos p1, if_pos p2] at h1 h2; exact ⟨h2, h1⟩
    · rw [if_pos p1, if_neg p2] at h1 h2; exfalso; omega
    · rw [if_neg p1, if_pos p2] at h1 h2; exfalso; omega
    · rw [if_neg p1, if_neg p2] at h1 h2; exact ⟨h1, h2⟩

theorem frD_le {ns ls : List Pr} (h : WinOk ns ls) (k : Nat) : (frD ls k (2 * ls.length)).length ≤ 12 := by
  apply Classical.byContradiction
  intro hc
  have hld : ∀ j : Nat, j < ls.length → leadB ns (ndI ls j) = true := fun j hj => (h.2.2.2.2.2 j hj).1
  have hn := h.2.1
  generalize hG : frD ls k (2 * ls.length) = G at *
  have hm : ∀ i, i < G.length → G.getD i 0 < 2 * ls.length ∧ dFrom ls (G.getD i 0) = k := by
    intro i hi
    have := frD_lt ls k (2 * ls.length) (G.getD i 0) (by rw [hG, List.getD, List.getElem?_eq_getElem hi]; exact List.getElem_mem hi)
    exact this
  obtain ⟨i, j, h1, h2, h3⟩ := pigeon 12 (fun i => (dTo ls (G.getD i 0)).toNat) (fun i hi => by
    obtain ⟨t, ht, htn⟩ := dTo_nat hld (hm i (by omega)).1
    show (dTo ls (G.getD i 0)).toNat < 12
    rw [ht]; omega)
  have mi := hm i (by omega)
  have mj := hm j (by omega)
  obtain ⟨t, ht, _⟩ := dTo_nat hld mi.1
  obtain ⟨u, hu, _⟩ := dTo_nat hld mj.1
  have h3' : (dTo ls (G.getD i 0)).toNat = (dTo ls (G.getD j 0)).toNat := h3
  have hto : dTo ls (G.getD i 0) = dTo ls (G.getD j 0) := by rw [ht, hu] at h3' ⊢; omega
  have he := dart_one h mi.1 mj.1 (by rw [mi.2, mj.2]) hto
  have hnd := frD_nodup ls k (2 * ls.length)
  rw [hG] at hnd
  have li : i < G.length := by omega
  have lj : j < G.length := by omega
  rw [List.getD, List.getD, List.getElem?_eq_getElem li, List.getElem?_eq_getElem lj] at he
  have := (List.getElem_inj hnd).1 (by simpa using he)
  omega

end Go.Proofs.YtoknmjpnelbplaaGreat
