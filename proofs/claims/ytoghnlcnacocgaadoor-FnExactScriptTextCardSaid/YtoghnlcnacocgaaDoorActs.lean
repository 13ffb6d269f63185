/-
  Lists of acts in memory: opened, measured, converted, compared.
-/
import Derived.Test.YtoghnlcnacocgaaDoorAct
import Derived.Test.YtoghnlcnacocgaaDoorBlk
import Derived.Test.YtoghnlcnacocgaaDoorOpen
import Derived.Test.YtoghnlcnacocgaaDoorLaw
import Derived.Deep.Slices
import Derived.Deep.Fields
import Derived.ChangeSame
import Derived.OwnWalk
import Derived.StillTailTactics
set_option linter.unusedSimpArgs false
set_option linter.unusedVariables false
namespace Go.Proofs.YtoghnlcnacocgaaDoor
open Go.ChangeShapes Go.WideShapes Go.RowKit

/-- An act. -/
structure Ac where
  k : Int
  a : Int
  b : Int

def Ac.cs (r : Ac) : List Value := [.int .i64 r.k, .int .i64 r.a, .int .i64 r.b]

/-- v reads as the list of acts. -/
def RA (w : World) (v : Value) (l : List Ac) : Prop := RS w 3 v l.length (l.flatMap Ac.cs)

theorem RA.below {w w' : World} {v : Value} {l : List Ac} (h : RA w v l) (hb : Below w.heap.size w w') : RA w' v l := RS.below h hb

theorem RA.form {w : World} {v : Value} {l : List Ac} (h : RA w v l) : ∃ A c, v = .slice A l.length c ∧ l.length ≤ c ∧ l.length ≤ maxLen ∧
    (0 < l.length → ∃ b off, A = some ⟨b, off, none⟩ ∧ b < w.heap.size ∧ ∀ k (hk : k < l.length), w.cell? ⟨b, off + k * 3, none⟩ = some (.int .i64 l[k].k) ∧ w.cell? ⟨b, off + k * 3 + 1, none⟩ = some (.int .i64 l[k].a) ∧
      w.cell? ⟨b, off + k * 3 + 2, none⟩ = some (.int .i64 l[k].b)) := by
  obtain ⟨_, A, c, hv, h1, h2, h3⟩ := h
  refine ⟨A, c, hv, h1, h2, fun hn => ?_⟩
  obtain ⟨b, off, hA, hlt, hc⟩ := h3 hn
  refine ⟨b, off, hA, hlt, fun k hk => ?_⟩
  have g := fun j hj => flat_get Ac.cs 3 (fun _ => rfl) l k j hk hj
  refine ⟨?_, ?_, ?_⟩
  · exact hc (k * 3 + 0) _ (by rw [g 0 (by omega)]; rfl)
  · have := hc (k * 3 + 1) _ (by rw [g 1 (by omega)]; rfl); rwa [← Nat.add_assoc] at this
  · have := hc (k * 3 + 2) _ (by rw [g 2 (by omega)]; rfl); rwa [← Nat.add_assoc] at this

section
variable {H : Type} {enc : TypeId × Value → H} {w : World} {base : Nat} {spare : Nat → Bool} {held : Bool}
set_option maxRecDepth 100000 in
/-- A list of acts that came in. -/
theorem open_acts {v : Value} {d : DataW H} {p : List MemPlace} (hval : Value.okWide Tryd.prog w .any base 35 v) (h : DataW.Trod enc Tryd.prog w 0 spare held 35 v d p) :
    ∃ l : List Ac, RA w v l := by
  obtain ⟨A, len, cap, rfl⟩ := okWide_slice Tryd.underlying35 hval
  obtain ⟨fuel, hf⟩ := h
  obtain ⟨f, hlc, hm, hc⟩ := open_rows Tryd.underlying35 Tryd.underlying29 (by kernel_rfl) (by kernel_rfl) (by decide) (fun j g hj => by
    match j, hj with
    | 0, hj => cases hj; exact Tryd.underlying3
    | 1, hj => cases hj; exact Tryd.underlying3
    | 2, hj => cases hj; exact Tryd.underlying3
    | j + 3, hj => simp at hj) (by simpa [Value.cells] using hf)
  refine ⟨(List.range len).map fun i => ⟨f (i * 3 + 0), f (i * 3 + 1), f (i * 3 + 2)⟩, ?_, A, cap, by simp, by simpa using hlc, by simpa using hm, fun hpos => ?_⟩
  · rw [flat_len Ac.cs 3 (fun _ => rfl)]
  · obtain ⟨b, off, hA, hb, hcell⟩ := hc (by simpa using hpos)
    refine ⟨b, off, hA, hb, fun j u hu => ?_⟩
    have hj : j < len * 3 := by
      have := (List.getElem?_eq_some_iff.1 hu).1
      rw [flat_len Ac.cs 3 (fun _ => rfl)] at this
      simpa using this
    have hq : j / 3 < len := by omega
    have hr : j % 3 < 3 := by omega
    have e : j / 3 * 3 + j % 3 = j := by omega
    have h1 := hcell (j / 3) (j % 3) hq hr
    have h2 := flat_get Ac.cs 3 (fun _ => rfl) ((List.range len).map fun i => (⟨f (i * 3 + 0), f (i * 3 + 1), f (i * 3 + 2)⟩ : Ac)) (j / 3) (j % 3) (by simpa using hq) hr
    rw [e, hu] at h2
    show w.cell? ⟨b, off + j, none⟩ = some u
    have e' : off + j = off + (j / 3 * 3 + j % 3) := by omega
    rw [e', h2]
    refine Eq.trans h1 ?_
    have : j % 3 = 0 ∨ j % 3 = 1 ∨ j % 3 = 2 := by omega
    rcases this with h | h | h <;> rw [h] <;> simp [Ac.cs]
end

theorem szActS_any (v : Value) (l : List Ac) (n : Int) (w : World) (h : RA w v l) (h0 : 0 ≤ n) (h1 : n ≤ 1000000000) :
    Calls Tryd.prog 13 #[v, .int .i64 n] w fun e w' => e = .returned (.int .i64 (szF n l.length)) ∧ w = w' := by
  obtain ⟨A, c, rfl, hc, hm, hcell⟩ := h.form
  unfold maxLen at hm
  clear h hcell
  by_cases hlt : n < l.length
  · have hneg : n - (l.length : Int) < 0 := by omega
    have HF : Hid (szF n l.length = -1) := Lib.hid (by unfold szF; rw [if_pos hlt])
    go_enter Tryd.func13, Tryd.ntmps13
    go_wp2
    all_goals go_ret
    all_goals exact ⟨ret_int HF.out.symm, rfl⟩
  · have hneg : ¬ n - (l.length : Int) < 0 := by omega
    have HF : Hid (szF n l.length = n - l.length) := Lib.hid (by unfold szF; rw [if_neg hlt])
    go_enter Tryd.func13, Tryd.ntmps13
    go_wp2
    all_goals go_ret
    all_goals exact ⟨ret_int HF.out.symm, rfl⟩

theorem szActS_less (v : Value) (l : List Ac) (w : World) (h : RA w v l) (hlt : 1048576 < l.length) :
    Calls Tryd.prog 13 #[v, .int .i64 1048576] w fun e w' => e = .returned (.int .i64 (-1)) ∧ w = w' :=
  (szActS_any v l 1048576 w h (by omega) (by omega)).mono fun e w' ⟨he, hw⟩ => ⟨he.trans (ret_int (by unfold szF; rw [if_pos (by omega)])), hw⟩

theorem szActS_more (v : Value) (l : List Ac) (w : World) (h : RA w v l) (hlt : l.length ≤ 1048576) :
    Calls Tryd.prog 13 #[v, .int .i64 1048576] w fun e w' => e = .returned (.int .i64 (1048576 - l.length)) ∧ w = w' :=
  (szActS_any v l 1048576 w h (by omega) (by omega)).mono fun e w' ⟨he, hw⟩ => ⟨he.trans (ret_int (by unfold szF; rw [if_neg (by omega)])), hw⟩

theorem infoAct : (Tryd.prog.info? 32).map (fun i => (i.zero, i.size, i.bytes)) = some (some (.agg #[.int .i64 0, .int .i64 0, .int .i64 0]), 3, 24) := by kernel_rfl

/-- The first k acts, zeroes behind them. -/
def fillA (l : List Ac) (k : Nat) : List Value := (l.take k).flatMap Ac.cs ++ List.replicate ((l.length - k) * 3) (.int .i64 0)

theorem fillA_all (l : List Ac) : fillA l l.length = l.flatMap Ac.cs := by simp [fillA]

theorem fillA_get (l : List Ac) (k j : Nat) (h : k < l.length) (hj : j < 3) : (fillA l k)[k * 3 + j]? = some (.int .i64 0) := by
  unfold fillA
  have hl : ((l.take k).flatMap Ac.cs).length = k * 3 := by rw [flat_len Ac.cs 3 (fun _ => rfl), List.length_take, Nat.min_eq_left (by omega)]
  rw [List.getElem?_append_right (by omega), hl, Nat.add_sub_cancel_left, List.getElem?_replicate, if_pos]
  have : 1 * 3 ≤ (l.length - k) * 3 := Nat.mul_le_mul_right _ (by omega)
  omega

theorem fillA_succ (l : List Ac) (k : Nat) (h : k < l.length) :
    fillA l (k + 1) = ((((fillA l k).set (k * 3) (.int .i64 l[k].k)).set (k * 3 + 1) (.int .i64 l[k].a)).set (k * 3 + 2) (.int .i64 l[k].b)) := by
  unfold fillA
  have hl : ((l.take k).flatMap Ac.cs).length = k * 3 := by rw [flat_len Ac.cs 3 (fun _ => rfl), List.length_take, Nat.min_eq_left (by omega)]
  have hr : (l.length - k) * 3 = (l.length - (k + 1)) * 3 + 1 + 1 + 1 := by
    have : l.length - k = (l.length - (k + 1)) + 1 := by omega
    rw [this, Nat.add_mul]
  rw [List.take_succ_eq_append_getElem h, List.flatMap_append, hr]
  have e0 : ∀ (x : List Value) (y : List Value) (n j : Nat) (u : Value), x.length = n → (x ++ y).set (n + j) u = x ++ y.set j u := by
    intro x y n j u hx
    rw [List.set_append, if_neg (by omega), hx, Nat.add_sub_cancel_left]
  rw [show k * 3 = k * 3 + 0 from rfl, e0 _ _ _ 0 _ hl, Nat.add_zero, e0 _ _ _ 1 _ hl, e0 _ _ _ 2 _ hl]
  simp [List.replicate_succ, Ac.cs]

theorem made3 (n : Nat) : (madeCells #[.int .i64 0, .int .i64 0, .int .i64 0] n).toList = List.replicate n (.int .i64 0) := by
  apply List.ext_getElem?
  intro j
  by_cases hj : j < n
  · simp only [madeCells, Array.toList_map, List.getElem?_map, Array.toList_range, List.getElem?_range hj, List.getElem?_replicate, if_pos hj, Option.map_some]
    congr 1
    have : j % 3 = 0 ∨ j % 3 = 1 ∨ j % 3 = 2 := by omega
    show #[Value.int .i64 0, .int .i64 0, .int .i64 0][j % 3]! = _
    rcases this with h | h | h <;> rw [h] <;> rfl
  · simp [madeCells, hj]

def OwnA (base : Nat) (w : World) (v : Value) (l : List Ac) : Prop := w.ownsRow base 32 3 v l.length (l.flatMap Ac.cs)

theorem OwnA.reads {base : Nat} {w : World} {v : Value} {l : List Ac} (h : OwnA base w v l) : RA w v l := own_reads h

theorem OwnA.kept {base : Nat} {w w' : World} {v : Value} {l : List Ac} (h : OwnA base w v l) (hb : Below w.heap.size w w') : OwnA base w' v l := own_kept h hb

def RetA (l : List Ac) (w : World) (e : Ending) (w' : World) : Prop := ∃ v, e = .returned v ∧ OwnA w.heap.size w' v l ∧ Below w.heap.size w w'

set_option maxHeartbeats 4000000 in
set_option maxRecDepth 100000 in
theorem toActS_any (v : Value) (l : List Ac) (w : World) (h : RA w v l) (hle : l.length ≤ 1048576) :
    Calls Tryd.prog 15 #[v] w (RetA l w) := by
  obtain ⟨A, c, rfl, hc, hm, hcell⟩ := h.form
  clear h hm
  obtain ⟨i0, hi, hz0, hz1, hz2⟩ := info_parts infoAct
  go_enter Tryd.func15, Tryd.ntmps15
  go_wp2_with (at_make; refine wpList_make_full _ rfl _ _ 38 rfl w.heap.size 32 i0 (.agg #[.int .i64 0, .int .i64 0, .int .i64 0]) 3 Tryd.underlying38 hi hz0 hz1 .i64 .i64 _ _ l.length rfl rfl rfl rfl (by rw [hz2]; omega) (by unfold maxLen; omega) (Nat.le_refl _) ?_)
  intro w1 hown1 hgr1
  have hb1 : Below w.heap.size w w1 := (Below.refl _ _).grown hgr1 (Nat.le_refl _) (by intro k hk; cases hk)
  have hown : w1.ownsRow w.heap.size 32 3 (.slice (some ⟨w.heap.size, 0, none⟩) l.length l.length) l.length (fillA l 0) := by
    rw [made3] at hown1
    simpa [fillA] using hown1
  have hw1 : w.heap.size ≤ w1.heap.size := hb1.size
  clear hown1 hgr1 hz0 hz1 hz2 hi
  go_wp2
  go_loopw [4] (fun i wr => ∃ k : Nat, k ≤ l.length ∧ i = .int .i64 k ∧ wr.ownsRow w.heap.size 32 3 (.slice (some ⟨w.heap.size, 0, none⟩) l.length l.length) l.length (fillA l k) ∧ Below w.heap.size w wr) (fun i _ => l.length - (intOf i).toNat)
  case atStart => exact ⟨0, Nat.zero_le _, rfl, hown, hb1⟩
  case round =>
    obtain ⟨k, hk, rfl, ho, hbl⟩ := hrel
    have hsz := hbl.size
    clear hown hb1 hw1
    by_cases hlt : k < l.length
    · obtain ⟨b, off, rfl, hb, hcl⟩ := hcell (by omega)
      obtain ⟨k0, k1, k2⟩ := hcl k hlt
      have q0 := (hbl.cell (p := ⟨b, off + k * 3, none⟩) hb).trans k0
      have q1 := (hbl.cell (p := ⟨b, off + k * 3 + 1, none⟩) hb).trans k1
      have q2 := (hbl.cell (p := ⟨b, off + k * 3 + 2, none⟩) hb).trans k2
      clear k0 k1 k2 hcl hcell
      go_wp2_with fail
      refine (toAct_any _ _ _ _).mono ?_
      rintro e w2 ⟨rfl, hb2⟩
      have ho2 := own_kept ho hb2
      have hsz2 := hb2.size
      have hbl2 : Below w.heap.size w w2 := by (repeat (first | exact Below.refl _ _ | assumption | refine Below.drew ?_ | refine below_drewN ?_ _ | refine Below.alloc ?_ (by first | omega | (simp; done) | (simp; omega)) _ | refine Below.setCell ?_ (by first | omega | (simp; done) | (simp; omega)) _ | refine Below.step (by assumption) ?_ (by first | omega | (simp; done) | (simp; omega)) | refine Below.mark (by assumption) (by assumption) ?_ (by first | omega | (simp; done) | (simp; omega)) (by first | omega | (simp; done) | (simp; omega))))
      have x0 := ho2.cellAt (k * 3 + 0) (by omega)
      have x1 := ho2.cellAt (k * 3 + 1) (by omega)
      have x2 := ho2.cellAt (k * 3 + 2) (by omega)
      have f0 := ho2.frozenAt (k * 3)
      have f1 := ho2.frozenAt (k * 3 + 1)
      have f2 := ho2.frozenAt (k * 3 + 2)
      rw [fillA_get l k _ hlt (by omega)] at x0 x1 x2
      rw [Nat.add_zero] at x0
      have s1 := (ho2.stored (k * 3) (.int .i64 l[k].k)).1
      have s2 := (s1.stored (k * 3 + 1) (.int .i64 l[k].a)).1
      have s3 := (s2.stored (k * 3 + 2) (.int .i64 l[k].b)).1
      rw [← fillA_succ l k hlt] at s3
      have HB := ((hbl2.setCell (p := ⟨w.heap.size, k * 3, none⟩) (Nat.le_refl _) (.int .i64 l[k].k)).setCell (p := ⟨w.heap.size, k * 3 + 1, none⟩) (Nat.le_refl _) (.int .i64 l[k].a)).setCell (p := ⟨w.heap.size, k * 3 + 2, none⟩) (Nat.le_refl _) (.int .i64 l[k].b)
      have HS := Lib.hid s3
      have HBL := Lib.hid HB
      clear s1 s2 s3 HB hbl2 ho2 ho hb2 hbl
      go_wp2
      go_roundw
      case rel => exact ⟨k + 1, by omega, by go_num, HS.out, HBL.out⟩
      case measure => simp [intOf]; omega
    · have hkk : k = l.length := by omega
      subst hkk
      rw [fillA_all] at ho
      have HO := Lib.hid ho
      have HB := Lib.hid hbl
      clear ho hbl hcell
      go_wp2
      go_ret
      exact ⟨_, rfl, HO.out, HB.out⟩

theorem eqAct_any (a b c a' b' c' : Int) (w : World) :
    Calls Tryd.prog 29 #[.agg #[.int .i64 a, .int .i64 b, .int .i64 c], .agg #[.int .i64 a', .int .i64 b', .int .i64 c']] w
      fun e w' => e = .returned (.bool (a == a' && b == b' && c == c')) ∧ Below w.heap.size w w' := by
  go_enter Tryd.func29, Tryd.ntmps29
  go_wp2
  all_goals go_ret
  all_goals refine ⟨ret_bool ?_, by (repeat (first | exact Below.refl _ _ | assumption | refine Below.drew ?_ | refine below_drewN ?_ _ | refine Below.alloc ?_ (by first | omega | (simp; done) | (simp; omega)) _ | refine Below.setCell ?_ (by first | omega | (simp; done) | (simp; omega)) _ | refine Below.step (by assumption) ?_ (by first | omega | (simp; done) | (simp; omega)) | refine Below.mark (by assumption) (by assumption) ?_ (by first | omega | (simp; done) | (simp; omega)) (by first | omega | (simp; done) | (simp; omega))))⟩
  all_goals simp_all

theorem Ac.beq_self (r : Ac) : (r.k == r.k && r.a == r.a && r.b == r.b) = true := by simp

set_option maxHeartbeats 2000000 in
set_option maxRecDepth 100000 in
/-- Two lists that read alike are found equal. -/
theorem eqActS_any (v u : Value) (l : List Ac) (w : World) (hv : RA w v l) (hu : RA w u l) :
    Calls Tryd.prog 17 #[v, u] w fun e w' => e = .returned (.bool true) ∧ Below w.heap.size w w' := by
  obtain ⟨A, c, rfl, hc, hm, hcell⟩ := hv.form
  obtain ⟨A', c', rfl, hc', hm', hcell'⟩ := hu.form
  unfold maxLen at hm hm'
  clear hv hu
  go_enter Tryd.func17, Tryd.ntmps17
  go_wp2
  go_loopw [5] (fun i wr => ∃ k : Nat, k ≤ l.length ∧ i = .int .i64 k ∧ Below w.heap.size w wr) (fun i _ => l.length - (intOf i).toNat)
  case atStart => exact ⟨0, Nat.zero_le _, rfl, Below.refl _ _⟩
  case round =>
    obtain ⟨k, hk, rfl, hbl⟩ := hrel
    have hsz := hbl.size
    by_cases hlt : k < l.length
    · obtain ⟨b, off, rfl, hb, hcl⟩ := hcell (by omega)
      obtain ⟨k0, k1, k2⟩ := hcl k hlt
      have q0 := (hbl.cell (p := ⟨b, off + k * 3, none⟩) hb).trans k0
      have q1 := (hbl.cell (p := ⟨b, off + k * 3 + 1, none⟩) hb).trans k1
      have q2 := (hbl.cell (p := ⟨b, off + k * 3 + 2, none⟩) hb).trans k2
      obtain ⟨b', off', rfl, hb', hcl'⟩ := hcell' (by omega)
      obtain ⟨j0, j1, j2⟩ := hcl' k hlt
      have p0 := (hbl.cell (p := ⟨b', off' + k * 3, none⟩) hb').trans j0
      have p1 := (hbl.cell (p := ⟨b', off' + k * 3 + 1, none⟩) hb').trans j1
      have p2 := (hbl.cell (p := ⟨b', off' + k * 3 + 2, none⟩) hb').trans j2
      have hi1 : (0 : Int) ≤ (k : Int) := by omega
      have hi2 : (k : Int) < (l.length : Int) := by omega
      clear k0 k1 k2 hcl hcell j0 j1 j2 hcl' hcell'
      go_wp2
      go_still_tail 8, (by kernel_rfl)
      go_wp2_with fail
      refine (eqAct_any _ _ _ _ _ _ _).mono ?_
      rw [Ac.beq_self]
      rintro e w2 ⟨rfl, hb2⟩
      have hbl2 : Below w.heap.size w w2 := hbl.trans ((show Below wr.heap.size wr w2 from ⟨hb2.os, hb2.tape, hb2.output, hb2.size, hb2.block⟩).mono hsz)
      clear hb2
      go_wp2
      go_roundw
      case rel => exact ⟨k + 1, by omega, by go_num, hbl2⟩
      case measure => simp [intOf]; omega
    · go_wp2
      go_ret
      exact ⟨rfl, hbl⟩

end Go.Proofs.YtoghnlcnacocgaaDoor
