/- part 24 -/
import Derived.Test.YtnjcpljhmhdhkaaGreatSPk4
import Derived.Deep.Slices
import Derived.Deep.Fields
import Derived.ChangeSame
import Derived.OwnWalk
import Derived.StillTailTactics
set_option linter.unusedSimpArgs false
set_option linter.unusedVariables false
namespace Go.Proofs.YtnjcpljhmhdhkaaGreat
open Go.ChangeShapes Go.WideShapes Go.Deep Go.RowKit
section
variable {H : Type} {enc : TypeId × Value → H} {P : Program} {w : World} {base : Nat} {spare : Nat → Bool} {held : Bool}
theorem open_slice_fields {t e : TypeId} {fs : Array Field} {fuel : Nat} {cs : List Value} {x : DataW H × List MemPlace} (ht : P.underlying t = some (.slice e)) (he : P.underlying e = some (.struct fs))
    (hone : oneCellFields P fs = true) (hC : P.cellsOf e = fs.size) (h : DataW.trod enc P w base spare held fuel t cs = some x) :
    (cs = [.slice none 0 0] ∧ x = (.nil, [])) ∨
    ∃ (a : Addr) (len cap m : Nat) (D : Nat → DataW H) (Pl : Nat → List MemPlace), cs = [.slice (some a) len cap] ∧ base ≤ a.block ∧ len ≤ cap ∧ cap ≤ maxLen ∧ m = (if spare a.block then cap else len) ∧
      x = (.slice ((List.range len).map D) ((List.range (m - len)).map fun j => D (len + j)), MemPlace.row a (m * fs.size) ++ (List.range m).flatMap Pl) ∧
      ∀ i, i < m → ∃ (ys : List (DataW H × List MemPlace)) (n : Nat), D i = .agg (ys.map (·.1)) ∧ Pl i = ys.flatMap (·.2) ∧ ys.length = fs.size ∧
        ∀ (j : Nat) (f : Field), fs[j]? = some f → ∃ (v : Value) (y : DataW H × List MemPlace), w.cell? (a.add (i * fs.size + j)) = some v ∧ ys[j]? = some y ∧ DataW.trod enc P w base spare held n f.type [v] = some y := by
  rcases open_slice ht h with h0 | ⟨a, len, cap, m, n, D, Pl, hcs, hb, hl, hm, hmm, hx, hi⟩
  · exact .inl h0
  · refine .inr ⟨a, len, cap, m, D, Pl, hcs, hb, hl, hm, hmm, by rw [hC] at hx; exact hx, fun i him => ?_⟩
    obtain ⟨cs', hc, ht'⟩ := hi i him
    rw [hC] at hc
    obtain ⟨ys, n', hn', hy, hlen, hyl, hf⟩ := DataW.trod_struct he ht'
    obtain ⟨_, hcl, hat⟩ := World.cells?_some hc
    simp only [Prod.mk.injEq] at hy
    refine ⟨ys, n', hy.1, hy.2, hyl, fun j f hj => ?_⟩
    obtain ⟨ho, hk⟩ := hone_of hone j f hj
    have hjl : j < fs.size := (Array.getElem?_eq_some_iff.1 hj).1
    have hcell := hat j hjl
    have hv : cs'[j]? = some (cs'[j]'(by omega)) := List.getElem?_eq_getElem (by omega)
    have h1 := hf j f hj
    rw [ho, hk] at h1
    have hone' : (cs'.drop j).take 1 = [cs'[j]'(by omega)] := by
      rw [List.drop_eq_getElem_cons (by omega)]
      rfl
    rw [hone'] at h1
    have hys : ys[j]? = some (ys[j]'(by omega)) := List.getElem?_eq_getElem (by omega)
    refine ⟨_, _, ?_, hys, h1.trans hys⟩
    rw [← Go.Deep.add_add, hcell, hv]
theorem open_rows {t e : TypeId} {fs : Array Field} {fuel : Nat} {A : Option Addr} {len cap : Nat} {x : DataW H × List MemPlace} (ht : P.underlying t = some (.slice e)) (he : P.underlying e = some (.struct fs))
    (hone : oneCellFields P fs = true) (hC : P.cellsOf e = fs.size) (hfs : 0 < fs.size) (hint : ∀ (j : Nat) (f : Field), fs[j]? = some f → P.underlying f.type = some (.int .i64))
    (h : DataW.trod enc P w base spare held fuel t [.slice A len cap] = some x) :
    ∃ f : Nat → Int, len ≤ cap ∧ len ≤ maxLen ∧ (0 < len → ∃ b off, A = some ⟨b, off, none⟩ ∧ b < w.heap.size ∧ ∀ i j, i < len → j < fs.size → w.cell? ⟨b, off + (i * fs.size + j), none⟩ = some (.int .i64 (f (i * fs.size + j)))) := by
  rcases open_slice_fields ht he hone hC h with ⟨hcs, _⟩ | ⟨a, len', cap', m, D, Pl, hcs, hb, hl, hm, hmm, hx, hi⟩
  · simp only [List.cons.injEq, Value.slice.injEq, and_true] at hcs
    obtain ⟨rfl, rfl, rfl⟩ := hcs
    exact ⟨fun _ => 0, Nat.le_refl _, by simp [maxLen], fun h => absurd h (by omega)⟩
  · simp only [List.cons.injEq, Value.slice.injEq, and_true] at hcs
    obtain ⟨rfl, rfl, rfl⟩ := hcs
    refine ⟨fun j => intOf ((w.cell? (a.add j)).getD undef), hl, by omega, fun hpos => ?_⟩
    have hlm : len ≤ m := by rw [hmm]; split <;> omega
    have key : ∀ i j, i < len → j < fs.size → ∃ n : Int, w.cell? (a.add (i * fs.size + j)) = some (.int .i64 n) := by
      intro i j hil hj
      obtain ⟨ys, n, _, _, _, hf⟩ := hi i (by omega)
      obtain ⟨v, y, hcell, _, hty⟩ := hf j fs[j] (Array.getElem?_eq_getElem hj)
      obtain ⟨q, e0, _, _⟩ := DataW.trod_int (hint j fs[j] (Array.getElem?_eq_getElem hj)) hty
      simp at e0
      subst e0
      exact ⟨q, hcell⟩
    · obtain ⟨n0, hn0⟩ := key 0 0 hpos hfs
      have hsp : a.spot = none := by
        cases hs : a.spot with
        | none => rfl
        | some s =>
          have e0 : a.add (0 * fs.size + 0) = a := by simp [Addr.add]
          rw [e0] at hn0
          unfold World.cell? at hn0
          split at hn0
          · rw [hs] at hn0; simp at hn0
          · cases hn0
      obtain ⟨b, off, sp⟩ := a
      simp at hsp
      subst hsp
      have hadd : ∀ k, (⟨b, off, none⟩ : Addr).add k = ⟨b, off + k, none⟩ := by
        intro k
        unfold Addr.add
        split <;> simp_all
      refine ⟨b, off, rfl, ?_, fun i j hil hj => ?_⟩
      · have := World.block_lt_of_cell? w _ hn0
        rw [hadd] at this
        exact this
      · obtain ⟨n, hn⟩ := key i j hil hj
        rw [hadd] at hn
        rw [hn]
        simp only [hadd, hn]
        rfl
end
end Go.Proofs.YtnjcpljhmhdhkaaGreat

namespace Go.Proofs.YtnjcpljhmhdhkaaGreat
open Go.ChangeShapes Go.WideShapes Go.RowKit
structure Dp where
  k : Int
  a : Int
  b : Int
def Dp.cs (r : Dp) : List Value := [.int .i64 r.k, .int .i64 r.a, .int .i64 r.b]
def RDp (w : World) (v : Value) (l : List Dp) : Prop := RS w 3 v l.length (l.flatMap Dp.cs)
theorem RDp.below {w w' : World} {v : Value} {l : List Dp} (h : RDp w v l) (hb : Below w.heap.size w w') : RDp w' v l := RS.below h hb
theorem RDp.form {w : World} {v : Value} {l : List Dp} (h : RDp w v l) : ∃ A c, v = .slice A l.length c ∧ l.length ≤ c ∧ l.length ≤ maxLen ∧
    (0 < l.length → ∃ b off, A = some ⟨b, off, none⟩ ∧ b < w.heap.size ∧ ∀ k (hk : k < l.length), w.cell? ⟨b, off + k * 3, none⟩ = some (.int .i64 l[k].k) ∧ w.cell? ⟨b, off + k * 3 + 1, none⟩ = some (.int .i64 l[k].a) ∧
      w.cell? ⟨b, off + k * 3 + 2, none⟩ = some (.int .i64 l[k].b)) := by
  obtain ⟨_, A, c, hv, h1, h2, h3⟩ := h
  refine ⟨A, c, hv, h1, h2, fun hn => ?_⟩
  obtain ⟨b, off, hA, hlt, hc⟩ := h3 hn
  refine ⟨b, off, hA, hlt, fun k hk => ?_⟩
  have g := fun j hj => flat_get Dp.cs 3 (fun _ => rfl) l k j hk hj
  refine ⟨?_, ?_, ?_⟩
  · exact hc (k * 3 + 0) _ (by rw [g 0 (by omega)]; rfl)
  · have := hc (k * 3 + 1) _ (by rw [g 1 (by omega)]; rfl); rwa [← Nat.add_assoc] at this
  · have := hc (k * 3 + 2) _ (by rw [g 2 (by omega)]; rfl); rwa [← Nat.add_assoc] at this
set_option maxHeartbeats 400000 in
theorem toDep_any (k a b : Int) (w : World) :
    Calls Tryz.prog 170 #[.agg #[.int .i64 k, .int .i64 a, .int .i64 b]] w fun e w' => e = .returned (.agg #[.int .i64 k, .int .i64 a, .int .i64 b]) ∧ Below w.heap.size w w' := by
  go_enter Tryz.func170, Tryz.ntmps170
  go_wp2
  exact bodyPost_ret (v := .agg #[.int .i64 k, .int .i64 a, .int .i64 b]) (by simp [results, Tryz.results170, go_sem]) rfl ⟨rfl, by exact bel_⟩
section
variable {H : Type} {enc : TypeId × Value → H} {w : World} {base : Nat} {spare : Nat → Bool} {held : Bool}
set_option maxRecDepth 100000 in
theorem deps_of_trod {n : Nat} {A : Option Addr} {len cap : Nat} {x : DataW H × List MemPlace} (hf : DataW.trod enc Tryz.prog w base spare held n 59 [.slice A len cap] = some x) :
    ∃ l : List Dp, RDp w (.slice A len cap) l := by
  obtain ⟨f, hlc, hm, hc⟩ := open_rows Tryz.underlying59 Tryz.underlying165 (by kernel_rfl) (by kernel_rfl) (by decide) (fun j g hj => by
    match j, hj with
    | 0, hj => cases hj; exact Tryz.underlying3
    | 1, hj => cases hj; exact Tryz.underlying3
    | 2, hj => cases hj; exact Tryz.underlying3
    | j + 3, hj => simp at hj) (by simpa [Value.cells] using hf)
  refine ⟨(List.range len).map fun i => ⟨f (i * 3 + 0), f (i * 3 + 1), f (i * 3 + 2)⟩, ?_, A, cap, by simp, by simpa using hlc, by simpa using hm, fun hpos => ?_⟩
  · rw [flat_len Dp.cs 3 (fun _ => rfl)]
  · obtain ⟨b, off, hA, hb, hcell⟩ := hc (by simpa using hpos)
    refine ⟨b, off, hA, hb, fun j u hu => ?_⟩
    have hj : j < len * 3 := by
      have := (List.getElem?_eq_some_iff.1 hu).1
      rw [flat_len Dp.cs 3 (fun _ => rfl)] at this
      simpa using this
    have hq : j / 3 < len := by omega
    have hr : j % 3 < 3 := by omega
    have e : j / 3 * 3 + j % 3 = j := by omega
    have h1 := hcell (j / 3) (j % 3) hq hr
    have h2 := flat_get Dp.cs 3 (fun _ => rfl) ((List.range len).map fun i => (⟨f (i * 3 + 0), f (i * 3 + 1), f (i * 3 + 2)⟩ : Dp)) (j / 3) (j % 3) (by simpa using hq) hr
    rw [e, hu] at h2
    show w.cell? ⟨b, off + j, none⟩ = some u
    have e' : off + j = off + (j / 3 * 3 + j % 3) := by omega
    rw [e', h2]
    refine Eq.trans h1 ?_
    have : j % 3 = 0 ∨ j % 3 = 1 ∨ j % 3 = 2 := by omega
    rcases this with h | h | h <;> rw [h] <;> simp [Dp.cs]
end
theorem szDepositS_any (v : Value) (l : List Dp) (n : Int) (w : World) (h : RDp w v l) (h0 : 0 ≤ n) (h1 : n ≤ 1000000000) :
    Calls Tryz.prog 92 #[v, .int .i64 n] w fun e w' => e = .returned (.int .i64 (szF n l.length)) ∧ w = w' := by
  obtain ⟨A, c, rfl, hc, hm, hcell⟩ := h.form
  unfold maxLen at hm
  clear h hcell
  by_cases hlt : n < l.length
  · have hneg : n - (l.length : Int) < 0 := by omega
    have HF : Hid (szF n l.length = -1) := Lib.hid (by unfold szF; rw [if_pos hlt])
    go_enter Tryz.func92, Tryz.ntmps92
    go_wp2
    all_goals go_ret
    all_goals exact ⟨ret_int HF.out.symm, rfl⟩
  · have hneg : ¬ n - (l.length : Int) < 0 := by omega
    have HF : Hid (szF n l.length = n - l.length) := Lib.hid (by unfold szF; rw [if_neg hlt])
    go_enter Tryz.func92, Tryz.ntmps92
    go_wp2
    all_goals go_ret
    all_goals exact ⟨ret_int HF.out.symm, rfl⟩
theorem infoDep : (Tryz.prog.info? 48).map (fun i => (i.zero, i.size, i.bytes)) = some (some (.agg #[.int .i64 0, .int .i64 0, .int .i64 0]), 3, 24) := by kernel_rfl
def fillDp (l : List Dp) (k : Nat) : List Value := (l.take k).flatMap Dp.cs ++ List.replicate ((l.length - k) * 3) (.int .i64 0)
theorem fillDp_all (l : List Dp) : fillDp l l.length = l.flatMap Dp.cs := by simp [fillDp]
theorem fillDp_get (l : List Dp) (k j : Nat) (h : k < l.length) (hj : j < 3) : (fillDp l k)[k * 3 + j]? = some (.int .i64 0) := by
  unfold fillDp
  have hl : ((l.take k).flatMap Dp.cs).length = k * 3 := by rw [flat_len Dp.cs 3 (fun _ => rfl), List.length_take, Nat.min_eq_left (by omega)]
  rw [List.getElem?_append_right (by omega), hl, Nat.add_sub_cancel_left, List.getElem?_replicate, if_pos]
  have : 1 * 3 ≤ (l.length - k) * 3 := Nat.mul_le_mul_right _ (by omega)
  omega
theorem fillDp_succ (l : List Dp) (k : Nat) (h : k < l.length) :
    fillDp l (k + 1) = ((((fillDp l k).set (k * 3) (.int .i64 l[k].k)).set (k * 3 + 1) (.int .i64 l[k].a)).set (k * 3 + 2) (.int .i64 l[k].b)) := by
  unfold fillDp
  have hl : ((l.take k).flatMap Dp.cs).length = k * 3 := by rw [flat_len Dp.cs 3 (fun _ => rfl), List.length_take, Nat.min_eq_left (by omega)]
  have hr : (l.length - k) * 3 = (l.length - (k + 1)) * 3 + 1 + 1 + 1 := by
    have : l.length - k = (l.length - (k + 1)) + 1 := by omega
    rw [this, Nat.add_mul]
  rw [List.take_succ_eq_append_getElem h, List.flatMap_append, hr]
  have e0 : ∀ (x : List Value) (y : List Value) (n j : Nat) (u : Value), x.length = n → (x ++ y).set (n + j) u = x ++ y.set j u := by
    intro x y n j u hx
    rw [List.set_append, if_neg (by omega), hx, Nat.add_sub_cancel_left]
  rw [show k * 3 = k * 3 + 0 from rfl, e0 _ _ _ 0 _ hl, Nat.add_zero, e0 _ _ _ 1 _ hl, e0 _ _ _ 2 _ hl]
  simp [List.replicate_succ, Dp.cs]
theorem made3d (n : Nat) : (madeCells #[.int .i64 0, .int .i64 0, .int .i64 0] n).toList = List.replicate n (.int .i64 0) := by
  apply List.ext_getElem?
  intro j
  by_cases hj : j < n
  · simp only [madeCells, Array.toList_map, List.getElem?_map, Array.toList_range, List.getElem?_range hj, List.getElem?_replicate, if_pos hj, Option.map_some]
    congr 1
    have : j % 3 = 0 ∨ j % 3 = 1 ∨ j % 3 = 2 := by omega
    show #[Value.int .i64 0, .int .i64 0, .int .i64 0][j % 3]! = _
    rcases this with h | h | h <;> rw [h] <;> rfl
  · simp [madeCells, hj]
def OwnDp (base : Nat) (w : World) (v : Value) (l : List Dp) : Prop := w.ownsRow base 48 3 v l.length (l.flatMap Dp.cs)
theorem OwnDp.reads {base : Nat} {w : World} {v : Value} {l : List Dp} (h : OwnDp base w v l) : RDp w v l := own_reads h
def RetDp (l : List Dp) (w : World) (e : Ending) (w' : World) : Prop := ∃ v, e = .returned v ∧ OwnDp w.heap.size w' v l ∧ Below w.heap.size w w'
set_option maxHeartbeats 4000000 in
set_option maxRecDepth 100000 in
theorem toDepositS_any (v : Value) (l : List Dp) (w : World) (h : RDp w v l) (hle : l.length ≤ 1048576) :
    Calls Tryz.prog 95 #[v] w (RetDp l w) := by
  obtain ⟨A, c, rfl, hc, hm, hcell⟩ := h.form
  clear h hm
  obtain ⟨i0, hi, hz0, hz1, hz2⟩ := info_parts infoDep
  go_enter Tryz.func95, Tryz.ntmps95
  go_wp2_with (at_make; refine wpList_make_full _ rfl _ _ 32 rfl w.heap.size 48 i0 (.agg #[.int .i64 0, .int .i64 0, .int .i64 0]) 3 Tryz.underlying32 hi hz0 hz1 .i64 .i64 _ _ l.length rfl rfl rfl rfl (by rw [hz2]; omega) (by unfold maxLen; omega) (Nat.le_refl _) ?_)
  intro w1 hown1 hgr1
  have hb1 : Below w.heap.size w w1 := (Below.refl _ _).grown hgr1 (Nat.le_refl _) (by intro k hk; cases hk)
  have hown : w1.ownsRow w.heap.size 48 3 (.slice (some ⟨w.heap.size, 0, none⟩) l.length l.length) l.length (fillDp l 0) := by
    rw [made3d] at hown1
    simpa [fillDp] using hown1
  have hw1 : w.heap.size ≤ w1.heap.size := hb1.size
  clear hown1 hgr1 hz0 hz1 hz2 hi
  go_wp2
  go_loopw [4] (fun i wr => ∃ k : Nat, k ≤ l.length ∧ i = .int .i64 k ∧ wr.ownsRow w.heap.size 48 3 (.slice (some ⟨w.heap.size, 0, none⟩) l.length l.length) l.length (fillDp l k) ∧ Below w.heap.size w wr) (fun i _ => l.length - (intOf i).toNat)
  case atStart => exact ⟨0, Nat.zero_le _, rfl, hown, hb1⟩
  case round =>
    obtain ⟨k, hk, rfl, ho, hbl⟩ := hrel
    have hsz := hbl.size
    clear hown hb1 hw1
    by_cases hlt : k < l.length
    · obtain ⟨b, off, rfl, hb, hcl⟩ := hcell (by omega)
      obtain ⟨k0, k1, k2⟩ := hcl k hlt
      have q0 := (hbl.cell (p := ⟨b, off + k * 3, none⟩) hb).trans k0
      have q1 := (hbl.cell (p := ⟨b, off + k * 3 + 1, none⟩) hb).trans k1
      have q2 := (hbl.cell (p := ⟨b, off + k * 3 + 2, none⟩) hb).trans k2
      clear k0 k1 k2 hcl hcell
      go_wp2_with fail
      refine (toDep_any _ _ _ _).mono ?_
      rintro e w2 ⟨rfl, hb2⟩
      have ho2 := own_kept ho hb2
      have hsz2 := hb2.size
      have hbl2 : Below w.heap.size w w2 := by exact bel_
      have x0 := ho2.cellAt (k * 3 + 0) (by omega)
      have x1 := ho2.cellAt (k * 3 + 1) (by omega)
      have x2 := ho2.cellAt (k * 3 + 2) (by omega)
      have f0 := ho2.frozenAt (k * 3)
      have f1 := ho2.frozenAt (k * 3 + 1)
      have f2 := ho2.frozenAt (k * 3 + 2)
      rw [fillDp_get l k _ hlt (by omega)] at x0 x1 x2
      rw [Nat.add_zero] at x0
      have s1 := (ho2.stored (k * 3) (.int .i64 l[k].k)).1
      have s2 := (s1.stored (k * 3 + 1) (.int .i64 l[k].a)).1
      have s3 := (s2.stored (k * 3 + 2) (.int .i64 l[k].b)).1
      rw [← fillDp_succ l k hlt] at s3
      have HB := ((hbl2.setCell (p := ⟨w.heap.size, k * 3, none⟩) (Nat.le_refl _) (.int .i64 l[k].k)).setCell (p := ⟨w.heap.size, k * 3 + 1, none⟩) (Nat.le_refl _) (.int .i64 l[k].a)).setCell (p := ⟨w.heap.size, k * 3 + 2, none⟩) (Nat.le_refl _) (.int .i64 l[k].b)
      have HS := Lib.hid s3
      have HBL := Lib.hid HB
      clear s1 s2 s3 HB hbl2 ho2 ho hb2 hbl
      go_wp2
      go_roundw
      case rel => exact ⟨k + 1, by omega, by go_num, HS.out, HBL.out⟩
      case measure => simp [intOf]; omega
    · have hkk : k = l.length := by omega
      subst hkk
      rw [fillDp_all] at ho
      have HO := Lib.hid ho
      have HB := Lib.hid hbl
      clear ho hbl hcell
      go_wp2
      go_ret
      exact ⟨_, rfl, HO.out, HB.out⟩
theorem eqDep_any (a b c a' b' c' : Int) (w : World) :
    Calls Tryz.prog 174 #[.agg #[.int .i64 a, .int .i64 b, .int .i64 c], .agg #[.int .i64 a', .int .i64 b', .int .i64 c']] w
      fun e w' => e = .returned (.bool (a == a' && b == b' && c == c')) ∧ Below w.heap.size w w' := by
  go_enter Tryz.func174, Tryz.ntmps174
  go_wp2
  all_goals go_ret
  all_goals refine ⟨ret_bool ?_, by exact bel_⟩
  all_goals simp_all
theorem Dp.beq_self (r : Dp) : (r.k == r.k && r.a == r.a && r.b == r.b) = true := by simp
set_option maxHeartbeats 2000000 in
set_option maxRecDepth 100000 in
theorem eqDepositS_any (v u : Value) (l : List Dp) (w : World) (hv : RDp w v l) (hu : RDp w u l) :
    Calls Tryz.prog 98 #[v, u] w fun e w' => e = .returned (.bool true) ∧ Below w.heap.size w w' := by
  obtain ⟨A, c, rfl, hc, hm, hcell⟩ := hv.form
  obtain ⟨A', c', rfl, hc', hm', hcell'⟩ := hu.form
  unfold maxLen at hm hm'
  clear hv hu
  go_enter Tryz.func98, Tryz.ntmps98
  go_wp2
  go_loopw [5] (fun i wr => ∃ k : Nat, k ≤ l.length ∧ i = .int .i64 k ∧ Below w.heap.size w wr) (fun i _ => l.length - (intOf i).toNat)
  case atStart => exact ⟨0, Nat.zero_le _, rfl, Below.refl _ _⟩
  case round =>
    obtain ⟨k, hk, rfl, hbl⟩ := hrel
    have hsz := hbl.size
    by_cases hlt : k < l.length
    · obtain ⟨b, off, rfl, hb, hcl⟩ := hcell (by omega)
      obtain ⟨k0, k1, k2⟩ := hcl k hlt
      have q0 := (hbl.cell (p := ⟨b, off + k * 3, none⟩) hb).trans k0
      have q1 := (hbl.cell (p := ⟨b, off + k * 3 + 1, none⟩) hb).trans k1
      have q2 := (hbl.cell (p := ⟨b, off + k * 3 + 2, none⟩) hb).trans k2
      obtain ⟨b', off', rfl, hb', hcl'⟩ := hcell' (by omega)
      obtain ⟨j0, j1, j2⟩ := hcl' k hlt
      have p0 := (hbl.cell (p := ⟨b', off' + k * 3, none⟩) hb').trans j0
      have p1 := (hbl.cell (p := ⟨b', off' + k * 3 + 1, none⟩) hb').trans j1
      have p2 := (hbl.cell (p := ⟨b', off' + k * 3 + 2, none⟩) hb').trans j2
      have hi1 : (0 : Int) ≤ (k : Int) := by omega
      have hi2 : (k : Int) < (l.length : Int) := by omega
      clear k0 k1 k2 hcl hcell j0 j1 j2 hcl' hcell'
      go_wp2
      go_still_tail 8, (by kernel_rfl)
      go_wp2_with fail
      refine (eqDep_any _ _ _ _ _ _ _).mono ?_
      rw [Dp.beq_self]
      rintro e w2 ⟨rfl, hb2⟩
      have hbl2 : Below w.heap.size w w2 := hbl.trans ((show Below wr.heap.size wr w2 from ⟨hb2.os, hb2.tape, hb2.output, hb2.size, hb2.block⟩).mono hsz)
      clear hb2
      go_wp2
      go_roundw
      case rel => exact ⟨k + 1, by omega, by go_num, hbl2⟩
      case measure => simp [intOf]; omega
    · go_wp2
      go_ret
      exact ⟨rfl, hbl⟩
theorem OwnDp.nil (base : Nat) (w : World) : OwnDp base w (.slice none 0 0) [] := World.ownsRow_nil _ _ _ _
end Go.Proofs.YtnjcpljhmhdhkaaGreat

namespace Go.Proofs.YtnjcpljhmhdhkaaGreat
open Go.RowKit
def fillJ (zs : List Int) (k : Nat) : List Int := zs.take k ++ List.replicate (zs.length - k) 0
theorem fillJ_len (zs : List Int) (k : Nat) (h : k ≤ zs.length) : (fillJ zs k).length = zs.length := by simp [fillJ]; omega
theorem fillJ_zero (zs : List Int) : fillJ zs 0 = List.replicate zs.length 0 := by simp [fillJ]
theorem fillJ_all (zs : List Int) : fillJ zs zs.length = zs := by simp [fillJ]
theorem fillJ_succ (zs : List Int) (k : Nat) (h : k < zs.length) : (fillJ zs k).set k (zs.getD k 0) = fillJ zs (k + 1) := by
  unfold fillJ
  have e : (zs.take k).length = k := by simp; omega
  rw [List.set_append, if_neg (by omega), e, Nat.sub_self, show zs.length - k = (zs.length - (k + 1)) + 1 by omega, List.replicate_succ, List.set_cons_zero, List.take_succ_eq_append_getElem h, List.append_assoc]
  simp [List.getD, h]
theorem szIS_any (v : Value) (l : List Int) (n : Int) (w : World) (h : RI w v l) (h0 : 0 ≤ n) (h1 : n ≤ 1000000000) :
    Calls Tryz.prog 91 #[v, .int .i64 n] w fun e w' => e = .returned (.int .i64 (szF n l.length)) ∧ w = w' := by
  obtain ⟨A, c, rfl, hc, hm, hcell⟩ := h.form
  unfold maxLen at hm
  clear h hcell
  by_cases hlt : n < l.length
  · have hneg : n - (l.length : Int) < 0 := by omega
    have HF : Hid (szF n l.length = -1) := Lib.hid (by unfold szF; rw [if_pos hlt])
    go_enter Tryz.func91, Tryz.ntmps91
    go_wp2
    all_goals go_ret
    all_goals exact ⟨ret_int HF.out.symm, rfl⟩
  · have hneg : ¬ n - (l.length : Int) < 0 := by omega
    have HF : Hid (szF n l.length = n - l.length) := Lib.hid (by unfold szF; rw [if_neg hlt])
    go_enter Tryz.func91, Tryz.ntmps91
    go_wp2
    all_goals go_ret
    all_goals exact ⟨ret_int HF.out.symm, rfl⟩
set_option maxHeartbeats 4000000 in
set_option maxRecDepth 100000 in
theorem toIS_any (v : Value) (zs : List Int) (w : World) (h : RI w v zs) (hle : zs.length ≤ 1048576) :
    Calls Tryz.prog 56 #[v] w (RetI zs w) := by
  obtain ⟨A, c, rfl, hc, hm, hcell⟩ := h.form
  unfold maxLen at hm
  clear h
  obtain ⟨i0, hi, iz0, iz1, iz2⟩ := info_parts infoInt
  go_enter Tryz.func56, Tryz.ntmps56
  go_wp2_with (at_make; refine wpList_make_full _ rfl _ _ 31 rfl w.heap.size 3 i0 (.int .i64 0) 1 Tryz.underlying31 hi iz0 iz1 .i64 .i64 _ _ zs.length rfl rfl rfl rfl (by rw [iz2]; omega) (by unfold maxLen; omega) (by omega) ?_)
  intro w1 hown1 hgr1
  have hb1 : Below w.heap.size w w1 := (Below.refl _ _).grown hgr1 (Nat.le_refl _) (by intro k hk; cases hk)
  have hown : OwnI w.heap.size w1 (.slice (some ⟨w.heap.size, 0, none⟩) zs.length zs.length) (fillJ zs 0) := by
    have e : ∀ n : Nat, (madeCells #[.int .i64 0] n).toList = (List.replicate n (0 : Int)).map vI := by
      intro n
      apply List.ext_getElem?
      intro j
      by_cases hj : j < n
      · simp only [madeCells, Array.toList_map, List.getElem?_map, Array.toList_range, List.getElem?_range hj, List.getElem?_replicate, if_pos hj, Option.map_some]
        congr 1
        show #[Value.int .i64 0][j % 1]! = _
        rw [Nat.mod_one]; rfl
      · simp [madeCells, hj]
    unfold OwnI
    rw [fillJ_zero, List.length_replicate, ← e]
    exact hown1
  have hw1 : w.heap.size ≤ w1.heap.size := hb1.size
  clear hown1 hgr1 iz0 iz1 iz2 hi
  go_wp2
  go_loopw [4] (fun i wr => ∃ k : Nat, k ≤ zs.length ∧ i = .int .i64 k ∧ OwnI w.heap.size wr (.slice (some ⟨w.heap.size, 0, none⟩) zs.length zs.length) (fillJ zs k) ∧ Below w.heap.size w wr) (fun i _ => zs.length - (intOf i).toNat)
  case atStart => exact ⟨0, Nat.zero_le _, rfl, hown, hb1⟩
  case round =>
    obtain ⟨k, hk, rfl, ho, hbl⟩ := hrel
    clear hown hb1 hw1
    have hfl := fillJ_len zs k hk
    by_cases hlt : k < zs.length
    · obtain ⟨b, off, rfl, hb, hcl⟩ := hcell (by omega)
      have hx := (hbl.cell (p := ⟨b, off + k, none⟩) hb).trans (hcl k hlt)
      have hlt1 : (k : Int) < (zs.length : Int) := by omega
      have ik1 : (0 : Int) ≤ (k : Int) := by omega
      have xp := ho.cell (q := k) (by omega)
      obtain ⟨z, hz⟩ : ∃ z, wr.cell? ⟨w.heap.size, k, none⟩ = some z := ⟨_, xp⟩
      have fp := ho.frz k
      have HO : Hid (OwnI w.heap.size (wr.setCell ⟨w.heap.size, k, none⟩ (.int .i64 (zs.getD k 0))) (.slice (some ⟨w.heap.size, 0, none⟩) zs.length zs.length) (fillJ zs (k + 1))) := Lib.hid (by
        rw [← fillJ_succ zs k hlt]; exact ho.set_ k _)
      have HB := Lib.hid (hbl.setCell (p := ⟨w.heap.size, k, none⟩) (Nat.le_refl _) (.int .i64 (zs.getD k 0)))
      generalize zs.getD k 0 = y at *
      clear ho hbl hcl hcell xp
      go_wp2
      go_roundw
      case rel => exact ⟨k + 1, by omega, by go_num, HO.out, HB.out⟩
      case measure => simp [intOf]; omega
    · have hkk : k = zs.length := by omega
      subst hkk
      rw [fillJ_all] at ho
      clear hcell
      go_wp2
      go_ret
      exact ⟨_, rfl, ho, hbl⟩
end Go.Proofs.YtnjcpljhmhdhkaaGreat
