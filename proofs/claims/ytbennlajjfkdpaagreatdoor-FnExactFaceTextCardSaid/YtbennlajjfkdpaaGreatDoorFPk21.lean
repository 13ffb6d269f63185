/- part 21 -/
import Derived.Test.YtbennlajjfkdpaaGreatDoorFPk20
import Derived.ChangeSlices
import Derived.Deep.Slices
import Derived.Deep.Fields
import Derived.ChangeSame
import Derived.Lib.SmallJoins
set_option linter.unusedSimpArgs false
set_option linter.unusedVariables false
namespace Go.Proofs.YtbennlajjfkdpaaGreatDoor
open Go.RowKit
theorem dec_len (x : Nat) (h : x < 100) : (Lib.decDigits x).length ≤ 2 := by
  rw [Lib.decDigits]
  split
  · simp
  · rw [Lib.decDigits, dif_pos (by omega)]
    simp
def dS (x : Int) : ByteArray := ⟨(Lib.decDigits x.toNat).toArray⟩
theorem dS_size (x : Int) (h : x < 100) : (dS x).size ≤ 2 := by
  have := dec_len x.toNat (by omega)
  simpa [dS, ByteArray.size] using this
theorem iFmtI_any (x : Int) (h0 : 0 ≤ x) (h1 : x < 100) (w : World) :
    Calls Tryz.prog 25 #[.int .i64 x] w fun e w' => e = .returned (.string (dS x)) ∧ Below w.heap.size w w' := by
  obtain ⟨n, rfl⟩ : ∃ n : Nat, x = (n : Int) := ⟨x.toNat, by omega⟩
  exact (iFmt_any n (by omega) w).mono fun e w' ⟨he, hw⟩ => ⟨he, hw ▸ Below.refl _ _⟩
theorem sFmtI_any (x : Int) (h0 : 0 ≤ x) (h1 : x < 100) (w : World) :
    Calls Tryz.prog 21 #[.int .i64 x] w fun e w' => e = .returned (.string (dS x)) ∧ Below w.heap.size w w' := by
  obtain ⟨n, rfl⟩ : ∃ n : Nat, x = (n : Int) := ⟨x.toNat, by omega⟩
  exact sFmt_any n (by omega) w
end Go.Proofs.YtbennlajjfkdpaaGreatDoor

namespace Go.Proofs.YtbennlajjfkdpaaGreatDoor
def seenB (F : List (List Nat)) (d : Nat) : Bool := F.any (·.contains d)
def facesK (ns ls : List Pr) : Nat → List (List Nat)
  | 0 => []
  | m + 1 => if seenB (facesK ns ls m) m then facesK ns ls m else facesK ns ls m ++ [walkD ns ls m]
theorem facesK_yes {ns ls : List Pr} {m : Nat} (h : seenB (facesK ns ls m) m = true) : facesK ns ls (m + 1) = facesK ns ls m := by simp [facesK, h]
theorem facesK_no {ns ls : List Pr} {m : Nat} (h : seenB (facesK ns ls m) m = false) : facesK ns ls (m + 1) = facesK ns ls m ++ [walkD ns ls m] := by simp [facesK, h]
def facesD (ns ls : List Pr) : List (List Nat) := facesK ns ls (2 * ls.length)
theorem facesK_len (ns ls : List Pr) : ∀ m, (facesK ns ls m).length ≤ m
  | 0 => by simp [facesK]
  | m + 1 => by
    have := facesK_len ns ls m
    cases h : seenB (facesK ns ls m) m
    · rw [facesK_no h]; simp; omega
    · rw [facesK_yes h]; omega
theorem walk_bd {ns ls : List Pr} (hld : ∀ j : Nat, j < ls.length → leadB ns (ndI ls j) = true) {d : Nat} (hd : d < 2 * ls.length) : ∀ e ∈ walkD ns ls d, e < 2 * ls.length := by
  intro e he
  unfold walkD walkK at he
  rw [List.mem_map] at he
  obtain ⟨i, _, rfl⟩ := he
  exact orb_lt hld hd i
theorem walk_len {ns ls : List Pr} (hld : ∀ j : Nat, j < ls.length → leadB ns (ndI ls j) = true) {d : Nat} (hd : d < 2 * ls.length) : 0 < (walkD ns ls d).length ∧ (walkD ns ls d).length ≤ 2 * ls.length := by
  unfold walkD
  rw [walkK_length]
  have := per_spec hld hd
  exact ⟨this.1, this.2.1⟩
theorem facesK_bd {ns ls : List Pr} (hld : ∀ j : Nat, j < ls.length → leadB ns (ndI ls j) = true) : ∀ m, m ≤ 2 * ls.length → ∀ f ∈ facesK ns ls m, (∀ e ∈ f, e < 2 * ls.length) ∧ 0 < f.length ∧ f.length ≤ 2 * ls.length
  | 0, _, f, hf => by simp [facesK] at hf
  | m + 1, hm, f, hf => by
    cases h : seenB (facesK ns ls m) m
    · rw [facesK_no h, List.mem_append, List.mem_singleton] at hf
      rcases hf with hf | rfl
      · exact facesK_bd hld m (by omega) f hf
      · exact ⟨walk_bd hld (by omega), walk_len hld (by omega)⟩
    · rw [facesK_yes h] at hf; exact facesK_bd hld m (by omega) f hf
end Go.Proofs.YtbennlajjfkdpaaGreatDoor

namespace Go.Proofs.YtbennlajjfkdpaaGreatDoor
open Go.RowKit
attribute [local go_sem ↓] run_eqNode run_eqLead run_neNode run_neLead
theorem szW_le {a b : Nat} (h : ¬ szW 1048576 a b < 0) : a ≤ 1048576 ∧ b ≤ 1048576 ∧ 0 ≤ szW 1048576 a b ∧ szW 1048576 a b ≤ 1048576 := by
  unfold szW at *
  split at h
  · omega
  · split at h
    · omega
    · rename_i h1 h2; rw [if_neg h1, if_neg h2]; omega
theorem szWindow_at (vn vl : Value) (ns ls : List (Int × Int)) (n x : Int) (w : World) (hn : RP w vn ns) (hl : RP w vl ls) (h0 : 0 ≤ n) (h1 : n ≤ 1000000000) (hx : Hid (szW n ns.length ls.length = x)) :
    Calls Tryz.prog 5 #[.agg #[vn, vl], .int .i64 n] w fun e w' => e = .returned (.int .i64 x) ∧ Below w.heap.size w w' :=
  (szWindow_any vn vl ns ls n w hn hl h0 h1).mono fun e w' ⟨he, hw⟩ => ⟨he.trans (ret_int hx.out), hw⟩
end Go.Proofs.YtbennlajjfkdpaaGreatDoor

namespace Go.Proofs.YtbennlajjfkdpaaGreatDoor
open Go.ChangeShapes Go.WideShapes Go.Deep Go.RowKit Go.Joins
section
variable {H : Type} {enc : TypeId × Value → H} {P : Program} {w : World} {base : Nat} {spare : Nat → Bool} {held : Bool}
theorem openSliceFields {t e : TypeId} {fs : Array Field} {fuel : Nat} {cs : List Value} {x : DataW H × List MemPlace} (ht : P.underlying t = some (.slice e)) (he : P.underlying e = some (.struct fs))
    (hone : oneCellFields P fs = true) (hC : P.cellsOf e = fs.size) (h : DataW.trod enc P w base spare held fuel t cs = some x) :
    (cs = [.slice none 0 0] ∧ x = (.nil, [])) ∨
    ∃ (a : Addr) (len cap m : Nat) (D : Nat → DataW H) (Pl : Nat → List MemPlace), cs = [.slice (some a) len cap] ∧ base ≤ a.block ∧ len ≤ cap ∧ cap ≤ maxLen ∧ m = (if spare a.block then cap else len) ∧
      x = (.slice ((List.range len).map D) ((List.range (m - len)).map fun j => D (len + j)), MemPlace.row a (m * fs.size) ++ (List.range m).flatMap Pl) ∧
      ∀ i, i < m → ∃ (ys : List (DataW H × List MemPlace)) (n : Nat), D i = .agg (ys.map (·.1)) ∧ Pl i = ys.flatMap (·.2) ∧ ys.length = fs.size ∧
        ∀ (j : Nat) (f : Field), fs[j]? = some f → ∃ (v : Value) (y : DataW H × List MemPlace), w.cell? (a.add (i * fs.size + j)) = some v ∧ ys[j]? = some y ∧ DataW.trod enc P w base spare held n f.type [v] = some y := by
  rcases open_slice ht h with h0 | ⟨a, len, cap, m, n, D, Pl, hcs, hb, hl, hm, hmm, hx, hi⟩
  · exact .inl h0
  · refine .inr ⟨a, len, cap, m, D, Pl, hcs, hb, hl, hm, hmm, by rw [hC] at hx; exact hx, fun i him => ?_⟩
    obtain ⟨cs', hc, ht'⟩ := hi i him
    rw [hC] at hc
    obtain ⟨ys, n', hn', hy, hlen, hyl, hf⟩ := DataW.trod_struct he ht'
    obtain ⟨_, hcl, hat⟩ := World.cells?_some hc
    simp only [Prod.mk.injEq] at hy
    refine ⟨ys, n', hy.1, hy.2, hyl, fun j f hj => ?_⟩
    obtain ⟨ho, hk⟩ := hone_of hone j f hj
    have hjl : j < fs.size := (Array.getElem?_eq_some_iff.1 hj).1
    have hcell := hat j hjl
    have hv : cs'[j]? = some (cs'[j]'(by omega)) := List.getElem?_eq_getElem (by omega)
    have h1 := hf j f hj
    rw [ho, hk] at h1
    have hone' : (cs'.drop j).take 1 = [cs'[j]'(by omega)] := by
      rw [List.drop_eq_getElem_cons (by omega)]
      rfl
    rw [hone'] at h1
    have hys : ys[j]? = some (ys[j]'(by omega)) := List.getElem?_eq_getElem (by omega)
    refine ⟨_, _, ?_, hys, h1.trans hys⟩
    rw [← Go.Deep.add_add, hcell, hv]
theorem open_pairs {t e : TypeId} {f0 f1 : Field} {fuel : Nat} {v : Value} {x : DataW H × List MemPlace} (ht : P.underlying t = some (.slice e)) (he : P.underlying e = some (.struct #[f0, f1]))
    (hone : oneCellFields P #[f0, f1] = true) (hC : P.cellsOf e = 2) (h0 : P.underlying f0.type = some (.int .i64)) (h1 : P.underlying f1.type = some (.int .i64))
    (h : DataW.trod enc P w base spare held fuel t [v] = some x) : ∃ l : List (Int × Int), RP w v l := by
  rcases openSliceFields ht he hone hC h with ⟨hcs, _⟩ | ⟨a, len, cap, m, D, Pl, hcs, hb, hl, hm, hmm, hx, hi⟩
  · simp only [List.cons.injEq, and_true] at hcs
    subst hcs
    exact ⟨[], RP.nil w⟩
  · simp only [List.cons.injEq, and_true] at hcs
    subst hcs
    have hlm : len ≤ m := by rw [hmm]; split <;> omega
    have key : ∀ i, i < len → ∃ x y : Int, w.cell? (a.add (i * 2)) = some (.int .i64 x) ∧ w.cell? (a.add (i * 2 + 1)) = some (.int .i64 y) := by
      intro i hil
      obtain ⟨ys, n, _, _, _, hf⟩ := hi i (by omega)
      obtain ⟨v0, y0, c0, _, t0⟩ := hf 0 f0 rfl
      obtain ⟨v1, y1, c1, _, t1⟩ := hf 1 f1 rfl
      obtain ⟨q0, e0, _, _⟩ := DataW.trod_int h0 t0
      obtain ⟨q1, e1, _, _⟩ := DataW.trod_int h1 t1
      simp at e0 e1
      subst e0 e1
      exact ⟨q0, q1, by simpa using c0, by simpa using c1⟩
    let F : Nat → Int × Int := fun i => (intOf ((w.cell? (a.add (i * 2))).getD undef), intOf ((w.cell? (a.add (i * 2 + 1))).getD undef))
    refine ⟨(List.range len).map F, ?_, some a, cap, by simp, by simpa using hl, by simp; omega, fun hpos => ?_⟩
    · rw [flat_len prc 2 (fun _ => rfl)]
    · have hpos' : 0 < len := by simpa using hpos
      obtain ⟨x0, y0, hx0, _⟩ := key 0 hpos'
      have hsp : a.spot = none := by
        cases hs : a.spot with
        | none => rfl
        | some s =>
          have e0 : a.add (0 * 2) = a := by simp [Addr.add]
          rw [e0] at hx0
          unfold World.cell? at hx0
          split at hx0
          · rw [hs] at hx0; simp at hx0
          · cases hx0
      obtain ⟨b, off, sp⟩ := a
      simp at hsp
      subst hsp
      have hadd : ∀ k, (⟨b, off, none⟩ : Addr).add k = ⟨b, off + k, none⟩ := by
        intro k
        unfold Addr.add
        split <;> simp_all
      refine ⟨b, off, rfl, ?_, fun j u hu => ?_⟩
      · have := World.block_lt_of_cell? w _ hx0
        rw [hadd] at this
        exact this
      · have hj : j < len * 2 := by
          have := (List.getElem?_eq_some_iff.1 hu).1
          rw [flat_len prc 2 (fun _ => rfl)] at this
          simpa using this
        obtain ⟨x, y, hcx, hcy⟩ := key (j / 2) (by omega)
        have h2 := flat_get prc 2 (fun _ => rfl) ((List.range len).map F) (j / 2) (j % 2) (by simp; omega) (by omega)
        rw [show j / 2 * 2 + j % 2 = j by omega, hu] at h2
        rw [hadd] at hcx hcy
        have hF : F (j / 2) = (x, y) := by
          show (intOf ((w.cell? ((⟨b, off, none⟩ : Addr).add (j / 2 * 2))).getD undef), intOf ((w.cell? ((⟨b, off, none⟩ : Addr).add (j / 2 * 2 + 1))).getD undef)) = _
          rw [hadd, hadd, hcx, hcy]; rfl
        have : j % 2 = 0 ∨ j % 2 = 1 := by omega
        rcases this with h | h
        · rw [h] at h2
          simp only [List.getElem_map, List.getElem_range, hF, prc, List.getElem?_cons_zero] at h2
          rw [h2, show off + j = off + j / 2 * 2 by omega]
          exact hcx
        · rw [h] at h2
          simp only [List.getElem_map, List.getElem_range, hF, prc, List.getElem?_cons_succ, List.getElem?_cons_zero] at h2
          rw [h2, show off + j = off + (j / 2 * 2 + 1) by omega]
          exact hcy
end
section
variable {H : Type} {enc : TypeId × Value → H} {w : World} {base : Nat} {spare : Nat → Bool} {held : Bool}
set_option maxRecDepth 100000 in
theorem open_window {v : Value} {d : DataW H} {p : List MemPlace} (hval : Value.okWide Tryz.prog w .any base 25 v) (h : DataW.Trod enc Tryz.prog w 0 spare held 25 v d p) :
    ∃ vn vl ns ls, v = .agg #[vn, vl] ∧ RP w vn ns ∧ RP w vl ls := by
  obtain ⟨c0, c1, y0, y1, m0, rfl, rfl, rfl, hy0, hy1⟩ := open_agg2 Tryz.underlying25 (by kernel_rfl) (by kernel_rfl) hval h
  obtain ⟨ns, hns⟩ := open_pairs Tryz.underlying22 Tryz.underlying74 (by kernel_rfl) (by kernel_rfl) Tryz.underlying3 Tryz.underlying3 hy0
  obtain ⟨ls, hls⟩ := open_pairs Tryz.underlying23 Tryz.underlying76 (by kernel_rfl) (by kernel_rfl) Tryz.underlying3 Tryz.underlying3 hy1
  exact ⟨c0, c1, ns, ls, rfl, hns, hls⟩
end
end Go.Proofs.YtbennlajjfkdpaaGreatDoor
