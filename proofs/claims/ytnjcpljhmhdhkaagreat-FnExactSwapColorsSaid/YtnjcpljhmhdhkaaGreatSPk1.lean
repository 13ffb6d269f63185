/- part 1 -/
import Derived.Test.YtnjcpljhmhdhkaaGreatSPk0
import Derived.StillTailTactics
set_option linter.unusedSimpArgs false
set_option linter.unusedVariables false
namespace Go.Proofs.YtnjcpljhmhdhkaaGreat
open Go.RowKit
def prc (p : Int × Int) : List Value := [.int .i64 p.1, .int .i64 p.2]
def RP (w : World) (v : Value) (l : List (Int × Int)) : Prop := RS w 2 v l.length (l.flatMap prc)
theorem RP.below {w w' : World} {v : Value} {l : List (Int × Int)} (h : RP w v l) (hb : Below w.heap.size w w') : RP w' v l := RS.below h hb
theorem RP.nil (w : World) : RP w (.slice none 0 0) [] := RS.nil w 2
theorem RP.form {w : World} {v : Value} {l : List (Int × Int)} (h : RP w v l) : ∃ A c, v = .slice A l.length c ∧ l.length ≤ c ∧ l.length ≤ maxLen ∧
    (0 < l.length → ∃ b off, A = some ⟨b, off, none⟩ ∧ b < w.heap.size ∧ ∀ k (hk : k < l.length), w.cell? ⟨b, off + k * 2, none⟩ = some (.int .i64 l[k].1) ∧ w.cell? ⟨b, off + k * 2 + 1, none⟩ = some (.int .i64 l[k].2)) := by
  obtain ⟨_, A, c, hv, h1, h2, h3⟩ := h
  refine ⟨A, c, hv, h1, h2, fun hn => ?_⟩
  obtain ⟨b, off, hA, hlt, hc⟩ := h3 hn
  refine ⟨b, off, hA, hlt, fun k hk => ?_⟩
  have g := fun j hj => flat_get prc 2 (fun _ => rfl) l k j hk hj
  refine ⟨?_, ?_⟩
  · exact hc (k * 2 + 0) _ (by rw [g 0 (by omega)]; rfl)
  · have := hc (k * 2 + 1) _ (by rw [g 1 (by omega)]; rfl); rwa [← Nat.add_assoc] at this
theorem RP_lit {w : World} {l : List (Int × Int)} {cs : Array Value} {t : TypeId} {g n c : Nat} (hg : g = w.heap.size) (hcs : cs.toList = l.flatMap prc) (hn : n = l.length) (hc : c = l.length) (hm : l.length ≤ maxLen) :
    RP (w.alloc (.cells cs t)) (.slice (some ⟨g, 0, none⟩) n c) l := by
  subst hg hn hc
  refine ⟨flat_len prc 2 (fun _ => rfl) l, _, _, rfl, by omega, hm, fun hn => ⟨w.heap.size, 0, rfl, by simp, fun j u hu => ?_⟩⟩
  rw [← hcs] at hu
  have hu' : cs[j]? = some u := by simpa using hu
  rw [Nat.zero_add, cell_of_row _ _ _ cs t (0, 0) (heap_alloc_new w _)]
  exact hu'
def OwnP (t : TypeId) (base : Nat) (w : World) (v : Value) (l : List (Int × Int)) : Prop := w.ownsRow base t 2 v l.length (l.flatMap prc)
def RetP (t : TypeId) (l : List (Int × Int)) (w : World) (e : Ending) (w' : World) : Prop := ∃ A c, e = .returned (.slice A l.length c) ∧ OwnP t w.heap.size w' (.slice A l.length c) l ∧ Below w.heap.size w w'
theorem OwnP.form {t : TypeId} {base : Nat} {w : World} {v : Value} {l : List (Int × Int)} (h : OwnP t base w v l) : ∃ A c, v = .slice A l.length c := by
  rcases h.2 with ⟨rfl, hn⟩ | ⟨g, cap, cur, rfl, _⟩
  · exact ⟨none, 0, by rw [hn]⟩
  · exact ⟨_, _, rfl⟩
theorem RetP.mk {t : TypeId} {l : List (Int × Int)} {w w' : World} {v : Value} (h : OwnP t w.heap.size w' v l) (hb : Below w.heap.size w w') : RetP t l w (.returned v) w' := by
  obtain ⟨A, c, rfl⟩ := h.form
  exact ⟨A, c, rfl, h, hb⟩
section
variable {t : TypeId} {base : Nat} {w w' : World} {v : Value} {l : List (Int × Int)}
theorem OwnP.nil (t : TypeId) (base : Nat) (w : World) : OwnP t base w (.slice none 0 0) [] := World.ownsRow_nil _ _ _ _
theorem OwnP.reads (h : OwnP t base w v l) : RP w v l := own_reads h
theorem OwnP.kept (h : OwnP t base w v l) (hb : Below w.heap.size w w') : OwnP t base w' v l := own_kept h hb
theorem OwnP.alloc (h : OwnP t base w v l) (o : Obj) : OwnP t base (w.alloc o) v l := World.ownsRow.alloc h o
theorem OwnP.drew (h : OwnP t base w v l) : OwnP t base w.drew v l := h
theorem OwnP.lt (h : OwnP t base w v l) : ∀ k, v.ownBlock = some k → base ≤ k ∧ k < w.heap.size := World.ownsRow.lt h
theorem OwnP.mono {base' : Nat} (h : OwnP t base w v l) (hb : base' ≤ base) : OwnP t base' w v l := by
  obtain ⟨h1, h2⟩ := h
  refine ⟨h1, ?_⟩
  rcases h2 with h2 | ⟨g, cap, cur, e1, e2, e3⟩
  · exact .inl h2
  · exact .inr ⟨g, cap, cur, e1, Nat.le_trans hb e2, e3⟩
theorem OwnP.far {row : Option Nat} (h : OwnP t base w v l) (hg : w.grownBy w' row) (hr : ∀ k, row = some k → k < base) : OwnP t base w' v l := by
  refine World.ownsRow.kept h hg ?_
  cases hv : v.ownBlock with
  | none => exact .inl rfl
  | some k =>
    right
    rintro rfl
    have := hr k rfl
    have := (OwnP.lt h k hv).1
    omega
end
theorem OwnP.apart {t : TypeId} {base : Nat} {w w' : World} {v : Value} {l : List (Int × Int)} {row : Option Nat} (h : OwnP t base w v l) (hg : w.grownBy w' row) (hr : ∀ k, v.ownBlock = some k → row = some k → False) : OwnP t base w' v l := by
  refine World.ownsRow.kept h hg ?_
  cases hv : v.ownBlock with
  | none => exact .inl rfl
  | some k => exact .inr (fun e => hr k hv e.symm)
theorem set_grown (w : World) (p : Addr) (u : Value) : w.grownBy (w.setCell p u) (some p.block) :=
  ⟨rfl, rfl, rfl, by simp [World.setCell], fun i hi hne => Below.heap_setCell w p u i (fun e => hne (by rw [e]))⟩
theorem OwnP.setLow {t : TypeId} {base : Nat} {w : World} {v : Value} {l : List (Int × Int)} (h : OwnP t base w v l) {p : Addr} (hp : p.block < base) (u : Value) : OwnP t base (w.setCell p u) v l :=
  h.far (set_grown w p u) (fun k hk => by cases hk; exact hp)
theorem OwnP.len {t : TypeId} {base : Nat} {w : World} {g n cap : Nat} {G : List (Int × Int)} (h : OwnP t base w (.slice (some ⟨g, 0, none⟩) n cap) G) : n = G.length := by
  have ho : w.ownsRow base t 2 (.slice (some ⟨g, 0, none⟩) n cap) G.length (G.flatMap prc) := h
  rcases ho.2 with ⟨e, _⟩ | ⟨g', cap', cur, e, _⟩
  · cases e
  · injection e
theorem flat_set : ∀ (l : List (Int × Int)) (k : Nat) (x : Int × Int), k < l.length → (l.set k x).flatMap prc = ((l.flatMap prc).set (k * 2) (.int .i64 x.1)).set (k * 2 + 1) (.int .i64 x.2)
  | [], k, x, h => absurd h (by simp)
  | a :: l, 0, x, h => by simp [prc]
  | a :: l, k + 1, x, h => by
    have ih := flat_set l k x (by simpa using h)
    have e : (k + 1) * 2 = k * 2 + 1 + 1 := by omega
    rw [List.set_cons_succ, List.flatMap_cons, ih, List.flatMap_cons, e]
    simp [prc]
theorem OwnP.cell {t : TypeId} {base : Nat} {w : World} {g n cap : Nat} {G : List (Int × Int)} (h : OwnP t base w (.slice (some ⟨g, 0, none⟩) n cap) G) {q : Nat} (hq : q < G.length) :
    w.cell? ⟨g, q * 2, none⟩ = some (.int .i64 G[q].1) ∧ w.cell? ⟨g, q * 2 + 1, none⟩ = some (.int .i64 G[q].2) := by
  have e := h.len
  subst e
  have ho : w.ownsRow base t 2 (.slice (some ⟨g, 0, none⟩) G.length cap) G.length (G.flatMap prc) := h
  have g' := fun j hj => flat_get prc 2 (fun _ => rfl) G q j hq hj
  refine ⟨?_, ?_⟩
  · rw [ho.cellAt _ (by omega)]; have := g' 0 (by omega); rw [Nat.add_zero] at this; rw [this]; rfl
  · rw [ho.cellAt _ (by omega), g' 1 (by omega)]; rfl
theorem OwnP.frz {t : TypeId} {base : Nat} {w : World} {g n cap : Nat} {G : List (Int × Int)} (h : OwnP t base w (.slice (some ⟨g, 0, none⟩) n cap) G) (q : Nat) : w.frozen? ⟨g, q, none⟩ = false := by
  have e := h.len
  subst e
  have ho : w.ownsRow base t 2 (.slice (some ⟨g, 0, none⟩) G.length cap) G.length (G.flatMap prc) := h
  exact ho.frozenAt q
theorem OwnP.set_ {t : TypeId} {base : Nat} {w : World} {g n cap : Nat} {G : List (Int × Int)} (h : OwnP t base w (.slice (some ⟨g, 0, none⟩) n cap) G) {q : Nat} (hq : q < G.length) (x y : Int) :
    OwnP t base ((w.setCell ⟨g, q * 2, none⟩ (.int .i64 x)).setCell ⟨g, q * 2 + 1, none⟩ (.int .i64 y)) (.slice (some ⟨g, 0, none⟩) n cap) (G.set q (x, y)) := by
  have e := h.len
  subst e
  have ho : w.ownsRow base t 2 (.slice (some ⟨g, 0, none⟩) G.length cap) G.length (G.flatMap prc) := h
  have := ((ho.stored (q * 2) (.int .i64 x)).1.stored (q * 2 + 1) (.int .i64 y)).1
  unfold OwnP
  rw [List.length_set, flat_set G q (x, y) hq]
  exact this
def fillP (l : List (Int × Int)) (k : Nat) : List (Int × Int) := l.take k ++ List.replicate (l.length - k) (0, 0)
theorem fillP_length (l : List (Int × Int)) (k : Nat) (h : k ≤ l.length) : (fillP l k).length = l.length := by simp [fillP]; omega
theorem fillP_zero (l : List (Int × Int)) : fillP l 0 = List.replicate l.length (0, 0) := by simp [fillP]
theorem fillP_all (l : List (Int × Int)) : fillP l l.length = l := by simp [fillP]
theorem fillP_succ (l : List (Int × Int)) (k : Nat) (h : k < l.length) : fillP l (k + 1) = (fillP l k).set k l[k] := by
  unfold fillP
  have e : l.length - k = (l.length - (k + 1)) + 1 := by omega
  rw [List.take_succ_eq_append_getElem h, List.set_append, if_neg (by simp; omega), e, List.replicate_succ]
  have hl : (List.take k l).length = k := by simp; omega
  rw [hl, Nat.sub_self, List.set_cons_zero, List.append_assoc, List.cons_append, List.nil_append]
theorem made2 (n : Nat) : (madeCells #[.int .i64 0, .int .i64 0] (n * 2)).toList = (List.replicate n ((0 : Int), (0 : Int))).flatMap prc := by
  apply List.ext_getElem?
  intro j
  by_cases hj : j < n * 2
  · have h1 := flat_get prc 2 (fun _ => rfl) (List.replicate n ((0 : Int), (0 : Int))) (j / 2) (j % 2) (by simp; omega) (by omega)
    rw [show j / 2 * 2 + j % 2 = j by omega] at h1
    rw [h1]
    simp only [madeCells, Array.toList_map, List.getElem?_map, Array.toList_range, List.getElem?_range hj, Option.map_some]
    show some (#[Value.int .i64 0, .int .i64 0][j % 2]!) = _
    have : j % 2 = 0 ∨ j % 2 = 1 := by omega
    rcases this with h | h <;> rw [h] <;> simp [prc]
  · rw [List.getElem?_eq_none (by simp [madeCells]; omega), List.getElem?_eq_none (by rw [flat_len prc 2 (fun _ => rfl)]; simp; omega)]
end Go.Proofs.YtnjcpljhmhdhkaaGreat

namespace Go.Proofs.YtnjcpljhmhdhkaaGreat
open Go.RowKit
def prB (a b c d : Int) : Bool := a == c && b == d
theorem prB_iff {a b c d : Int} : prB a b c d = true ↔ (a, b) = (c, d) := by simp [prB]
theorem prB_self (a b : Int) : prB a b a b = true := by simp [prB]
theorem run_eqNode (a b c d : Int) (w : World) : (binOp .eql 106 (.agg #[.int .i64 a, .int .i64 b]) (.agg #[.int .i64 c, .int .i64 d])).run Tryz.prog w = .ok (.bool (prB a b c d)) w := by
  go_simp
  unfold prB
  by_cases h1 : a = c <;> by_cases h2 : b = d <;> simp [h1, h2]
theorem run_eqLead (a b c d : Int) (w : World) : (binOp .eql 108 (.agg #[.int .i64 a, .int .i64 b]) (.agg #[.int .i64 c, .int .i64 d])).run Tryz.prog w = .ok (.bool (prB a b c d)) w := by
  go_simp
  unfold prB
  by_cases h1 : a = c <;> by_cases h2 : b = d <;> simp [h1, h2]
theorem run_neNode (a b c d : Int) (w : World) : (binOp .neq 106 (.agg #[.int .i64 a, .int .i64 b]) (.agg #[.int .i64 c, .int .i64 d])).run Tryz.prog w = .ok (.bool (!(prB a b c d))) w := by
  go_simp
  unfold prB
  by_cases h1 : a = c <;> by_cases h2 : b = d <;> simp [h1, h2]
theorem run_neLead (a b c d : Int) (w : World) : (binOp .neq 108 (.agg #[.int .i64 a, .int .i64 b]) (.agg #[.int .i64 c, .int .i64 d])).run Tryz.prog w = .ok (.bool (!(prB a b c d))) w := by
  go_simp
  unfold prB
  by_cases h1 : a = c <;> by_cases h2 : b = d <;> simp [h1, h2]
set_option maxHeartbeats 1000000 in
theorem szNodeS_any (v : Value) (l : List (Int × Int)) (n : Int) (w : World) (h : RP w v l) (h0 : 0 ≤ n) (h1 : n ≤ 1000000000) :
    Calls Tryz.prog 220 #[v, .int .i64 n] w fun e w' => e = .returned (.int .i64 (szF n l.length)) ∧ w = w' := by
  obtain ⟨A, c, rfl, hc, hm, hcell⟩ := h.form
  unfold maxLen at hm
  clear h hcell
  by_cases hlt : n < l.length
  · have hneg : n - (l.length : Int) < 0 := by omega
    have HF : Hid (szF n l.length = -1) := Lib.hid (by unfold szF; rw [if_pos hlt])
    go_enter Tryz.func220, Tryz.ntmps220
    go_wp2
    all_goals go_ret
    all_goals exact ⟨ret_int HF.out.symm, rfl⟩
  · have hneg : ¬ n - (l.length : Int) < 0 := by omega
    have HF : Hid (szF n l.length = n - l.length) := Lib.hid (by unfold szF; rw [if_neg hlt])
    go_enter Tryz.func220, Tryz.ntmps220
    go_wp2
    all_goals go_ret
    all_goals exact ⟨ret_int HF.out.symm, rfl⟩
set_option maxHeartbeats 1000000 in
theorem szLeadS_any (v : Value) (l : List (Int × Int)) (n : Int) (w : World) (h : RP w v l) (h0 : 0 ≤ n) (h1 : n ≤ 1000000000) :
    Calls Tryz.prog 221 #[v, .int .i64 n] w fun e w' => e = .returned (.int .i64 (szF n l.length)) ∧ w = w' := by
  obtain ⟨A, c, rfl, hc, hm, hcell⟩ := h.form
  unfold maxLen at hm
  clear h hcell
  by_cases hlt : n < l.length
  · have hneg : n - (l.length : Int) < 0 := by omega
    have HF : Hid (szF n l.length = -1) := Lib.hid (by unfold szF; rw [if_pos hlt])
    go_enter Tryz.func221, Tryz.ntmps221
    go_wp2
    all_goals go_ret
    all_goals exact ⟨ret_int HF.out.symm, rfl⟩
  · have hneg : ¬ n - (l.length : Int) < 0 := by omega
    have HF : Hid (szF n l.length = n - l.length) := Lib.hid (by unfold szF; rw [if_neg hlt])
    go_enter Tryz.func221, Tryz.ntmps221
    go_wp2
    all_goals go_ret
    all_goals exact ⟨ret_int HF.out.symm, rfl⟩
set_option maxHeartbeats 400000 in
theorem toNode_any (a b : Int) (w : World) :
    Calls Tryz.prog 252 #[.agg #[.int .i64 a, .int .i64 b]] w fun e w' => e = .returned (.agg #[.int .i64 a, .int .i64 b]) ∧ Below w.heap.size w w' := by
  go_enter Tryz.func252, Tryz.ntmps252
  go_wp2
  exact bodyPost_ret (v := .agg #[.int .i64 a, .int .i64 b]) (by simp [results, Tryz.results252, go_sem]) rfl ⟨rfl, by exact bel_⟩
set_option maxHeartbeats 400000 in
theorem toLead_any (a b : Int) (w : World) :
    Calls Tryz.prog 253 #[.agg #[.int .i64 a, .int .i64 b]] w fun e w' => e = .returned (.agg #[.int .i64 a, .int .i64 b]) ∧ Below w.heap.size w w' := by
  go_enter Tryz.func253, Tryz.ntmps253
  go_wp2
  exact bodyPost_ret (v := .agg #[.int .i64 a, .int .i64 b]) (by simp [results, Tryz.results253, go_sem]) rfl ⟨rfl, by exact bel_⟩
theorem infoNode : (Tryz.prog.info? 106).map (fun i => (i.zero, i.size, i.bytes)) = some (some (.agg #[.int .i64 0, .int .i64 0]), 2, 16) := by kernel_rfl
theorem infoLead : (Tryz.prog.info? 108).map (fun i => (i.zero, i.size, i.bytes)) = some (some (.agg #[.int .i64 0, .int .i64 0]), 2, 16) := by kernel_rfl
set_option maxHeartbeats 4000000 in
set_option maxRecDepth 100000 in
theorem toNodeS_any (v : Value) (l : List (Int × Int)) (w : World) (h : RP w v l) (hle : l.length ≤ 1048576) :
    Calls Tryz.prog 224 #[v] w (RetP 106 l w) := by
  obtain ⟨A, c, rfl, hc, hm, hcell⟩ := h.form
  clear h hm
  obtain ⟨i0, hi, iz0, iz1, iz2⟩ := info_parts infoNode
  go_enter Tryz.func224, Tryz.ntmps224
  go_wp2_with (at_make; refine wpList_make_full _ rfl _ _ 24 rfl w.heap.size 106 i0 (.agg #[.int .i64 0, .int .i64 0]) 2 Tryz.underlying24 hi iz0 iz1 .i64 .i64 _ _ l.length rfl rfl rfl rfl (by rw [iz2]; omega) (by unfold maxLen; omega) (Nat.le_refl _) ?_)
  intro w1 hown1 hgr1
  have hb1 : Below w.heap.size w w1 := (Below.refl _ _).grown hgr1 (Nat.le_refl _) (by intro k hk; cases hk)
  have hown : OwnP 106 w.heap.size w1 (.slice (some ⟨w.heap.size, 0, none⟩) l.length l.length) (fillP l 0) := by
    unfold OwnP
    rw [made2] at hown1
    rw [fillP_zero, List.length_replicate]
    exact hown1
  have hw1 : w.heap.size ≤ w1.heap.size := hb1.size
  clear hown1 hgr1 iz0 iz1 iz2 hi
  go_wp2
  go_loopw [4] (fun i wr => ∃ k : Nat, k ≤ l.length ∧ i = .int .i64 k ∧ OwnP 106 w.heap.size wr (.slice (some ⟨w.heap.size, 0, none⟩) l.length l.length) (fillP l k) ∧ Below w.heap.size w wr) (fun i _ => l.length - (intOf i).toNat)
  case atStart => exact ⟨0, Nat.zero_le _, rfl, hown, hb1⟩
  case round =>
    obtain ⟨k, hk, rfl, ho, hbl⟩ := hrel
    have hsz := hbl.size
    clear hown hb1 hw1
    by_cases hlt : k < l.length
    · obtain ⟨b, off, rfl, hb, hcl⟩ := hcell (by omega)
      obtain ⟨k0, k1⟩ := hcl k hlt
      have q0 := (hbl.cell (p := ⟨b, off + k * 2, none⟩) hb).trans k0
      have q1 := (hbl.cell (p := ⟨b, off + k * 2 + 1, none⟩) hb).trans k1
      clear k0 k1 hcl hcell
      go_wp2_with fail
      refine (toNode_any _ _ _).mono ?_
      rintro e w2 ⟨rfl, hb2⟩
      have ho2 := ho.kept hb2
      have hsz2 := hb2.size
      have hbl2 : Below w.heap.size w w2 := by exact bel_
      have hfl := fillP_length l k (by omega)
      have xx := ho2.cell (q := k) (by omega)
      obtain ⟨z0, x0⟩ : ∃ z, w2.cell? ⟨w.heap.size, k * 2, none⟩ = some z := ⟨_, xx.1⟩
      obtain ⟨z1, x1⟩ : ∃ z, w2.cell? ⟨w.heap.size, k * 2 + 1, none⟩ = some z := ⟨_, xx.2⟩
      have f0 := ho2.frz (k * 2)
      have f1 := ho2.frz (k * 2 + 1)
      have s4 := ho2.set_ (q := k) (by omega) l[k].1 l[k].2
      have s5 : OwnP 106 w.heap.size ((w2.setCell ⟨w.heap.size, k * 2, none⟩ (.int .i64 l[k].1)).setCell ⟨w.heap.size, k * 2 + 1, none⟩ (.int .i64 l[k].2)) (.slice (some ⟨w.heap.size, 0, none⟩) l.length l.length) (fillP l (k + 1)) := by
        rw [fillP_succ l k hlt]; exact s4
      have HB := (hbl2.setCell (p := ⟨w.heap.size, k * 2, none⟩) (Nat.le_refl _) (.int .i64 l[k].1)).setCell (p := ⟨w.heap.size, k * 2 + 1, none⟩) (Nat.le_refl _) (.int .i64 l[k].2)
      have HS := Lib.hid s5
      have HBL := Lib.hid HB
      clear xx s4 s5 HB hbl2 ho2 ho hb2 hbl hfl
      go_wp2
      go_roundw
      case rel => exact ⟨k + 1, by omega, by go_num, HS.out, HBL.out⟩
      case measure => simp [intOf]; omega
    · have hkk : k = l.length := by omega
      subst hkk
      rw [fillP_all] at ho
      have HO := Lib.hid ho
      have HB := Lib.hid hbl
      clear ho hbl hcell
      go_wp2
      go_ret
      exact RetP.mk HO.out HB.out
set_option maxHeartbeats 4000000 in
set_option maxRecDepth 100000 in
theorem toLeadS_any (v : Value) (l : List (Int × Int)) (w : World) (h : RP w v l) (hle : l.length ≤ 1048576) :
    Calls Tryz.prog 225 #[v] w (RetP 108 l w) := by
  obtain ⟨A, c, rfl, hc, hm, hcell⟩ := h.form
  clear h hm
  obtain ⟨i0, hi, iz0, iz1, iz2⟩ := info_parts infoLead
  go_enter Tryz.func225, Tryz.ntmps225
  go_wp2_with (at_make; refine wpList_make_full _ rfl _ _ 25 rfl w.heap.size 108 i0 (.agg #[.int .i64 0, .int .i64 0]) 2 Tryz.underlying25 hi iz0 iz1 .i64 .i64 _ _ l.length rfl rfl rfl rfl (by rw [iz2]; omega) (by unfold maxLen; omega) (Nat.le_refl _) ?_)
  intro w1 hown1 hgr1
  have hb1 : Below w.heap.size w w1 := (Below.refl _ _).grown hgr1 (Nat.le_refl _) (by intro k hk; cases hk)
  have hown : OwnP 108 w.heap.size w1 (.slice (some ⟨w.heap.size, 0, none⟩) l.length l.length) (fillP l 0) := by
    unfold OwnP
    rw [made2] at hown1
    rw [fillP_zero, List.length_replicate]
    exact hown1
  have hw1 : w.heap.size ≤ w1.heap.size := hb1.size
  clear hown1 hgr1 iz0 iz1 iz2 hi
  go_wp2
  go_loopw [4] (fun i wr => ∃ k : Nat, k ≤ l.length ∧ i = .int .i64 k ∧ OwnP 108 w.heap.size wr (.slice (some ⟨w.heap.size, 0, none⟩) l.length l.length) (fillP l k) ∧ Below w.heap.size w wr) (fun i _ => l.length - (intOf i).toNat)
  case atStart => exact ⟨0, Nat.zero_le _, rfl, hown, hb1⟩
  case round =>
    obtain ⟨k, hk, rfl, ho, hbl⟩ := hrel
    have hsz := hbl.size
    clear hown hb1 hw1
    by_cases hlt : k < l.length
    · obtain ⟨b, off, rfl, hb, hcl⟩ := hcell (by omega)
      obtain ⟨k0, k1⟩ := hcl k hlt
      have q0 := (hbl.cell (p := ⟨b, off + k * 2, none⟩) hb).trans k0
      have q1 := (hbl.cell (p := ⟨b, off + k * 2 + 1, none⟩) hb).trans k1
      clear k0 k1 hcl hcell
      go_wp2_with fail
      refine (toLead_any _ _ _).mono ?_
      rintro e w2 ⟨rfl, hb2⟩
      have ho2 := ho.kept hb2
      have hsz2 := hb2.size
      have hbl2 : Below w.heap.size w w2 := by exact bel_
      have hfl := fillP_length l k (by omega)
      have xx := ho2.cell (q := k) (by omega)
      obtain ⟨z0, x0⟩ : ∃ z, w2.cell? ⟨w.heap.size, k * 2, none⟩ = some z := ⟨_, xx.1⟩
      obtain ⟨z1, x1⟩ : ∃ z, w2.cell? ⟨w.heap.size, k * 2 + 1, none⟩ = some z := ⟨_, xx.2⟩
      have f0 := ho2.frz (k * 2)
      have f1 := ho2.frz (k * 2 + 1)
      have s4 := ho2.set_ (q := k) (by omega) l[k].1 l[k].2
      have s5 : OwnP 108 w.heap.size ((w2.setCell ⟨w.heap.size, k * 2, none⟩ (.int .i64 l[k].1)).setCell ⟨w.heap.size, k * 2 + 1, none⟩ (.int .i64 l[k].2)) (.slice (some ⟨w.heap.size, 0, none⟩) l.length l.length) (fillP l (k + 1)) := by
        rw [fillP_succ l k hlt]; exact s4
      have HB := (hbl2.setCell (p := ⟨w.heap.size, k * 2, none⟩) (Nat.le_refl _) (.int .i64 l[k].1)).setCell (p := ⟨w.heap.size, k * 2 + 1, none⟩) (Nat.le_refl _) (.int .i64 l[k].2)
      have HS := Lib.hid s5
      have HBL := Lib.hid HB
      clear xx s4 s5 HB hbl2 ho2 ho hb2 hbl hfl
      go_wp2
      go_roundw
      case rel => exact ⟨k + 1, by omega, by go_num, HS.out, HBL.out⟩
      case measure => simp [intOf]; omega
    · have hkk : k = l.length := by omega
      subst hkk
      rw [fillP_all] at ho
      have HO := Lib.hid ho
      have HB := Lib.hid hbl
      clear ho hbl hcell
      go_wp2
      go_ret
      exact RetP.mk HO.out HB.out
set_option maxHeartbeats 1000000 in
theorem eqNode_any (a b a' b' : Int) (w : World) :
    Calls Tryz.prog 255 #[.agg #[.int .i64 a, .int .i64 b], .agg #[.int .i64 a', .int .i64 b']] w
      fun e w' => e = .returned (.bool (a == a' && b == b')) ∧ Below w.heap.size w w' := by
  go_enter Tryz.func255, Tryz.ntmps255
  go_wp2
  all_goals go_ret
  all_goals refine ⟨ret_bool ?_, by exact bel_⟩
  all_goals simp_all
set_option maxHeartbeats 1000000 in
theorem eqLead_any (a b a' b' : Int) (w : World) :
    Calls Tryz.prog 256 #[.agg #[.int .i64 a, .int .i64 b], .agg #[.int .i64 a', .int .i64 b']] w
      fun e w' => e = .returned (.bool (a == a' && b == b')) ∧ Below w.heap.size w w' := by
  go_enter Tryz.func256, Tryz.ntmps256
  go_wp2
  all_goals go_ret
  all_goals refine ⟨ret_bool ?_, by exact bel_⟩
  all_goals simp_all
theorem eqNode_same (a b : Int) (w : World) :
    Calls Tryz.prog 255 #[.agg #[.int .i64 a, .int .i64 b], .agg #[.int .i64 a, .int .i64 b]] w fun e w' => e = .returned (.bool true) ∧ Below w.heap.size w w' :=
  (eqNode_any a b a b w).mono fun e w' ⟨he, hw⟩ => ⟨he.trans (by simp), hw⟩
theorem eqLead_same (a b : Int) (w : World) :
    Calls Tryz.prog 256 #[.agg #[.int .i64 a, .int .i64 b], .agg #[.int .i64 a, .int .i64 b]] w fun e w' => e = .returned (.bool true) ∧ Below w.heap.size w w' :=
  (eqLead_any a b a b w).mono fun e w' ⟨he, hw⟩ => ⟨he.trans (by simp), hw⟩
set_option maxHeartbeats 2000000 in
set_option maxRecDepth 100000 in
theorem eqNodeS_any (v u : Value) (l : List (Int × Int)) (w : World) (hv : RP w v l) (hu : RP w u l) :
    Calls Tryz.prog 228 #[v, u] w fun e w' => e = .returned (.bool true) ∧ Below w.heap.size w w' := by
  obtain ⟨A, c, rfl, hc, hm, hcell⟩ := hv.form
  obtain ⟨A', c', rfl, hc', hm', hcell'⟩ := hu.form
  unfold maxLen at hm hm'
  clear hv hu
  go_enter Tryz.func228, Tryz.ntmps228
  go_wp2
  go_loopw [5] (fun i wr => ∃ k : Nat, k ≤ l.length ∧ i = .int .i64 k ∧ Below w.heap.size w wr) (fun i _ => l.length - (intOf i).toNat)
  case atStart => exact ⟨0, Nat.zero_le _, rfl, Below.refl _ _⟩
  case round =>
    obtain ⟨k, hk, rfl, hbl⟩ := hrel
    have hsz := hbl.size
    by_cases hlt : k < l.length
    · obtain ⟨b, off, rfl, hb, hcl⟩ := hcell (by omega)
      obtain ⟨k0, k1⟩ := hcl k hlt
      have q0 := (hbl.cell (p := ⟨b, off + k * 2, none⟩) hb).trans k0
      have q1 := (hbl.cell (p := ⟨b, off + k * 2 + 1, none⟩) hb).trans k1
      obtain ⟨b', off', rfl, hb', hcl'⟩ := hcell' (by omega)
      obtain ⟨j0, j1⟩ := hcl' k hlt
      have p0 := (hbl.cell (p := ⟨b', off' + k * 2, none⟩) hb').trans j0
      have p1 := (hbl.cell (p := ⟨b', off' + k * 2 + 1, none⟩) hb').trans j1
      have hi1 : (0 : Int) ≤ (k : Int) := by omega
      have hi2 : (k : Int) < (l.length : Int) := by omega
      clear k0 k1 hcl hcell j0 j1 hcl' hcell'
      go_wp2
      go_still_tail 8, (by kernel_rfl)
      go_wp2_with fail
      refine (eqNode_same _ _ _).mono ?_
      rintro e w2 ⟨rfl, hb2⟩
      have hbl2 : Below w.heap.size w w2 := hbl.trans ((show Below wr.heap.size wr w2 from ⟨hb2.os, hb2.tape, hb2.output, hb2.size, hb2.block⟩).mono hsz)
      clear hb2
      go_wp2
      go_roundw
      case rel => exact ⟨k + 1, by omega, by go_num, hbl2⟩
      case measure => simp [intOf]; omega
    · go_wp2
      go_ret
      exact ⟨rfl, hbl⟩
set_option maxHeartbeats 2000000 in
set_option maxRecDepth 100000 in
theorem eqLeadS_any (v u : Value) (l : List (Int × Int)) (w : World) (hv : RP w v l) (hu : RP w u l) :
    Calls Tryz.prog 229 #[v, u] w fun e w' => e = .returned (.bool true) ∧ Below w.heap.size w w' := by
  obtain ⟨A, c, rfl, hc, hm, hcell⟩ := hv.form
  obtain ⟨A', c', rfl, hc', hm', hcell'⟩ := hu.form
  unfold maxLen at hm hm'
  clear hv hu
  go_enter Tryz.func229, Tryz.ntmps229
  go_wp2
  go_loopw [5] (fun i wr => ∃ k : Nat, k ≤ l.length ∧ i = .int .i64 k ∧ Below w.heap.size w wr) (fun i _ => l.length - (intOf i).toNat)
  case atStart => exact ⟨0, Nat.zero_le _, rfl, Below.refl _ _⟩
  case round =>
    obtain ⟨k, hk, rfl, hbl⟩ := hrel
    have hsz := hbl.size
    by_cases hlt : k < l.length
    · obtain ⟨b, off, rfl, hb, hcl⟩ := hcell (by omega)
      obtain ⟨k0, k1⟩ := hcl k hlt
      have q0 := (hbl.cell (p := ⟨b, off + k * 2, none⟩) hb).trans k0
      have q1 := (hbl.cell (p := ⟨b, off + k * 2 + 1, none⟩) hb).trans k1
      obtain ⟨b', off', rfl, hb', hcl'⟩ := hcell' (by omega)
      obtain ⟨j0, j1⟩ := hcl' k hlt
      have p0 := (hbl.cell (p := ⟨b', off' + k * 2, none⟩) hb').trans j0
      have p1 := (hbl.cell (p := ⟨b', off' + k * 2 + 1, none⟩) hb').trans j1
      have hi1 : (0 : Int) ≤ (k : Int) := by omega
      have hi2 : (k : Int) < (l.length : Int) := by omega
      clear k0 k1 hcl hcell j0 j1 hcl' hcell'
      go_wp2
      go_still_tail 8, (by kernel_rfl)
      go_wp2_with fail
      refine (eqLead_same _ _ _).mono ?_
      rintro e w2 ⟨rfl, hb2⟩
      have hbl2 : Below w.heap.size w w2 := hbl.trans ((show Below wr.heap.size wr w2 from ⟨hb2.os, hb2.tape, hb2.output, hb2.size, hb2.block⟩).mono hsz)
      clear hb2
      go_wp2
      go_roundw
      case rel => exact ⟨k + 1, by omega, by go_num, hbl2⟩
      case measure => simp [intOf]; omega
    · go_wp2
      go_ret
      exact ⟨rfl, hbl⟩
end Go.Proofs.YtnjcpljhmhdhkaaGreat
