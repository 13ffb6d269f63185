/-
  Windows: sizes, conversion, comparison.
-/
import Derived.Test.YtognjdappchpkaaGreatPrL
set_option linter.unusedSimpArgs false
set_option linter.unusedVariables false
namespace Go.Proofs.YtognjdappchpkaaGreat
open Go.RowKit

/-- The two lists of a window lie in blocks of their own, apart from each other. -/
def OwnW (base : Nat) (w : World) (vn vl : Value) (ns ls : List (Int × Int)) : Prop :=
  OwnP 78 base w vn ns ∧ OwnP 80 base w vl ls ∧ ∀ k, vn.ownBlock = some k → vl.ownBlock = some k → False

theorem OwnW.kept {base : Nat} {w w' : World} {vn vl : Value} {ns ls : List (Int × Int)} (h : OwnW base w vn vl ns ls) (hb : Below w.heap.size w w') : OwnW base w' vn vl ns ls := ⟨h.1.kept hb, h.2.1.kept hb, h.2.2⟩
theorem OwnW.mono {base base' : Nat} {w : World} {vn vl : Value} {ns ls : List (Int × Int)} (h : OwnW base w vn vl ns ls) (hb : base' ≤ base) : OwnW base' w vn vl ns ls := ⟨h.1.mono hb, h.2.1.mono hb, h.2.2⟩

/-- A call returns a window in new memory. -/
def RetW (ns ls : List (Int × Int)) (w : World) (e : Ending) (w' : World) : Prop := ∃ An cn Al cl, e = .returned (.agg #[.slice An ns.length cn, .slice Al ls.length cl]) ∧ OwnW w.heap.size w' (.slice An ns.length cn) (.slice Al ls.length cl) ns ls ∧ Below w.heap.size w w'

/-- What szWindow leaves of a bound. -/
def szW (n : Int) (a b : Nat) : Int := if n < a then -1 else if n - a < b then -1 else n - a - b

theorem Below.to {w w' : World} {B : Nat} (h : Below B w w') : w.heap.size ≤ w'.heap.size := h.size

theorem szNodeS_at (v : Value) (l : List (Int × Int)) (n x : Int) (w : World) (h : RP w v l) (h0 : 0 ≤ n) (h1 : n ≤ 1000000000) (hx : Hid (szF n l.length = x)) :
    Calls Tryz.prog 29 #[v, .int .i64 n] w fun e w' => e = .returned (.int .i64 x) ∧ w = w' :=
  (szNodeS_any v l n w h h0 h1).mono fun e w' ⟨he, hw⟩ => ⟨he.trans (ret_int hx.out), hw⟩

theorem szLeadS_at (v : Value) (l : List (Int × Int)) (n x : Int) (w : World) (h : RP w v l) (h0 : 0 ≤ n) (h1 : n ≤ 1000000000) (hx : Hid (szF n l.length = x)) :
    Calls Tryz.prog 30 #[v, .int .i64 n] w fun e w' => e = .returned (.int .i64 x) ∧ w = w' :=
  (szLeadS_any v l n w h h0 h1).mono fun e w' ⟨he, hw⟩ => ⟨he.trans (ret_int hx.out), hw⟩

set_option maxHeartbeats 2000000 in
set_option maxRecDepth 100000 in
theorem szWindow_any (vn vl : Value) (ns ls : List (Int × Int)) (n : Int) (w : World) (hn : RP w vn ns) (hl : RP w vl ls) (h0 : 0 ≤ n) (h1 : n ≤ 1000000000) :
    Calls Tryz.prog 6 #[.agg #[vn, vl], .int .i64 n] w fun e w' => e = .returned (.int .i64 (szW n ns.length ls.length)) ∧ Below w.heap.size w w' := by
  by_cases ha : n < ns.length
  · have HF : Hid (szF n ns.length = -1) := Lib.hid (by unfold szF; rw [if_pos ha])
    have HW : Hid (szW n ns.length ls.length = -1) := Lib.hid (by unfold szW; rw [if_pos ha])
    clear ha
    go_enter Tryz.func6, Tryz.ntmps6
    go_wp2_with fail
    refine (szNodeS_at _ ns n (-1) _ (hn.below (by (repeat (first | exact Below.refl _ _ | assumption | refine Below.drew ?_ | refine below_drewN ?_ _ | refine Below.alloc ?_ (by first | omega | (simp; done) | (simp; omega)) _ | refine Below.setCell ?_ (by first | omega | (simp; done) | (simp; omega)) _ | refine Below.step (by assumption) ?_ (by first | omega | (simp; done) | (simp; omega)) | refine Below.mark (by assumption) (by assumption) ?_ (by first | omega | (simp; done) | (simp; omega)) (by first | omega | (simp; done) | (simp; omega)))))) h0 h1 HF).mono ?_
    rintro e w' ⟨rfl, rfl⟩
    go_wp2
    go_ret
    exact ⟨ret_int HW.out.symm, by (repeat (first | exact Below.refl _ _ | assumption | refine Below.drew ?_ | refine below_drewN ?_ _ | refine Below.alloc ?_ (by first | omega | (simp; done) | (simp; omega)) _ | refine Below.setCell ?_ (by first | omega | (simp; done) | (simp; omega)) _ | refine Below.step (by assumption) ?_ (by first | omega | (simp; done) | (simp; omega)) | refine Below.mark (by assumption) (by assumption) ?_ (by first | omega | (simp; done) | (simp; omega)) (by first | omega | (simp; done) | (simp; omega))))⟩
  · have HF : Hid (szF n ns.length = n - ns.length) := Lib.hid (by unfold szF; rw [if_neg ha])
    by_cases hb : n - ns.length < ls.length
    · have HG : Hid (szF (n - ns.length) ls.length = -1) := Lib.hid (by unfold szF; rw [if_pos hb])
      have HW : Hid (szW n ns.length ls.length = -1) := Lib.hid (by unfold szW; rw [if_neg ha, if_pos hb])
      have hge : 0 ≤ n - ns.length := by omega
      have hge2 : ¬ n - ns.length < 0 := by omega
      clear hb
      go_enter Tryz.func6, Tryz.ntmps6
      go_wp2_with fail
      refine (szNodeS_at _ ns n (n - ns.length) _ (hn.below (by (repeat (first | exact Below.refl _ _ | assumption | refine Below.drew ?_ | refine below_drewN ?_ _ | refine Below.alloc ?_ (by first | omega | (simp; done) | (simp; omega)) _ | refine Below.setCell ?_ (by first | omega | (simp; done) | (simp; omega)) _ | refine Below.step (by assumption) ?_ (by first | omega | (simp; done) | (simp; omega)) | refine Below.mark (by assumption) (by assumption) ?_ (by first | omega | (simp; done) | (simp; omega)) (by first | omega | (simp; done) | (simp; omega)))))) h0 h1 HF).mono ?_
      rintro e w' ⟨rfl, rfl⟩
      go_wp2_with fail
      refine (szLeadS_at _ ls (n - ns.length) (-1) _ (hl.below (by (repeat (first | exact Below.refl _ _ | assumption | refine Below.drew ?_ | refine below_drewN ?_ _ | refine Below.alloc ?_ (by first | omega | (simp; done) | (simp; omega)) _ | refine Below.setCell ?_ (by first | omega | (simp; done) | (simp; omega)) _ | refine Below.step (by assumption) ?_ (by first | omega | (simp; done) | (simp; omega)) | refine Below.mark (by assumption) (by assumption) ?_ (by first | omega | (simp; done) | (simp; omega)) (by first | omega | (simp; done) | (simp; omega)))))) hge (by omega) HG).mono ?_
      rintro e w' ⟨rfl, rfl⟩
      go_wp2
      go_ret
      exact ⟨ret_int HW.out.symm, by (repeat (first | exact Below.refl _ _ | assumption | refine Below.drew ?_ | refine below_drewN ?_ _ | refine Below.alloc ?_ (by first | omega | (simp; done) | (simp; omega)) _ | refine Below.setCell ?_ (by first | omega | (simp; done) | (simp; omega)) _ | refine Below.step (by assumption) ?_ (by first | omega | (simp; done) | (simp; omega)) | refine Below.mark (by assumption) (by assumption) ?_ (by first | omega | (simp; done) | (simp; omega)) (by first | omega | (simp; done) | (simp; omega))))⟩
    · have HG : Hid (szF (n - ns.length) ls.length = n - ns.length - ls.length) := Lib.hid (by unfold szF; rw [if_neg hb])
      have HW : Hid (szW n ns.length ls.length = n - ns.length - ls.length) := Lib.hid (by unfold szW; rw [if_neg ha, if_neg hb])
      have hge : 0 ≤ n - ns.length := by omega
      have hge2 : ¬ n - ns.length < 0 := by omega
      have hge3 : ¬ n - ns.length - ls.length < 0 := by omega
      clear hb
      go_enter Tryz.func6, Tryz.ntmps6
      go_wp2_with fail
      refine (szNodeS_at _ ns n (n - ns.length) _ (hn.below (by (repeat (first | exact Below.refl _ _ | assumption | refine Below.drew ?_ | refine below_drewN ?_ _ | refine Below.alloc ?_ (by first | omega | (simp; done) | (simp; omega)) _ | refine Below.setCell ?_ (by first | omega | (simp; done) | (simp; omega)) _ | refine Below.step (by assumption) ?_ (by first | omega | (simp; done) | (simp; omega)) | refine Below.mark (by assumption) (by assumption) ?_ (by first | omega | (simp; done) | (simp; omega)) (by first | omega | (simp; done) | (simp; omega)))))) h0 h1 HF).mono ?_
      rintro e w' ⟨rfl, rfl⟩
      go_wp2_with fail
      refine (szLeadS_at _ ls (n - ns.length) _ _ (hl.below (by (repeat (first | exact Below.refl _ _ | assumption | refine Below.drew ?_ | refine below_drewN ?_ _ | refine Below.alloc ?_ (by first | omega | (simp; done) | (simp; omega)) _ | refine Below.setCell ?_ (by first | omega | (simp; done) | (simp; omega)) _ | refine Below.step (by assumption) ?_ (by first | omega | (simp; done) | (simp; omega)) | refine Below.mark (by assumption) (by assumption) ?_ (by first | omega | (simp; done) | (simp; omega)) (by first | omega | (simp; done) | (simp; omega)))))) hge (by omega) HG).mono ?_
      rintro e w' ⟨rfl, rfl⟩
      go_wp2
      go_ret
      exact ⟨ret_int HW.out.symm, by (repeat (first | exact Below.refl _ _ | assumption | refine Below.drew ?_ | refine below_drewN ?_ _ | refine Below.alloc ?_ (by first | omega | (simp; done) | (simp; omega)) _ | refine Below.setCell ?_ (by first | omega | (simp; done) | (simp; omega)) _ | refine Below.step (by assumption) ?_ (by first | omega | (simp; done) | (simp; omega)) | refine Below.mark (by assumption) (by assumption) ?_ (by first | omega | (simp; done) | (simp; omega)) (by first | omega | (simp; done) | (simp; omega))))⟩

set_option maxHeartbeats 2000000 in
set_option maxRecDepth 100000 in
theorem toWindow_any (vn vl : Value) (ns ls : List (Int × Int)) (w : World) (hn : RP w vn ns) (hl : RP w vl ls) (h1 : ns.length ≤ 1048576) (h2 : ls.length ≤ 1048576) :
    Calls Tryz.prog 8 #[.agg #[vn, vl]] w (RetW ns ls w) := by
  go_enter Tryz.func8, Tryz.ntmps8
  go_wp2_with fail
  refine (toNodeS_any _ ns _ (hn.below (by (repeat (first | exact Below.refl _ _ | assumption | refine Below.drew ?_ | refine below_drewN ?_ _ | refine Below.alloc ?_ (by first | omega | (simp; done) | (simp; omega)) _ | refine Below.setCell ?_ (by first | omega | (simp; done) | (simp; omega)) _ | refine Below.step (by assumption) ?_ (by first | omega | (simp; done) | (simp; omega)) | refine Below.mark (by assumption) (by assumption) ?_ (by first | omega | (simp; done) | (simp; omega)) (by first | omega | (simp; done) | (simp; omega)))))) h1).mono ?_
  rintro e w1 ⟨A1, c1, rfl, ho1, hb1⟩; (first | (with_reducible have hcf1 := bcell_drew hb1) | have hcf1 := bcell hb1); obtain ⟨hc1, hf1⟩ := hcf1; have hz1 := hb1.size; (try simp at hz1); (try have hp1_0 : w.heap.size < w1.heap.size := by omega); (try have hp1_1 : w.heap.size + 1 < w1.heap.size := by omega); (try have hp1_2 : w.heap.size + 1 + 1 < w1.heap.size := by omega); (try have hp1_3 : w.heap.size + 1 + 1 + 1 < w1.heap.size := by omega)
  have hbw1 : Below w.heap.size w w1 := by (repeat (first | exact Below.refl _ _ | assumption | refine Below.drew ?_ | refine below_drewN ?_ _ | refine Below.alloc ?_ (by first | omega | (simp; done) | (simp; omega)) _ | refine Below.setCell ?_ (by first | omega | (simp; done) | (simp; omega)) _ | refine Below.step (by assumption) ?_ (by first | omega | (simp; done) | (simp; omega)) | refine Below.mark (by assumption) (by assumption) ?_ (by first | omega | (simp; done) | (simp; omega)) (by first | omega | (simp; done) | (simp; omega))))
  have o1 : OwnP 78 (w.heap.size + 1 + 1 + 1) w1 (.slice A1 ns.length c1) ns := by simpa using ho1
  have hlt1 := o1.lt
  go_wp2_with fail
  refine (toLeadS_any _ ls _ (hl.below (by (repeat (first | exact Below.refl _ _ | assumption | refine Below.drew ?_ | refine below_drewN ?_ _ | refine Below.alloc ?_ (by first | omega | (simp; done) | (simp; omega)) _ | refine Below.setCell ?_ (by first | omega | (simp; done) | (simp; omega)) _ | refine Below.step (by assumption) ?_ (by first | omega | (simp; done) | (simp; omega)) | refine Below.mark (by assumption) (by assumption) ?_ (by first | omega | (simp; done) | (simp; omega)) (by first | omega | (simp; done) | (simp; omega)))))) h2).mono ?_
  rintro e w2 ⟨A2, c2, rfl, ho2, hb2⟩; (first | (with_reducible have hcf2 := bcell_drew hb2) | have hcf2 := bcell hb2); obtain ⟨hc2, hf2⟩ := hcf2; have hz2 := hb2.size; (try simp at hz2); (try have hp2_0 : w.heap.size < w2.heap.size := by omega); (try have hp2_1 : w.heap.size + 1 < w2.heap.size := by omega); (try have hp2_2 : w.heap.size + 1 + 1 < w2.heap.size := by omega); (try have hp2_3 : w.heap.size + 1 + 1 + 1 < w2.heap.size := by omega)
  have o2 : OwnP 80 w1.heap.size w2 (.slice A2 ls.length c2) ls := by simpa using ho2
  have o1' := Lib.hid ((((((o1.setLow (p := ⟨w.heap.size + 1 + 1, 0, none⟩) (by simp) (.slice A1 ns.length c1)).kept hb2).setLow (p := ⟨w.heap.size + 1 + 1, 1, none⟩) (by simp) (.slice A2 ls.length c2)).setLow (p := ⟨w.heap.size + 1, 0, none⟩) (by first | omega | (simp; done) | (simp; omega)) (.slice A1 ns.length c1)).setLow (p := ⟨w.heap.size + 1, 1, none⟩) (by first | omega | (simp; done) | (simp; omega)) (.slice A2 ls.length c2)).mono (show w.heap.size ≤ _ by omega))
  have o2' := Lib.hid ((((o2.setLow (p := ⟨w.heap.size + 1 + 1, 1, none⟩) (by first | omega | (simp; done) | (simp; omega)) (.slice A2 ls.length c2)).setLow (p := ⟨w.heap.size + 1, 0, none⟩) (by first | omega | (simp; done) | (simp; omega)) (.slice A1 ns.length c1)).setLow (p := ⟨w.heap.size + 1, 1, none⟩) (by first | omega | (simp; done) | (simp; omega)) (.slice A2 ls.length c2)).mono (show w.heap.size ≤ _ by omega))
  have hap : Hid (∀ k, (Value.slice A1 ns.length c1).ownBlock = some k → (Value.slice A2 ls.length c2).ownBlock = some k → False) := Lib.hid (fun k h1 h2 => by
    have := (hlt1 k h1).2
    have := (o2.lt k h2).1
    omega)
  clear ho1 ho2 o1 o2 hlt1
  go_wp2
  exact bodyPost_ret (v := .agg #[.slice A1 ns.length c1, .slice A2 ls.length c2]) (by simp [results, Tryz.results8, go_sem, hp1_0, hp1_1, hp1_2, hp2_0, hp2_1, hp2_2, hc2, hc1]) rfl ⟨_, _, _, _, rfl, ⟨o1'.out, o2'.out, hap.out⟩, by (repeat' (first | (with_reducible exact Below.refl _ _) | (with_reducible assumption) | (with_reducible refine Below.drew ?_) | (with_reducible refine below_drewN ?_ _) | (with_reducible refine Below.alloc ?_ ?_ _) | (with_reducible refine Below.setCell ?_ ?_ _) | (with_reducible refine Below.step (by assumption) ?_ ?_))); all_goals (first | omega | (simp; done) | (simp; omega))⟩

set_option maxHeartbeats 2000000 in
set_option maxRecDepth 100000 in
/-- Two windows that read alike are found equal. -/
theorem eqWindow_any (vn vl un ul : Value) (ns ls : List (Int × Int)) (w : World) (hn : RP w vn ns) (hl : RP w vl ls) (hn' : RP w un ns) (hl' : RP w ul ls) :
    Calls Tryz.prog 12 #[.agg #[vn, vl], .agg #[un, ul]] w fun e w' => e = .returned (.bool true) ∧ Below w.heap.size w w' := by
  go_enter Tryz.func12, Tryz.ntmps12
  go_wp2_with fail
  refine (eqNodeS_any _ _ ns _ (hn.below (by (repeat (first | exact Below.refl _ _ | assumption | refine Below.drew ?_ | refine below_drewN ?_ _ | refine Below.alloc ?_ (by first | omega | (simp; done) | (simp; omega)) _ | refine Below.setCell ?_ (by first | omega | (simp; done) | (simp; omega)) _ | refine Below.step (by assumption) ?_ (by first | omega | (simp; done) | (simp; omega)) | refine Below.mark (by assumption) (by assumption) ?_ (by first | omega | (simp; done) | (simp; omega)) (by first | omega | (simp; done) | (simp; omega)))))) (hn'.below (by (repeat (first | exact Below.refl _ _ | assumption | refine Below.drew ?_ | refine below_drewN ?_ _ | refine Below.alloc ?_ (by first | omega | (simp; done) | (simp; omega)) _ | refine Below.setCell ?_ (by first | omega | (simp; done) | (simp; omega)) _ | refine Below.step (by assumption) ?_ (by first | omega | (simp; done) | (simp; omega)) | refine Below.mark (by assumption) (by assumption) ?_ (by first | omega | (simp; done) | (simp; omega)) (by first | omega | (simp; done) | (simp; omega))))))).mono ?_
  rintro e w1 ⟨rfl, hb1⟩; (first | (with_reducible have hcf1 := bcell_drew hb1) | have hcf1 := bcell hb1); obtain ⟨hc1, hf1⟩ := hcf1; have hz1 := hb1.size; (try simp at hz1); (try have hp1_0 : w.heap.size < w1.heap.size := by omega); (try have hp1_1 : w.heap.size + 1 < w1.heap.size := by omega); (try have hp1_2 : w.heap.size + 1 + 1 < w1.heap.size := by omega); (try have hp1_3 : w.heap.size + 1 + 1 + 1 < w1.heap.size := by omega)
  have hbw1 : Below w.heap.size w w1 := by (repeat (first | exact Below.refl _ _ | assumption | refine Below.drew ?_ | refine below_drewN ?_ _ | refine Below.alloc ?_ (by first | omega | (simp; done) | (simp; omega)) _ | refine Below.setCell ?_ (by first | omega | (simp; done) | (simp; omega)) _ | refine Below.step (by assumption) ?_ (by first | omega | (simp; done) | (simp; omega)) | refine Below.mark (by assumption) (by assumption) ?_ (by first | omega | (simp; done) | (simp; omega)) (by first | omega | (simp; done) | (simp; omega))))
  go_wp2_with fail
  refine (eqLeadS_any _ _ ls _ (hl.below hbw1) (hl'.below hbw1)).mono ?_
  rintro e w2 ⟨rfl, hb2⟩; (first | (with_reducible have hcf2 := bcell_drew hb2) | have hcf2 := bcell hb2); obtain ⟨hc2, hf2⟩ := hcf2; have hz2 := hb2.size; (try simp at hz2); (try have hp2_0 : w.heap.size < w2.heap.size := by omega); (try have hp2_1 : w.heap.size + 1 < w2.heap.size := by omega); (try have hp2_2 : w.heap.size + 1 + 1 < w2.heap.size := by omega); (try have hp2_3 : w.heap.size + 1 + 1 + 1 < w2.heap.size := by omega)
  go_wp2
  go_ret
  exact ⟨rfl, by (repeat' (first | (with_reducible exact Below.refl _ _) | (with_reducible assumption) | (with_reducible refine Below.drew ?_) | (with_reducible refine below_drewN ?_ _) | (with_reducible refine Below.alloc ?_ ?_ _) | (with_reducible refine Below.setCell ?_ ?_ _) | (with_reducible refine Below.step (by assumption) ?_ ?_))); all_goals (first | omega | (simp; done) | (simp; omega))⟩

attribute [local go_sem ↓] run_eqNode run_eqLead run_neNode run_neLead





/-- Two windows are the same. -/
def sameWB (ns ls ns' ls' : List (Int × Int)) : Bool := decide (ns = ns') && decide (ls = ls')





end Go.Proofs.YtognjdappchpkaaGreat
