/-
  Lists of recipes in memory, and the tests over them.
-/
import Derived.Test.YtdladmmhmncpoaaDist
set_option linter.unusedSimpArgs false
set_option linter.unusedVariables false
namespace Go.Proofs.Ytdladmmhmncpoaa
open Go.RowKit

theorem flat_len {α : Type} (f : α → List Value) (n : Nat) (hf : ∀ x, (f x).length = n) : ∀ l : List α, (l.flatMap f).length = l.length * n
  | [] => by simp
  | x :: l => by rw [List.flatMap_cons, List.length_append, hf, flat_len f n hf l, List.length_cons, Nat.add_mul]; omega

theorem flat_get {α : Type} (f : α → List Value) (n : Nat) (hf : ∀ x, (f x).length = n) : ∀ (l : List α) (k j : Nat) (hk : k < l.length) (hj : j < n), (l.flatMap f)[k * n + j]? = (f l[k])[j]?
  | [], k, j, hk, hj => absurd hk (by simp)
  | x :: l, 0, j, hk, hj => by
    rw [List.flatMap_cons, List.getElem?_append_left (by rw [hf]; omega)]
    simp
  | x :: l, k + 1, j, hk, hj => by
    rw [List.flatMap_cons, List.getElem?_append_right (by rw [hf, Nat.add_mul]; omega), hf, show (k + 1) * n + j - n = k * n + j by rw [Nat.add_mul]; omega,
      flat_get f n hf l k j (by simpa using hk) hj]
    simp

/-- A recipe. -/
structure Rc where
  s : Int
  a : Int
  l : Int
  m : Int

def Rc.v (r : Rc) : Value := .agg #[.int .i64 r.s, .int .i64 r.a, .int .i64 r.l, .int .i64 r.m]

def Rc.cs (r : Rc) : List Value := [.int .i64 r.s, .int .i64 r.a, .int .i64 r.l, .int .i64 r.m]

def Rc.ok (r : Rc) : Bool := recipeB r.s r.a r.l r.m

def Rc.dist (r t : Rc) : Int := distB r.s r.a r.l r.m t.s t.a t.l t.m

/-- v reads as the list of recipes. -/
def RR (w : World) (v : Value) (l : List Rc) : Prop := RS w 4 v l.length (l.flatMap Rc.cs)

theorem RR.below {w w' : World} {v : Value} {l : List Rc} (h : RR w v l) (hb : Below w.heap.size w w') : RR w' v l := RS.below h hb

theorem RR.form {w : World} {v : Value} {l : List Rc} (h : RR w v l) : ∃ A c, v = .slice A l.length c ∧ l.length ≤ c ∧ l.length ≤ maxLen ∧
    (0 < l.length → ∃ b off, A = some ⟨b, off, none⟩ ∧ b < w.heap.size ∧ ∀ k (hk : k < l.length), w.cell? ⟨b, off + k * 4, none⟩ = some (.int .i64 l[k].s) ∧ w.cell? ⟨b, off + k * 4 + 1, none⟩ = some (.int .i64 l[k].a) ∧
      w.cell? ⟨b, off + k * 4 + 2, none⟩ = some (.int .i64 l[k].l) ∧ w.cell? ⟨b, off + k * 4 + 3, none⟩ = some (.int .i64 l[k].m)) := by
  obtain ⟨_, A, c, hv, h1, h2, h3⟩ := h
  refine ⟨A, c, hv, h1, h2, fun hn => ?_⟩
  obtain ⟨b, off, hA, hlt, hc⟩ := h3 hn
  refine ⟨b, off, hA, hlt, fun k hk => ?_⟩
  have g := fun j hj => flat_get Rc.cs 4 (fun _ => rfl) l k j hk hj
  refine ⟨?_, ?_, ?_, ?_⟩
  · exact hc (k * 4 + 0) _ (by rw [g 0 (by omega)]; rfl)
  · have := hc (k * 4 + 1) _ (by rw [g 1 (by omega)]; rfl); rwa [← Nat.add_assoc] at this
  · have := hc (k * 4 + 2) _ (by rw [g 2 (by omega)]; rfl); rwa [← Nat.add_assoc] at this
  · have := hc (k * 4 + 3) _ (by rw [g 3 (by omega)]; rfl); rwa [← Nat.add_assoc] at this

def recipesB (l : List Rc) : Bool := l.all Rc.ok && decide (l.length ≤ 20)

set_option maxHeartbeats 2000000 in
theorem sRecipes_any (v : Value) (l : List Rc) (w : World) (h : RR w v l) :
    Calls Try.prog 82 #[v] w fun e w' => e = .returned (.bool (recipesB l)) ∧ Below w.heap.size w w' := by
  obtain ⟨A, c, rfl, hc, hm, hcell⟩ := h.form
  unfold maxLen at hm
  clear h
  go_enter Try.func82, Try.ntmps82
  go_wp2
  go_loopw [3] (fun i wr => ∃ k : Nat, k ≤ l.length ∧ i = .int .i64 k ∧ Hid ((l.take k).all Rc.ok = true) ∧ Below w.heap.size w wr) (fun i _ => l.length - (intOf i).toNat)
  case atStart => exact ⟨0, Nat.zero_le _, rfl, Lib.hid (by simp), Below.refl _ _⟩
  case round =>
    obtain ⟨k, hk, rfl, HT, hbl⟩ := hrel
    have hsz := hbl.size
    by_cases hlt : k < l.length
    · obtain ⟨b, off, rfl, hb, hcl⟩ := hcell (by omega)
      obtain ⟨k0, k1, k2, k3⟩ := hcl k hlt
      have q0 := (hbl.cell (p := ⟨b, off + k * 4, none⟩) hb).trans k0
      have q1 := (hbl.cell (p := ⟨b, off + k * 4 + 1, none⟩) hb).trans k1
      have q2 := (hbl.cell (p := ⟨b, off + k * 4 + 2, none⟩) hb).trans k2
      have q3 := (hbl.cell (p := ⟨b, off + k * 4 + 3, none⟩) hb).trans k3
      clear k0 k1 k2 k3 hcl hcell
      cases hok : l[k].ok
      · have HOK : Hid (recipeB l[k].s l[k].a l[k].l l[k].m = false) := Lib.hid hok
        have HF : Hid (recipesB l = false) := Lib.hid (by
          unfold recipesB
          rw [Bool.and_eq_false_iff]; left
          rw [List.all_eq_false]
          exact ⟨l[k], List.getElem_mem hlt, by rw [hok]; simp⟩)
        clear hok
        go_wp2_with fail
        refine (sRecipeOk_any _ _ _ _ _).mono ?_
        rintro e w1 ⟨rfl, hb1⟩; (first | (with_reducible have hcf1 := bcell_drew hb1) | have hcf1 := bcell hb1); obtain ⟨hc1, hf1⟩ := hcf1; have hz1 := hb1.size; (try simp at hz1); (try have hp1_0 : w.heap.size < w1.heap.size := by omega); (try have hp1_1 : w.heap.size + 1 < w1.heap.size := by omega); (try have hp1_2 : w.heap.size + 2 < w1.heap.size := by omega)
        rw [HOK.out]
        go_wp2
        go_ret
        exact ⟨ret_bool HF.out.symm, by (repeat (first | exact Below.refl _ _ | assumption | refine Below.drew ?_ | refine below_drewN ?_ _ | refine Below.alloc ?_ (by first | omega | (simp; done) | (simp; omega)) _ | refine Below.setCell ?_ (by first | omega | (simp; done) | (simp; omega)) _ | refine Below.step (by assumption) ?_ (by first | omega | (simp; done) | (simp; omega)) | refine Below.mark (by assumption) (by assumption) ?_ (by first | omega | (simp; done) | (simp; omega)) (by first | omega | (simp; done) | (simp; omega))))⟩
      · have HOK : Hid (recipeB l[k].s l[k].a l[k].l l[k].m = true) := Lib.hid hok
        have HT' : Hid ((l.take (k + 1)).all Rc.ok = true) := Lib.hid (by
          rw [List.take_succ_eq_append_getElem hlt, List.all_append, HT.out]
          simp [hok])
        clear hok
        go_wp2_with fail
        refine (sRecipeOk_any _ _ _ _ _).mono ?_
        rintro e w1 ⟨rfl, hb1⟩; (first | (with_reducible have hcf1 := bcell_drew hb1) | have hcf1 := bcell hb1); obtain ⟨hc1, hf1⟩ := hcf1; have hz1 := hb1.size; (try simp at hz1); (try have hp1_0 : w.heap.size < w1.heap.size := by omega); (try have hp1_1 : w.heap.size + 1 < w1.heap.size := by omega); (try have hp1_2 : w.heap.size + 2 < w1.heap.size := by omega)
        rw [HOK.out]
        go_wp2
        go_roundw
        case rel => exact ⟨k + 1, by omega, by go_num, HT', by (repeat (first | exact Below.refl _ _ | assumption | refine Below.drew ?_ | refine below_drewN ?_ _ | refine Below.alloc ?_ (by first | omega | (simp; done) | (simp; omega)) _ | refine Below.setCell ?_ (by first | omega | (simp; done) | (simp; omega)) _ | refine Below.step (by assumption) ?_ (by first | omega | (simp; done) | (simp; omega)) | refine Below.mark (by assumption) (by assumption) ?_ (by first | omega | (simp; done) | (simp; omega)) (by first | omega | (simp; done) | (simp; omega))))⟩
        case measure => simp [intOf]; omega
    · have hkk : l.length ≤ k := by omega
      have h := HT.out
      rw [List.take_of_length_le hkk] at h
      have HF : Hid (recipesB l = decide ((l.length : Int) ≤ 20)) := Lib.hid (by
        unfold recipesB; rw [h, Bool.true_and]
        rw [Bool.eq_iff_iff]; simp; omega)
      clear h hcell
      go_wp2
      go_ret
      exact ⟨ret_bool HF.out.symm, hbl⟩

set_option maxHeartbeats 2000000 in
theorem iRecipes_any (v : Value) (l : List Rc) (w : World) (h : RR w v l) :
    Calls Try.prog 71 #[v] w fun e w' => e = .returned (.bool (recipesB l)) ∧ Below w.heap.size w w' := by
  obtain ⟨A, c, rfl, hc, hm, hcell⟩ := h.form
  unfold maxLen at hm
  clear h
  go_enter Try.func71, Try.ntmps71
  go_wp2
  go_loopw [7] (fun i wr => ∃ k : Nat, k ≤ l.length ∧ i = .int .i64 k ∧ Hid ((l.take k).all Rc.ok = true) ∧ Below w.heap.size w wr) (fun i _ => l.length - (intOf i).toNat)
  case atStart => exact ⟨0, Nat.zero_le _, rfl, Lib.hid (by simp), Below.refl _ _⟩
  case round =>
    obtain ⟨k, hk, rfl, HT, hbl⟩ := hrel
    have hsz := hbl.size
    by_cases hlt : k < l.length
    · obtain ⟨b, off, rfl, hb, hcl⟩ := hcell (by omega)
      obtain ⟨k0, k1, k2, k3⟩ := hcl k hlt
      have q0 := (hbl.cell (p := ⟨b, off + k * 4, none⟩) hb).trans k0
      have q1 := (hbl.cell (p := ⟨b, off + k * 4 + 1, none⟩) hb).trans k1
      have q2 := (hbl.cell (p := ⟨b, off + k * 4 + 2, none⟩) hb).trans k2
      have q3 := (hbl.cell (p := ⟨b, off + k * 4 + 3, none⟩) hb).trans k3
      clear k0 k1 k2 k3 hcl hcell
      cases hok : l[k].ok
      · have HOK : Hid (recipeB l[k].s l[k].a l[k].l l[k].m = false) := Lib.hid hok
        have HF : Hid (recipesB l = false) := Lib.hid (by
          unfold recipesB
          rw [Bool.and_eq_false_iff]; left
          rw [List.all_eq_false]
          exact ⟨l[k], List.getElem_mem hlt, by rw [hok]; simp⟩)
        clear hok
        go_wp2_with fail
        refine (iRecipeOk_any _ _ _ _ _).mono ?_
        rintro e w1 ⟨rfl, hb1⟩; (first | (with_reducible have hcf1 := bcell_drew hb1) | have hcf1 := bcell hb1); obtain ⟨hc1, hf1⟩ := hcf1; have hz1 := hb1.size; (try simp at hz1); (try have hp1_0 : w.heap.size < w1.heap.size := by omega); (try have hp1_1 : w.heap.size + 1 < w1.heap.size := by omega); (try have hp1_2 : w.heap.size + 2 < w1.heap.size := by omega)
        rw [HOK.out]
        go_wp2
        go_ret
        exact ⟨ret_bool HF.out.symm, by (repeat (first | exact Below.refl _ _ | assumption | refine Below.drew ?_ | refine below_drewN ?_ _ | refine Below.alloc ?_ (by first | omega | (simp; done) | (simp; omega)) _ | refine Below.setCell ?_ (by first | omega | (simp; done) | (simp; omega)) _ | refine Below.step (by assumption) ?_ (by first | omega | (simp; done) | (simp; omega)) | refine Below.mark (by assumption) (by assumption) ?_ (by first | omega | (simp; done) | (simp; omega)) (by first | omega | (simp; done) | (simp; omega))))⟩
      · have HOK : Hid (recipeB l[k].s l[k].a l[k].l l[k].m = true) := Lib.hid hok
        have HT' : Hid ((l.take (k + 1)).all Rc.ok = true) := Lib.hid (by
          rw [List.take_succ_eq_append_getElem hlt, List.all_append, HT.out]
          simp [hok])
        clear hok
        go_wp2_with fail
        refine (iRecipeOk_any _ _ _ _ _).mono ?_
        rintro e w1 ⟨rfl, hb1⟩; (first | (with_reducible have hcf1 := bcell_drew hb1) | have hcf1 := bcell hb1); obtain ⟨hc1, hf1⟩ := hcf1; have hz1 := hb1.size; (try simp at hz1); (try have hp1_0 : w.heap.size < w1.heap.size := by omega); (try have hp1_1 : w.heap.size + 1 < w1.heap.size := by omega); (try have hp1_2 : w.heap.size + 2 < w1.heap.size := by omega)
        rw [HOK.out]
        go_wp2
        go_roundw
        case rel => exact ⟨k + 1, by omega, by go_num, HT', by (repeat (first | exact Below.refl _ _ | assumption | refine Below.drew ?_ | refine below_drewN ?_ _ | refine Below.alloc ?_ (by first | omega | (simp; done) | (simp; omega)) _ | refine Below.setCell ?_ (by first | omega | (simp; done) | (simp; omega)) _ | refine Below.step (by assumption) ?_ (by first | omega | (simp; done) | (simp; omega)) | refine Below.mark (by assumption) (by assumption) ?_ (by first | omega | (simp; done) | (simp; omega)) (by first | omega | (simp; done) | (simp; omega))))⟩
        case measure => simp [intOf]; omega
    · have hkk : l.length ≤ k := by omega
      have h := HT.out
      rw [List.take_of_length_le hkk] at h
      have HF : Hid (recipesB l = decide ((l.length : Int) ≤ 20)) := Lib.hid (by
        unfold recipesB; rw [h, Bool.true_and]
        rw [Bool.eq_iff_iff]; simp; omega)
      clear h hcell
      go_wp2
      go_ret
      exact ⟨ret_bool HF.out.symm, hbl⟩

end Go.Proofs.Ytdladmmhmncpoaa
