/-
  A list sorted by insertion: plain.
-/
import Derived.Test.YtognjdappchpkaaGreatOrb
set_option linter.unusedSimpArgs false
set_option linter.unusedVariables false
namespace Go.Proofs.YtognjdappchpkaaGreat

/-- The first i of a list, sorted. -/
def isoK (lt : Nat → Nat → Bool) (G : List Nat) (i : Nat) : List Nat := (G.take i).foldl (fun S d => insN (lt d) d S) []

theorem isoK_zero (lt : Nat → Nat → Bool) (G : List Nat) : isoK lt G 0 = [] := rfl
theorem isoK_succ (lt : Nat → Nat → Bool) (G : List Nat) (i : Nat) (h : i < G.length) : isoK lt G (i + 1) = insN (lt G[i]) G[i] (isoK lt G i) := by
  unfold isoK
  rw [List.take_succ_eq_append_getElem h, List.foldl_append]
  rfl
theorem isoK_len (lt : Nat → Nat → Bool) (G : List Nat) : ∀ i, i ≤ G.length → (isoK lt G i).length = i
  | 0, _ => rfl
  | i + 1, h => by rw [isoK_succ lt G i (by omega), insN_length, isoK_len lt G i (by omega)]

/-- What the row holds while number i goes down: p is its place. -/
def isoR (lt : Nat → Nat → Bool) (G : List Nat) (i p : Nat) : List Int := gapI (isoK lt G i) p ((G.getD i 0 : Nat) : Int) ++ natI (G.drop (i + 1))

/-- What the row holds ahead of number i. -/
def isoH (lt : Nat → Nat → Bool) (G : List Nat) (i : Nat) : List Int := natI (isoK lt G i) ++ natI (G.drop i)

theorem isoH_zero (lt : Nat → Nat → Bool) (G : List Nat) : isoH lt G 0 = natI G := by simp [isoH, isoK_zero, natI]
theorem isoH_all (lt : Nat → Nat → Bool) (G : List Nat) : isoH lt G G.length = natI (isoK lt G G.length) := by simp [isoH, natI]
theorem isoH_len (lt : Nat → Nat → Bool) (G : List Nat) (i : Nat) (h : i ≤ G.length) : (isoH lt G i).length = G.length := by
  simp [isoH, natI, isoK_len lt G i h]; omega
theorem isoR_len (lt : Nat → Nat → Bool) (G : List Nat) (i p : Nat) (h : i < G.length) (hp : p ≤ i) : (isoR lt G i p).length = G.length := by
  unfold isoR
  rw [List.length_append, gapI_length _ _ _ (by rw [isoK_len lt G i (by omega)]; exact hp), isoK_len lt G i (by omega), natI_length, List.length_drop]
  omega

theorem isoR_start (lt : Nat → Nat → Bool) (G : List Nat) (i : Nat) (h : i < G.length) : isoR lt G i i = isoH lt G i := by
  unfold isoR isoH
  have hl := isoK_len lt G i (by omega)
  have e : gapI (isoK lt G i) i ((G.getD i 0 : Nat) : Int) = natI (isoK lt G i) ++ [((G.getD i 0 : Nat) : Int)] := by
    have := gapI_full (isoK lt G i) ((G.getD i 0 : Nat) : Int)
    rw [hl] at this
    exact this
  rw [e, List.append_assoc, List.drop_eq_getElem_cons h, show G.getD i 0 = G[i] by simp [List.getD, h]]
  rfl

theorem isoR_self (lt : Nat → Nat → Bool) (G : List Nat) (i p : Nat) (h : i < G.length) (hp : p ≤ i) : (isoR lt G i p).getD p 0 = ((G.getD i 0 : Nat) : Int) := by
  have hl := isoK_len lt G i (by omega)
  unfold isoR gapI natI
  have e : (List.map (fun (d : Nat) => (d : Int)) ((isoK lt G i).take p)).length = p := by simp; omega
  rw [List.getD, List.append_assoc, List.getElem?_append_right (by omega), e, Nat.sub_self]
  rfl

theorem isoR_below (lt : Nat → Nat → Bool) (G : List Nat) (i p : Nat) (h : i < G.length) (hp : p < i) : (isoR lt G i (p + 1)).getD p 0 = (((isoK lt G i).getD p 0 : Nat) : Int) := by
  have hl := isoK_len lt G i (by omega)
  have h1 := gapI_get (isoK lt G i) p ((G.getD i 0 : Nat) : Int) (by omega)
  have h2 := gapI_length (isoK lt G i) (p + 1) ((G.getD i 0 : Nat) : Int) (by omega)
  unfold isoR
  rw [List.getD, List.getElem?_append_left (by omega)]
  exact h1

/-- The two are exchanged. -/
theorem isoR_swap (lt : Nat → Nat → Bool) (G : List Nat) (i p : Nat) (h : i < G.length) (hp : p < i) :
    ((isoR lt G i (p + 1)).set (p + 1) (((isoK lt G i).getD p 0 : Nat) : Int)).set p ((G.getD i 0 : Nat) : Int) = isoR lt G i p := by
  have hl := isoK_len lt G i (by omega)
  have h1 := gapI_move (isoK lt G i) p ((G.getD i 0 : Nat) : Int) (by omega)
  have h2 := gapI_length (isoK lt G i) (p + 1) ((G.getD i 0 : Nat) : Int) (by omega)
  have h3 := gapI_length (isoK lt G i) p (((isoK lt G i).getD p 0 : Nat) : Int) (by omega)
  have h4 := gapI_put (isoK lt G i) p (((isoK lt G i).getD p 0 : Nat) : Int) (G.getD i 0) (by omega)
  unfold isoR
  rw [List.set_append, if_pos (by omega), h1, List.set_append, if_pos (by omega), h4]
  congr 1
  simp [gapI, natI]

/-- It has come to its place. -/
theorem isoR_end (lt : Nat → Nat → Bool) (G : List Nat) (i : Nat) (h : i < G.length) : isoR lt G i (posN (lt G[i]) (isoK lt G i) i) = isoH lt G (i + 1) := by
  have hl := isoK_len lt G i (by omega)
  unfold isoR isoH
  rw [isoK_succ lt G i h]
  unfold insN gapI natI
  rw [hl]
  simp [List.getD, h]

/-- The darts at a node among the first m, as they come. -/
def frD (ls : List Pr) (k : Nat) : Nat → List Nat
  | 0 => []
  | d + 1 => if dFrom ls d = k then frD ls k d ++ [d] else frD ls k d

theorem frD_no {ls : List Pr} {k d : Nat} (h : ¬ dFrom ls d = k) : frD ls k (d + 1) = frD ls k d := by simp [frD, h]
theorem frD_yes {ls : List Pr} {k d : Nat} (h : dFrom ls d = k) : frD ls k (d + 1) = frD ls k d ++ [d] := by simp [frD, h]

theorem isoK_app (lt : Nat → Nat → Bool) (G : List Nat) (d : Nat) : isoK lt (G ++ [d]) (G ++ [d]).length = insN (lt d) d (isoK lt G G.length) := by
  unfold isoK
  rw [List.take_length, List.take_length, List.foldl_append]
  rfl

/-- Sorted by insertion they are the list of the reference. -/
theorem iso_ard (ns ls : List Pr) (k : Nat) : ∀ m, isoK (bfD ns ls k) (frD ls k m) (frD ls k m).length = ardS ns ls k m
  | 0 => rfl
  | m + 1 => by
    by_cases h : dFrom ls m = k
    · rw [frD_yes h, isoK_app, iso_ard ns ls k m, ardS_yes h]
    · rw [frD_no h, iso_ard ns ls k m, ardS_no h]

theorem frD_lt (ls : List Pr) (k : Nat) : ∀ m e, e ∈ frD ls k m → e < m ∧ dFrom ls e = k
  | 0, e, h => by simp [frD] at h
  | m + 1, e, h => by
    by_cases hf : dFrom ls m = k
    · rw [frD_yes hf, List.mem_append, List.mem_singleton] at h
      rcases h with h | rfl
      · have := frD_lt ls k m e h; exact ⟨by omega, this.2⟩
      · exact ⟨by omega, hf⟩
    · rw [frD_no hf] at h
      have := frD_lt ls k m e h; exact ⟨by omega, this.2⟩

end Go.Proofs.YtognjdappchpkaaGreat
