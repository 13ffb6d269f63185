/-
  Leads and windows: plain words.
-/
import Derived.Test.YtoknmjpnelbplaaGreatGeo
set_option linter.unusedSimpArgs false
set_option linter.unusedVariables false
namespace Go.Proofs.YtoknmjpnelbplaaGreat
open Go.RowKit

abbrev Pr := Int × Int
def nodeP (p : Pr) : Bool := nodeB p.1 p.2
def turnP (a b c : Pr) : Int := turnI a.1 a.2 b.1 b.2 c.1 c.2
def betwP (a b c : Pr) : Bool := betwB a.1 a.2 b.1 b.2 c.1 c.2
def sameP (a b : Pr) : Bool := prB a.1 a.2 b.1 b.2

theorem sameP_iff {a b : Pr} : sameP a b = true ↔ a = b := prB_iff
theorem sameP_no {a b : Pr} : sameP a b = false ↔ a ≠ b := by
  rw [← Bool.not_eq_true, sameP_iff]

/-- The node at an int's place. -/
def ndI (ns : List Pr) (i : Int) : Pr := ns.getD i.toNat (0, 0)

theorem ndI_nat (ns : List Pr) (k : Nat) (h : k < ns.length) : ndI ns k = ns[k] := by
  simp [ndI, List.getD, h]

/-- A valid lead among nodes. -/
def leadB (ns : List Pr) (l : Pr) : Bool :=
  decide (0 ≤ l.1) && decide (l.1 < l.2) && decide (l.2 < ns.length) && nodeP (ndI ns l.1) && nodeP (ndI ns l.2) && !(sameP (ndI ns l.1) (ndI ns l.2))

theorem leadB_iff {ns : List Pr} {l : Pr} : leadB ns l = true ↔ 0 ≤ l.1 ∧ l.1 < l.2 ∧ l.2 < ns.length ∧ nodeP (ndI ns l.1) = true ∧ nodeP (ndI ns l.2) = true ∧ sameP (ndI ns l.1) (ndI ns l.2) = false := by
  simp [leadB, and_assoc]

/-- Two stretches cross. -/
def crossP (a b c d : Pr) : Bool :=
  (sameP a c && sameP b d || sameP a d && sameP b c) || (betwP a b c || betwP a b d || betwP c d a || betwP c d b) ||
    (decide (turnP a b c * turnP a b d < 0) && decide (turnP c d a * turnP c d b < 0))

def crossB (ns : List Pr) (l m : Pr) : Bool := leadB ns l && leadB ns m && crossP (ndI ns l.1) (ndI ns l.2) (ndI ns m.1) (ndI ns m.2)

def onB (ns : List Pr) (l n : Pr) : Bool := leadB ns l && (sameP n (ndI ns l.1) || sameP n (ndI ns l.2) || betwP (ndI ns l.1) (ndI ns l.2) n)

theorem sameP_comm (a b : Pr) : sameP a b = sameP b a := by
  have h : ∀ a b : Pr, sameP a b = true → sameP b a = true := fun a b h => sameP_iff.2 (sameP_iff.1 h).symm
  cases h1 : sameP a b
  · cases h2 : sameP b a
    · rfl
    · rw [h b a h2] at h1; cases h1
  · rw [h a b h1]

theorem crossP_comm (a b c d : Pr) : crossP a b c d = crossP c d a b := by
  unfold crossP
  rw [sameP_comm c a, sameP_comm d b, sameP_comm c b, sameP_comm d a]
  cases sameP a c <;> cases sameP b d <;> cases sameP a d <;> cases sameP b c <;> cases betwP a b c <;> cases betwP a b d <;> cases betwP c d a <;> cases betwP c d b <;> simp [Bool.and_comm]

theorem crossB_comm (ns : List Pr) (l m : Pr) : crossB ns l m = crossB ns m l := by
  unfold crossB
  rw [crossP_comm, Bool.and_comm (leadB ns l)]

theorem turn_self1 (a b : Pr) : turnP a b a = 0 := by simp [turnP, turnI]
theorem turn_self2 (a b : Pr) : turnP a b b = 0 := by
  unfold turnP turnI; rw [Int.mul_comm]; omega

/-- The reference's form of crossing. -/
def crossS (a b c d : Pr) : Bool :=
  if betwP a b c || betwP a b d || betwP c d a || betwP c d b then true
  else if sameP a c && sameP b d || sameP a d && sameP b c then true
  else if sameP a c || sameP a d || sameP b c || sameP b d then false
  else decide (Int.sign (turnP a b c) * Int.sign (turnP a b d) < 0) && decide (Int.sign (turnP c d a) * Int.sign (turnP c d b) < 0)

theorem sign_mul_neg (x y : Int) : Int.sign x * Int.sign y < 0 ↔ x * y < 0 := by
  rw [← Int.sign_mul, Int.sign_neg_iff]

theorem crossS_eq (a b c d : Pr) : crossS a b c d = crossP a b c d := by
  unfold crossS crossP
  simp only [sign_mul_neg]
  cases h1 : (betwP a b c || betwP a b d || betwP c d a || betwP c d b)
  · cases h2 : (sameP a c && sameP b d || sameP a d && sameP b c)
    · simp only [Bool.false_or, Bool.false_eq_true, if_false, Bool.or_false]
      cases h3 : (sameP a c || sameP a d || sameP b c || sameP b d)
      · simp
      · simp only [if_true]
        symm
        rw [Bool.and_eq_false_iff]
        simp only [Bool.or_eq_true, sameP_iff] at h3
        left
        rcases h3 with ((h | h) | h) | h <;> subst h <;> simp [turn_self1, turn_self2]
    · simp
  · simp

/-- The first i nodes are apart from each other. -/
def Dis (ns : List Pr) (i : Nat) : Prop := ∀ a b : Nat, a < b → b < i → sameP (ndI ns a) (ndI ns b) = false
/-- A lead crosses none of the first i. -/
def CrOk (ns ls : List Pr) (l : Pr) (i : Nat) : Prop := ∀ j : Nat, j < i → crossB ns l (ndI ls j) = false
/-- Of the first i nodes, none but its ends lies on a lead. -/
def OnOk (ns : List Pr) (l : Pr) (i : Nat) : Prop := ∀ j : Nat, j < i → (j : Int) ≠ l.1 → (j : Int) ≠ l.2 → onB ns l (ndI ns j) = false
/-- The k-th lead is valid. -/
def LdOk (ns ls : List Pr) (k : Nat) : Prop := leadB ns (ndI ls k) = true ∧ CrOk ns ls (ndI ls k) k ∧ OnOk ns (ndI ls k) ns.length
/-- A valid window. -/
def WinOk (ns ls : List Pr) : Prop :=
  1 ≤ ns.length ∧ ns.length ≤ 12 ∧ ls.length ≤ 20 ∧ nodesB ns = true ∧ Dis ns ns.length ∧ ∀ k : Nat, k < ls.length → LdOk ns ls k

noncomputable def winB (ns ls : List Pr) : Bool := @decide (WinOk ns ls) (Classical.propDecidable _)

theorem winB_true {ns ls : List Pr} : winB ns ls = true ↔ WinOk ns ls := by simp [winB]
theorem winB_false {ns ls : List Pr} : winB ns ls = false ↔ ¬ WinOk ns ls := by simp [winB]

theorem nodesB_mem {ns : List Pr} (h : nodesB ns = true) : ∀ p ∈ ns, nodeP p = true := by
  unfold nodesB at h
  rw [List.all_eq_true] at h
  exact h
theorem nodesB_at {ns : List Pr} (h : nodesB ns = true) (k : Nat) (hk : k < ns.length) : nodeP (ndI ns k) = true := by
  rw [ndI_nat ns k hk]; exact nodesB_mem h _ (List.getElem_mem hk)

theorem Dis.zero (ns : List Pr) : Dis ns 0 := fun a b h hb => absurd hb (by omega)
theorem Dis.succ {ns : List Pr} {i : Nat} (h : Dis ns i) (hi : ∀ a : Nat, a < i → sameP (ndI ns a) (ndI ns i) = false) : Dis ns (i + 1) := by
  intro a b hab hb
  rcases Nat.lt_succ_iff_lt_or_eq.1 hb with h1 | h1
  · exact h a b hab h1
  · subst h1; exact hi a hab
theorem CrOk.zero (ns ls : List Pr) (l : Pr) : CrOk ns ls l 0 := fun j hj => absurd hj (by omega)
theorem CrOk.succ {ns ls : List Pr} {l : Pr} {i : Nat} (h : CrOk ns ls l i) (hi : crossB ns l (ndI ls i) = false) : CrOk ns ls l (i + 1) := by
  intro j hj
  rcases Nat.lt_succ_iff_lt_or_eq.1 hj with h1 | h1
  · exact h j h1
  · subst h1; exact hi
theorem OnOk.zero (ns : List Pr) (l : Pr) : OnOk ns l 0 := fun j hj => absurd hj (by omega)
theorem OnOk.succ {ns : List Pr} {l : Pr} {i : Nat} (h : OnOk ns l i) (hi : (i : Int) ≠ l.1 → (i : Int) ≠ l.2 → onB ns l (ndI ns i) = false) : OnOk ns l (i + 1) := by
  intro j hj
  rcases Nat.lt_succ_iff_lt_or_eq.1 hj with h1 | h1
  · exact h j h1
  · subst h1; exact hi

/-- The address of a list of pairs, its cells named by their place. -/
theorem RP.formI {w : World} {v : Value} {l : List (Int × Int)} (h : RP w v l) : ∃ A c, v = .slice A l.length c ∧ l.length ≤ c ∧ l.length ≤ maxLen ∧
    (0 < l.length → ∃ b off, A = some ⟨b, off, none⟩ ∧ b < w.heap.size ∧ ∀ k : Nat, k < l.length → w.cell? ⟨b, off + k * 2, none⟩ = some (.int .i64 (ndI l k).1) ∧ w.cell? ⟨b, off + k * 2 + 1, none⟩ = some (.int .i64 (ndI l k).2)) := by
  obtain ⟨A, c, h1, h2, h3, h4⟩ := h.form
  refine ⟨A, c, h1, h2, h3, fun hn => ?_⟩
  obtain ⟨b, off, e1, e2, e3⟩ := h4 hn
  exact ⟨b, off, e1, e2, fun k hk => by rw [ndI_nat l k hk]; exact e3 k hk⟩

end Go.Proofs.YtoknmjpnelbplaaGreat
