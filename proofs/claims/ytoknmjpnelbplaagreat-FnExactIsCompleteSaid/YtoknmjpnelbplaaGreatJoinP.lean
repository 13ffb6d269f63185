/-
  Two leads joined: plain laws, and the program's contract.
-/
import Derived.Test.YtoknmjpnelbplaaGreatJoin
import Derived.Test.YtoknmjpnelbplaaGreatWinP
set_option linter.unusedSimpArgs false
set_option linter.unusedVariables false
namespace Go.Proofs.YtoknmjpnelbplaaGreat
open Go.RowKit

def dnP (k : Int) (l : Pr) : Pr := (dnI k l.1, dnI k l.2)

/-- The first j leads as the reference joins them. -/
def jwo (ls : List Pr) (k : Int) (p q : Nat) (X : Pr) : Nat → List Pr
  | 0 => []
  | j + 1 => if j = q then jwo ls k p q X j else jwo ls k p q X j ++ [dnP k (if j = p then X else ndI ls (j : Nat))]

theorem jwo_len (ls : List Pr) (k : Int) (p q : Nat) (X : Pr) : ∀ j, (jwo ls k p q X j).length ≤ j
  | 0 => by simp [jwo]
  | j + 1 => by
    have := jwo_len ls k p q X j
    unfold jwo
    split <;> simp <;> omega

theorem take_snoc (l : List Pr) (j : Nat) (h : j < l.length) : l.take (j + 1) = l.take j ++ [ndI l (j : Nat)] := by
  rw [ndI_nat l j h, List.take_succ_eq_append_getElem h]

theorem erase_snoc (l : List Pr) (x : Pr) (m : Nat) : (l ++ [x]).eraseIdx m = if l.length = m then l else l.eraseIdx m ++ [x] := by
  by_cases h : l.length = m
  · rw [if_pos h, List.eraseIdx_append_of_length_le (by omega)]
    simp [h]
  · rw [if_neg h]
    by_cases h2 : m < l.length
    · rw [List.eraseIdx_append_of_lt_length h2]
    · rw [List.eraseIdx_append_of_length_le (by omega), List.eraseIdx_of_length_le (by simp; omega), List.eraseIdx_of_length_le (by omega)]

theorem nwo_eq (ns : List Pr) (m : Nat) : ∀ j, j ≤ ns.length → nwo ns m j = (ns.take j).eraseIdx m
  | 0, _ => by simp [nwo]
  | j + 1, h => by
    have hl : (ns.take j).length = j := by simp; omega
    rw [take_snoc ns j (by omega), erase_snoc, hl]
    unfold nwo
    rw [nwo_eq ns m j (by omega)]
    by_cases hj : j = m
    · rw [if_pos (by omega), if_pos hj, List.eraseIdx_of_length_le (by omega)]
    · rw [if_neg (by omega), if_neg hj]

theorem ndI_set (ls : List Pr) (p : Nat) (X : Pr) (j : Nat) (h : j < ls.length) : ndI (ls.set p X) (j : Nat) = if j = p then X else ndI ls (j : Nat) := by
  rw [ndI_nat _ _ (by simpa using h), ndI_nat _ _ h, List.getElem_set]
  by_cases hj : j = p
  · rw [if_pos hj, if_pos hj.symm]
  · rw [if_neg hj, if_neg (fun e => hj e.symm)]

theorem jwo_eq (ls : List Pr) (k : Int) (p q : Nat) (X : Pr) : ∀ j, j ≤ ls.length → jwo ls k p q X j = (((ls.set p X).take j).eraseIdx q).map (dnP k)
  | 0, _ => by simp [jwo]
  | j + 1, h => by
    have hl : ((ls.set p X).take j).length = j := by simp; omega
    rw [take_snoc _ j (by simp; omega), erase_snoc, hl]
    unfold jwo
    rw [jwo_eq ls k p q X j (by omega), ndI_set ls p X j (by omega)]
    by_cases hj : j = q
    · rw [if_pos hj, if_pos hj, List.eraseIdx_of_length_le (by omega)]
    · rw [if_neg hj, if_neg hj, List.map_append]; rfl

theorem lwo_eq (ls : List Pr) (k : Int) (hnt : ∀ j : Nat, j < ls.length → (ndI ls j).1 ≠ k ∧ (ndI ls j).2 ≠ k) : ∀ j, j ≤ ls.length → lwo ls k j = (ls.take j).map (dnP k)
  | 0, _ => by simp [lwo]
  | j + 1, h => by
    rw [take_snoc ls j (by omega)]
    unfold lwo
    rw [if_pos (hnt j (by omega)), lwo_eq ls k hnt j (by omega), List.map_append]; rfl

theorem atN_all (ls : List Pr) (k : Int) : ∀ m, ∀ i, i < m → touchB ls k i = true → i ∈ atN ls k m
  | 0, i, h, _ => by omega
  | m + 1, i, h, ht => by
    cases hm : touchB ls k m
    · rw [atN_no hm]
      by_cases e : i = m
      · subst e; rw [hm] at ht; cases ht
      · exact atN_all ls k m i (by omega) ht
    · rw [atN_yes hm]
      by_cases e : i = m
      · subst e; simp
      · simp [atN_all ls k m i (by omega) ht]

/-- What holds at a straight node. -/
structure JoinAt (ns ls : List Pr) (m p q t u : Nat) : Prop where
  win : WinOk ns ls
  hm : m < ns.length
  at_ : atN ls m ls.length = [p, q]
  hp : p < ls.length
  hq : q < ls.length
  ends : endsI ls m (atN ls m ls.length) = [(t : Int), (u : Int)]
  ht : t < ns.length
  hu : u < ns.length
  tk : (t : Int) ≠ m
  uk : (u : Int) ≠ m
  ot : othI (ndI ls p) m = (t : Int)
  ou : othI (ndI ls q) m = (u : Int)

theorem joinAt {ns ls : List Pr} {k : Int} (h : straightB ns ls k = true) : ∃ m p q t u : Nat, k = (m : Int) ∧ hasN ns ls k = true ∧ JoinAt ns ls m p q t u := by
  unfold straightB at h
  rw [Bool.and_eq_true] at h
  obtain ⟨hk, h2⟩ := deg2 (of_decide_eq_true h.1)
  obtain ⟨hw, m, rfl, hm⟩ := hasN_win hk
  obtain ⟨p, q, t, u, a1, a2, a3, a4, a5, a6, a7, a8, a9, a10⟩ := ends_two (winB_true.1 hw) h2
  exact ⟨m, p, q, t, u, rfl, hk, winB_true.1 hw, hm, a1, a2, a3, a4, a5, a6, a7, a8, a9, a10⟩

theorem JoinAt.bound {ns ls : List Pr} {m p q t u : Nat} (h : JoinAt ns ls m p q t u) (j : Nat) (hj : j < ((ls.set p (mn2 (t : Int) u, mx2 (t : Int) u)).take q ++ (ls.set p (mn2 (t : Int) u, mx2 (t : Int) u)).drop (q + 1)).length) :
    (-1000000 ≤ (ndI ((ls.set p (mn2 (t : Int) u, mx2 (t : Int) u)).take q ++ (ls.set p (mn2 (t : Int) u, mx2 (t : Int) u)).drop (q + 1)) j).1 ∧ (ndI ((ls.set p (mn2 (t : Int) u, mx2 (t : Int) u)).take q ++ (ls.set p (mn2 (t : Int) u, mx2 (t : Int) u)).drop (q + 1)) j).1 ≤ 1000000) ∧ (-1000000 ≤ (ndI ((ls.set p (mn2 (t : Int) u, mx2 (t : Int) u)).take q ++ (ls.set p (mn2 (t : Int) u, mx2 (t : Int) u)).drop (q + 1)) j).2 ∧ (ndI ((ls.set p (mn2 (t : Int) u, mx2 (t : Int) u)).take q ++ (ls.set p (mn2 (t : Int) u, mx2 (t : Int) u)).drop (q + 1)) j).2 ≤ 1000000) := by
  have hq : q < (ls.set p (mn2 (t : Int) u, mx2 (t : Int) u)).length := by simpa using h.hq
  rw [ndI_drop hq j hj]
  have hj' : j < ls.length - 1 := by simp at hj; have := h.hq; omega
  generalize hi : (if j < q then j else j + 1) = i
  have hi' : i < ls.length := by split at hi <;> omega
  rw [ndI_set ls p _ i hi']
  have h12 := h.win.2.1
  have ht := h.ht
  have hu := h.hu
  by_cases hip : i = p
  · rw [if_pos hip]; dsimp only; rw [mn2_eq, mx2_eq]; omega
  · rw [if_neg hip]
    have hl := leadB_iff.1 (h.win.2.2.2.2.2 i hi').1
    omega

theorem JoinAt.free {ns ls : List Pr} {m p q t u : Nat} (h : JoinAt ns ls m p q t u) (j : Nat) (hj : j < ((ls.set p (mn2 (t : Int) u, mx2 (t : Int) u)).take q ++ (ls.set p (mn2 (t : Int) u, mx2 (t : Int) u)).drop (q + 1)).length) :
    (ndI ((ls.set p (mn2 (t : Int) u, mx2 (t : Int) u)).take q ++ (ls.set p (mn2 (t : Int) u, mx2 (t : Int) u)).drop (q + 1)) j).1 ≠ m ∧ (ndI ((ls.set p (mn2 (t : Int) u, mx2 (t : Int) u)).take q ++ (ls.set p (mn2 (t : Int) u, mx2 (t : Int) u)).drop (q + 1)) j).2 ≠ m := by
  have hq : q < (ls.set p (mn2 (t : Int) u, mx2 (t : Int) u)).length := by simpa using h.hq
  rw [ndI_drop hq j hj]
  have hj' : j < ls.length - 1 := by simp at hj; have := h.hq; omega
  generalize hi : (if j < q then j else j + 1) = i
  have hi' : i < ls.length := by split at hi <;> omega
  have hiq : i ≠ q := by split at hi <;> omega
  rw [ndI_set ls p _ i hi']
  have ht := h.tk
  have hu := h.uk
  by_cases hip : i = p
  · rw [if_pos hip]; dsimp only; unfold mn2 mx2; constructor <;> split <;> assumption
  · rw [if_neg hip]
    have hno : touchB ls m i = false := by
      cases htb : touchB ls m i
      · rfl
      · have := atN_all ls m ls.length i hi' htb
        rw [h.at_] at this
        simp at this
        omega
    simpa [touchB, not_or] using hno

theorem JoinAt.joinX {ns ls : List Pr} {m p q t u : Nat} (h : JoinAt ns ls m p q t u) : joinX ls m p q = (mn2 (t : Int) u, mx2 (t : Int) u) := by
  simp [Proofs.YtoknmjpnelbplaaGreat.joinX, h.ot, h.ou]

theorem JoinAt.cn {ns ls : List Pr} {m p q t u : Nat} (h : JoinAt ns ls m p q t u) : joinCn ns m = ns.take m ++ ns.drop (m + 1) := by
  unfold joinCn
  rw [nwo_eq ns m _ (Nat.le_refl _), List.take_length, List.eraseIdx_eq_take_drop_succ]

theorem JoinAt.cl {ns ls : List Pr} {m p q t u : Nat} (h : JoinAt ns ls m p q t u) : joinCl ls m = jwo ls m p q (mn2 (t : Int) u, mx2 (t : Int) u) ls.length := by
  have hM : joinM ls m = (ls.set p (mn2 (t : Int) u, mx2 (t : Int) u)).take q ++ (ls.set p (mn2 (t : Int) u, mx2 (t : Int) u)).drop (q + 1) := by
    unfold joinM
    rw [h.at_]
    simp only [h.joinX]
  have hT : (ls.set p (mn2 (t : Int) u, mx2 (t : Int) u)).take ls.length = ls.set p (mn2 (t : Int) u, mx2 (t : Int) u) := List.take_of_length_le (by simp)
  unfold joinCl
  rw [hM, lwo_eq _ _ h.free _ (Nat.le_refl _), jwo_eq _ _ _ _ _ _ (Nat.le_refl _), List.take_length, hT, List.eraseIdx_eq_take_drop_succ]

theorem iJoin_any (vn vl : Value) (ns ls : List Pr) (k : Int) (w : World) (hn : RP w vn ns) (hl : RP w vl ls) (h1 : ns.length ≤ 1048576) (h2 : ls.length ≤ 1048576) :
    Calls Tryz.prog 184 #[.agg #[vn, vl], .int .i64 k] w (fun e w' => RetWB (joinN ns ls k) (joinL ns ls k) (joinB ns ls k) w e w') := by
  cases hs : straightB ns ls k
  · have EB : joinB ns ls k = false := by unfold joinB; rw [hs]; rfl
    have EN : joinN ns ls k = ns := by unfold joinN; rw [EB]; rfl
    have EL : joinL ns ls k = ls := by unfold joinL; rw [EB]; rfl
    rw [EB, EN, EL]
    exact iJoin_no vn vl ns ls k w hn hl h1 h2 hs
  · obtain ⟨m, p, q, t, u, rfl, hk, h⟩ := joinAt hs
    exact iJoin_str vn vl ns ls m p q t u w hn hl h1 h2 hs hk h.at_ h.hp h.hq h.ends h.bound

end Go.Proofs.YtoknmjpnelbplaaGreat
