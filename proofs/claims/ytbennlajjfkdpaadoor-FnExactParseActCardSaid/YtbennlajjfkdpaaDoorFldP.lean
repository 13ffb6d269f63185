/-
  Words of a text, plain.
-/
import Derived.Test.YtbennlajjfkdpaaDoorPuP
import Derived.Lib.Strings
import Derived.Lib.Join
set_option linter.unusedSimpArgs false
set_option linter.unusedVariables false
namespace Go.Proofs.YtbennlajjfkdpaaDoor
open Go.RowKit

/-- The words of a row of bytes; cur: the word under way. -/
def wds : List UInt8 → List UInt8 → List (List UInt8)
  | cur, [] => if cur = [] then [] else [cur]
  | cur, b :: r => if b = 32 then (if cur = [] then wds [] r else cur :: wds [] r) else wds (cur ++ [b]) r

theorem wds_word : ∀ (w cur r : List UInt8), 32 ∉ w → cur ++ w ≠ [] → wds cur (w ++ 32 :: r) = (cur ++ w) :: wds [] r
  | [], cur, r, _, h => by
    rw [List.append_nil] at h
    simp [wds, h]
  | b :: w, cur, r, hb, h => by
    have h1 : ¬ b = 32 := fun hc => hb (by simp [hc])
    have h2 : 32 ∉ w := fun hc => hb (by simp [hc])
    have h3 := wds_word w (cur ++ [b]) r h2 (by simp)
    rw [List.cons_append, wds, if_neg h1, h3]
    simp
theorem wds_last : ∀ (w cur : List UInt8), 32 ∉ w → cur ++ w ≠ [] → wds cur w = [cur ++ w]
  | [], cur, _, h => by
    rw [List.append_nil] at h ⊢
    simp [wds, h]
  | b :: w, cur, hb, h => by
    have h1 : ¬ b = 32 := fun hc => hb (by simp [hc])
    have h2 : 32 ∉ w := fun hc => hb (by simp [hc])
    have h3 := wds_last w (cur ++ [b]) h2 (by simp)
    rw [wds, if_neg h1, h3]
    simp

/-- Words joined by spaces. -/
def spcB : List (List UInt8) → List UInt8
  | [] => []
  | [w] => w
  | w :: v :: r => w ++ 32 :: spcB (v :: r)
def WordsOk (ws : List (List UInt8)) : Prop := ∀ w ∈ ws, w ≠ [] ∧ 32 ∉ w
theorem wds_join : ∀ ws : List (List UInt8), WordsOk ws → wds [] (spcB ws) = ws
  | [], _ => rfl
  | [w], h => by
    have := h w (by simp)
    rw [spcB, wds_last w [] this.2 (by simpa using this.1)]
    rfl
  | w :: v :: r, h => by
    have h1 := h w (by simp)
    have h2 := wds_join (v :: r) (fun x hx => h x (by simp at hx ⊢; exact .inr hx))
    rw [spcB, wds_word w [] _ h1.2 (by simpa using h1.1), h2]
    rfl
/-- One space more behind them. -/
theorem wds_join1 : ∀ ws : List (List UInt8), WordsOk ws → wds [] (spcB ws ++ [32]) = ws
  | [], _ => by simp [spcB, wds]
  | [w], h => by
    have := h w (by simp)
    rw [spcB, wds_word w [] [] this.2 (by simpa using this.1)]
    simp [wds]
  | w :: v :: r, h => by
    have h1 := h w (by simp)
    have h2 := wds_join1 (v :: r) (fun x hx => h x (by simp at hx ⊢; exact .inr hx))
    rw [spcB, List.append_assoc, List.cons_append, wds_word w [] _ h1.2 (by simpa using h1.1), h2]
    rfl
theorem join_inj {ws us : List (List UInt8)} (h1 : WordsOk ws) (h2 : WordsOk us) (h : spcB ws = spcB us) : ws = us := by
  rw [← wds_join ws h1, h, wds_join us h2]
theorem wds_ok : ∀ (l cur : List UInt8), 32 ∉ cur → WordsOk (wds cur l)
  | [], cur, h => by
    unfold wds
    split
    · intro w hw; cases hw
    · rename_i hc
      intro w hw
      rw [List.mem_singleton] at hw
      subst hw
      exact ⟨hc, h⟩
  | b :: r, cur, h => by
    unfold wds
    split
    · split
      · exact wds_ok r [] (by simp)
      · rename_i hc
        intro w hw
        rw [List.mem_cons] at hw
        rcases hw with rfl | hw
        · exact ⟨hc, h⟩
        · exact wds_ok r [] (by simp) w hw
    · rename_i hb
      exact wds_ok r (cur ++ [b]) (by simp; exact ⟨h, fun hc => hb hc.symm⟩)

theorem join_bj : ∀ ps : List (List UInt8), Lib.join ps [32] = spcB ps
  | [] => rfl
  | [w] => by rw [Lib.join_one]; rfl
  | w :: v :: r => by
    have ih := join_bj (v :: r)
    rw [Lib.join_cons] at ih ⊢
    rw [spcB, ← ih]
    simp [Lib.joinTail]

theorem spc_len (x : List UInt8) (r : List (List UInt8)) : (spcB (x :: r)).length ≤ x.length + 1 + (spcB r).length := by
  cases r with
  | nil => simp [spcB]
  | cons y r => rw [spcB, List.length_append, List.length_cons]; omega
theorem spc_mem : ∀ {ws : List (List UInt8)} {w : List UInt8}, w ∈ ws → w.length ≤ (spcB ws).length
  | [v], w, h => by
    rw [List.mem_singleton] at h
    subst h
    exact Nat.le_refl _
  | v :: u :: r, w, h => by
    rw [spcB, List.length_append, List.length_cons]
    rw [List.mem_cons] at h
    rcases h with rfl | h
    · omega
    · have := spc_mem h
      omega
theorem wds_len : ∀ (l cur : List UInt8), (spcB (wds cur l)).length ≤ cur.length + l.length
  | [], cur => by
    unfold wds
    split
    · simp [spcB]
    · simp [spcB]
  | b :: r, cur => by
    unfold wds
    split
    · have h1 := wds_len r []
      split
      · simp at h1 ⊢; omega
      · have h2 := spc_len cur (wds [] r)
        simp at h1 ⊢
        omega
    · have h1 := wds_len r (cur ++ [b])
      simp at h1 ⊢
      omega

/-- The words done before place i, and where the next one begins. -/
def fldK (s : ByteArray) : Nat → List ByteArray × Nat
  | 0 => ([], 0)
  | i + 1 => if i < s.size ∧ s.data.toList.getD i 0 ≠ 32 then fldK s i else (if (fldK s i).2 < i then (fldK s i).1 ++ [s.extract (fldK s i).2 i] else (fldK s i).1, i + 1)
theorem fld_beg (s : ByteArray) : ∀ i, (fldK s i).2 ≤ i
  | 0 => Nat.le_refl _
  | i + 1 => by
    have := fld_beg s i
    unfold fldK
    split
    · omega
    · exact Nat.le_refl _
theorem fld_cnt (s : ByteArray) : ∀ i, (fldK s i).1.length ≤ i
  | 0 => Nat.le_refl _
  | i + 1 => by
    have := fld_cnt s i
    unfold fldK
    split
    · omega
    · split
      · rw [List.length_append]; simp; omega
      · show (fldK s i).1.length ≤ i + 1
        omega
def bsL (s : ByteArray) : List UInt8 := s.data.toList
theorem ext_bs (s : ByteArray) (a b : Nat) : bsL (s.extract a b) = (s.data.toList.drop a).take (b - a) := by
  unfold bsL; rw [Lib.extract_data]
theorem ba_eq {x y : ByteArray} (h : bsL x = bsL y) : x = y := by
  rw [ba_list x _ rfl, ba_list y _ rfl]
  unfold bsL at h
  rw [h]
theorem fld_wds (s : ByteArray) : ∀ i, i ≤ s.size → (fldK s i).1.map bsL ++ wds ((s.data.toList.drop (fldK s i).2).take (i - (fldK s i).2)) (s.data.toList.drop i) = wds [] s.data.toList
  | 0, _ => by simp [fldK]
  | i + 1, h => by
    have ih := fld_wds s i (by omega)
    have hb := fld_beg s i
    have hsz : s.data.toList.length = s.size := by simp
    have hd : s.data.toList.drop i = s.data.toList[i]'(by omega) :: s.data.toList.drop (i + 1) := List.drop_eq_getElem_cons (by omega)
    have hg : s.data.toList.getD i 0 = s.data.toList[i]'(by omega) := by
      rw [List.getD_eq_getElem?_getD, List.getElem?_eq_getElem (by omega)]; rfl
    rw [hd] at ih
    unfold fldK
    by_cases hc : i < s.size ∧ s.data.toList.getD i 0 ≠ 32
    · rw [if_pos hc]
      have h1 := hc.2
      rw [hg] at h1
      rw [wds, if_neg h1] at ih
      rw [← ih]
      congr 2
      have e : i + 1 - (fldK s i).2 = (i - (fldK s i).2) + 1 := by omega
      rw [e, List.take_succ_eq_append_getElem (by rw [List.length_drop]; omega)]
      congr 2
      rw [List.getElem_drop]
      congr 1
      omega
    · rw [if_neg hc]
      have h1 : s.data.toList[i]'(by omega) = 32 := by
        rw [← hg]
        rcases Classical.em (s.data.toList.getD i 0 = 32) with h2 | h2
        · exact h2
        · exact absurd ⟨by omega, h2⟩ hc
      rw [wds, if_pos h1] at ih
      rw [← ih]
      simp only [Nat.sub_self, List.take_zero]
      by_cases hlt : (fldK s i).2 < i
      · have hne : ¬ (s.data.toList.drop (fldK s i).2).take (i - (fldK s i).2) = [] := by
          intro hc2
          have := congrArg List.length hc2
          rw [List.length_take, List.length_drop] at this
          simp at this
          omega
        rw [if_pos hlt, if_neg hne, List.map_append, List.map_singleton, ext_bs]
        simp
      · have he : (s.data.toList.drop (fldK s i).2).take (i - (fldK s i).2) = [] := by
          rw [show i - (fldK s i).2 = 0 by omega]; simp
        rw [if_neg hlt, if_pos he]

/-- All words of a text. -/
def fldL (s : ByteArray) : List ByteArray := (fldK s (s.size + 1)).1
theorem fldL_wds (s : ByteArray) : (fldL s).map bsL = wds [] s.data.toList := by
  have h := fld_wds s s.size (Nat.le_refl _)
  have hb := fld_beg s s.size
  have hsz : s.data.toList.length = s.size := by simp
  have hn : ¬ (s.size < s.size ∧ s.data.toList.getD s.size 0 ≠ 32) := by omega
  unfold fldL fldK
  rw [if_neg hn, ← h]
  have hd : s.data.toList.drop s.size = [] := List.drop_eq_nil_of_le (by omega)
  rw [hd, wds]
  by_cases hlt : (fldK s s.size).2 < s.size
  · have hne : ¬ (s.data.toList.drop (fldK s s.size).2).take (s.size - (fldK s s.size).2) = [] := by
      intro hc2
      have := congrArg List.length hc2
      rw [List.length_take, List.length_drop] at this
      simp at this
      omega
    rw [if_pos hlt, if_neg hne, List.map_append, List.map_singleton, ext_bs]
  · have he : (s.data.toList.drop (fldK s s.size).2).take (s.size - (fldK s s.size).2) = [] := by
      rw [show s.size - (fldK s s.size).2 = 0 by omega]; simp
    rw [if_neg hlt, if_pos he]
    simp
theorem fld_spc (s : ByteArray) : (spcB ((fldL s).map bsL)).length ≤ s.size := by
  have h := wds_len s.data.toList []
  rw [fldL_wds]
  simpa using h
theorem fld_word {s x : ByteArray} (h : x ∈ fldL s) : x.size ≤ s.size := by
  have h1 := spc_mem (List.mem_map_of_mem (f := bsL) h)
  have h2 := fld_spc s
  have h3 : (bsL x).length = x.size := by simp [bsL]
  omega
/-- A line that can be read: not long, plain bytes, few words. -/
def okBy (b : UInt8) : Bool := decide (32 ≤ b.toNat) && decide (b.toNat ≤ 126)
def fldB (s : ByteArray) : Bool := decide (s.size ≤ 600) && (s.data.toList.all okBy && decide ((fldL s).length ≤ 24))
theorem fldL_ok (s : ByteArray) : WordsOk ((fldL s).map bsL) := by rw [fldL_wds]; exact wds_ok _ [] (by simp)

end Go.Proofs.YtbennlajjfkdpaaDoor
