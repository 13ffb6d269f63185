/- part 34 -/
import Derived.Test.YtnjcpljhmhdhkaaGreatCPk33
import Derived.Deep.RegionHeld3
import Derived.Deep.DeepCutAuto
import Derived.BigRegion
set_option linter.unusedSimpArgs false
set_option linter.unusedVariables false
namespace Go.Proofs.YtnjcpljhmhdhkaaGreat
theorem fillRow_get (g : List Int) (f : List Nat) (k d : Nat) (hd : d < g.length) : ∀ j, j ≤ f.length → (fillRow g f k j).getD d 0 = if d ∈ f.take j then (k : Int) else g.getD d 0
  | 0, _ => by simp [fillRow]
  | j + 1, h => by
    have ih := fillRow_get g f k d hd j (by omega)
    have hl := fillRow_len g f k j
    have hf : f.getD j 0 = f[j] := by simp [List.getD, show j < f.length by omega]
    show ((fillRow g f k j).set (f.getD j 0) k).getD d 0 = _
    rw [hf, List.take_succ_eq_append_getElem (show j < f.length by omega)]
    by_cases he : f[j] = d
    · rw [he]
      have : d < (fillRow g f k j).length := by omega
      simp [List.getD, List.getElem?_set, this]
    · have h1 : ((fillRow g f k j).set f[j] (k : Int)).getD d 0 = (fillRow g f k j).getD d 0 := by
        simp [List.getD, List.getElem?_set, he]
      rw [h1, ih]
      have h2 : (d ∈ f.take j ++ [f[j]]) ↔ d ∈ f.take j := by
        rw [List.mem_append, List.mem_singleton]
        exact ⟨fun h => h.resolve_right (fun hc => he hc.symm), .inl⟩
      by_cases h3 : d ∈ f.take j
      · rw [if_pos h3, if_pos (h2.2 h3)]
      · rw [if_neg h3, if_neg (fun hc => h3 (h2.1 hc))]
theorem fillAll_get {F : List (List Nat)} (hnd : F.flatten.Nodup) {z : List Int} {d : Nat} (hd : d < z.length) (hm : d ∈ F.flatten) : ∀ k, k ≤ F.length → (fillAll F z k).getD d 0 = if faceI F d < k then (faceI F d : Int) else z.getD d 0
  | 0, _ => by simp [fillAll]
  | k + 1, h => by
    have ih := fillAll_get hnd hd hm k (by omega)
    have hl := fillAll_len F z k
    obtain ⟨s1, s2⟩ := faceI_spec hm
    show (fillRow (fillAll F z k) (F.getD k []) k (F.getD k []).length).getD d 0 = _
    rw [fillRow_get _ _ _ _ (by omega) _ (Nat.le_refl _), List.take_length, ih]
    by_cases he : faceI F d = k
    · rw [if_pos (by rw [← he]; exact s2), if_pos (by omega), he]
    · have hn : ¬ d ∈ F.getD k [] := fun hc => he (nodup_flatten_idx hnd s1 (by omega) s2 hc)
      rw [if_neg hn]
      by_cases h1 : faceI F d < k
      · rw [if_pos h1, if_pos (by omega)]
      · rw [if_neg h1, if_neg (by omega)]
theorem facesW_whole {ns ls : List Pr} (hw : wholeB ns ls = true) : facesW ns ls = facesD ns ls := by unfold facesW; rw [hw]; rfl
theorem sides_fc {ns ls : List Pr} (hw : wholeB ns ls = true) {d : Nat} (hd : d < 2 * ls.length) : (sidesL ns ls).getD d 0 = (fcD ns ls d : Int) := by
  obtain ⟨h, _⟩ := whole_win hw
  have hld := win_hld h
  obtain ⟨f1, f2, f3⟩ := facesK_all hld (2 * ls.length) (Nat.le_refl _)
  unfold sidesL
  rw [facesW_whole hw, fillAll_get (F := facesD ns ls) f2 (by simp; exact hd) (f1 d hd) _ (Nat.le_refl _), if_pos (show faceI (facesD ns ls) d < (facesD ns ls).length from fc_lt h hd)]
  rfl
noncomputable def adB (ns ls : List Pr) (f g : Nat) : Bool := @decide (adjF ns ls f g) (Classical.propDecidable _)
theorem adB_iff {ns ls : List Pr} {f g : Nat} : adB ns ls f g = true ↔ adjF ns ls f g := by unfold adB; simp
theorem adB_symm (ns ls : List Pr) (f g : Nat) : adB ns ls f g = adB ns ls g f := by
  rw [Bool.eq_iff_iff, adB_iff, adB_iff]
  exact ⟨adjF_symm, adjF_symm⟩
theorem adj_lead {ns ls : List Pr} (hw : wholeB ns ls = true) {f g : Nat} : adjF ns ls f g ↔ f ≠ g ∧ ∃ k, k < ls.length ∧ (((sidesL ns ls).getD (2 * k) 0 = (f : Int) ∧ (sidesL ns ls).getD (2 * k + 1) 0 = (g : Int)) ∨ ((sidesL ns ls).getD (2 * k) 0 = (g : Int) ∧ (sidesL ns ls).getD (2 * k + 1) 0 = (f : Int))) := by
  constructor
  · rintro ⟨d, hd, h1, h2, h3⟩
    refine ⟨h3, d / 2, by omega, ?_⟩
    rw [sides_fc hw (by omega), sides_fc hw (by omega)]
    rcases two_darts d with ⟨z1, z2⟩ | ⟨z1, z2⟩
    · left
      have e1 : fcD ns ls (2 * (d / 2)) = f := (congrArg (fcD ns ls) z1).symm.trans h1
      have e2 : fcD ns ls (2 * (d / 2) + 1) = g := (congrArg (fcD ns ls) z2).symm.trans h2
      rw [e1, e2]; exact ⟨rfl, rfl⟩
    · right
      have e1 : fcD ns ls (2 * (d / 2) + 1) = f := (congrArg (fcD ns ls) z1).symm.trans h1
      have e2 : fcD ns ls (2 * (d / 2)) = g := (congrArg (fcD ns ls) z2).symm.trans h2
      rw [e1, e2]; exact ⟨rfl, rfl⟩
  · rintro ⟨h3, k, hk, h⟩
    rw [sides_fc hw (by omega), sides_fc hw (by omega)] at h
    have t0 : twin (2 * k) = 2 * k + 1 := by unfold twin; rw [if_pos (by omega)]
    have t1 : twin (2 * k + 1) = 2 * k := by unfold twin; rw [if_neg (by omega)]; omega
    rcases h with ⟨a, b⟩ | ⟨a, b⟩
    · exact ⟨2 * k, by omega, by omega, by rw [t0]; omega, h3⟩
    · exact ⟨2 * k + 1, by omega, by omega, by rw [t1]; omega, h3⟩
noncomputable def colorO (ns ls : List Pr) (n : Int) : Option (List Int) := if wholeB ns ls && inB n 1 6 then srch (adB ns ls) (List.replicate (facesD ns ls).length (-1)) n.toNat (facesD ns ls).length [] else none
theorem color_proper {ns ls : List Pr} {n : Int} {L : List Int} (h : colorO ns ls n = some L) : properB ns ls L = true := by
  unfold colorO at h
  split at h
  · rename_i hc
    rw [Bool.and_eq_true] at hc
    obtain ⟨hw, hn⟩ := hc
    rw [inB_true] at hn
    obtain ⟨W, _⟩ := whole_win hw
    obtain ⟨e1, _, e3, e4⟩ := srch_some _ [] L h (fun j hj => by simp at hj) (fun j hj => by simp at hj)
    have hlen : L.length = (facesD ns ls).length := by simpa using e1
    have hcb : colorsB ns ls L = true := by
      unfold colorsB
      rw [hw, facesW_whole hw, hlen]
      simp only [Bool.true_and, decide_true]
      rw [inAll_true]
      intro j hj
      have := e3 j hj
      rw [inB_true]
      omega
    have hcl : ∀ m k, k + m ≤ ls.length → clashF ns ls L m k = -1 := by
      intro m
      induction m with
      | zero => intro k _; rfl
      | succ m ih =>
        intro k hk
        unfold clashF
        have hno : ¬ clashP ns ls L k = true := by
          intro hc
          unfold clashP at hc
          rw [Bool.and_eq_true, decide_eq_true_eq, decide_eq_true_eq, sides_fc hw (by omega), sides_fc hw (by omega), Int.toNat_natCast, Int.toNat_natCast] at hc
          obtain ⟨c1, c2⟩ := hc
          have l0 := fc_lt W (show 2 * k < 2 * ls.length by omega)
          have l1 := fc_lt W (show 2 * k + 1 < 2 * ls.length by omega)
          have t0 : twin (2 * k) = 2 * k + 1 := by unfold twin; rw [if_pos (by omega)]
          have ha : adjF ns ls (fcD ns ls (2 * k)) (fcD ns ls (2 * k + 1)) := ⟨2 * k, by omega, rfl, by rw [t0], fun hc => c1 (by rw [hc])⟩
          rcases Nat.lt_trichotomy (fcD ns ls (2 * k)) (fcD ns ls (2 * k + 1)) with g | g | g
          · exact e4 _ _ g (by omega) (adB_iff.2 ha) c2
          · exact c1 (by rw [g])
          · exact e4 _ _ g (by omega) (adB_iff.2 (adjF_symm ha)) c2.symm
        rw [if_neg hno]
        exact ih (k + 1) (by omega)
    unfold properB
    rw [hcb]
    simp only [Bool.true_and, decide_eq_true_eq]
    unfold clashI
    rw [if_pos hcb, hcl _ 0 (by omega)]
    omega
  · cases h
end Go.Proofs.YtnjcpljhmhdhkaaGreat

namespace Go.Proofs.YtnjcpljhmhdhkaaGreat
def setN (l : List Nat) (a b : Nat) : List Nat := l.set a (l.getD a 0 ||| 2 ^ b)
def nearK (s : List Int) (F : Nat) : Nat → List Nat
  | 0 => List.replicate F 0
  | k + 1 => if s.getD (2 * k) 0 = s.getD (2 * k + 1) 0 then nearK s F k else setN (setN (nearK s F k) (s.getD (2 * k) 0).toNat (s.getD (2 * k + 1) 0).toNat) (s.getD (2 * k + 1) 0).toNat (s.getD (2 * k) 0).toNat
def setT (l : List (List Bool)) (a b : Nat) : List (List Bool) := l.set a ((l.getD a []).set b true)
def besK (s : List Int) (F : Nat) : Nat → List (List Bool)
  | 0 => List.replicate F (List.replicate F false)
  | k + 1 => if s.getD (2 * k) 0 = s.getD (2 * k + 1) 0 then besK s F k else setT (setT (besK s F k) (s.getD (2 * k) 0).toNat (s.getD (2 * k + 1) 0).toNat) (s.getD (2 * k + 1) 0).toNat (s.getD (2 * k) 0).toNat
theorem nearK_succ (s : List Int) (F k : Nat) : nearK s F (k + 1) = if s.getD (2 * k) 0 = s.getD (2 * k + 1) 0 then nearK s F k else setN (setN (nearK s F k) (s.getD (2 * k) 0).toNat (s.getD (2 * k + 1) 0).toNat) (s.getD (2 * k + 1) 0).toNat (s.getD (2 * k) 0).toNat := rfl
theorem besK_succ (s : List Int) (F k : Nat) : besK s F (k + 1) = if s.getD (2 * k) 0 = s.getD (2 * k + 1) 0 then besK s F k else setT (setT (besK s F k) (s.getD (2 * k) 0).toNat (s.getD (2 * k + 1) 0).toNat) (s.getD (2 * k + 1) 0).toNat (s.getD (2 * k) 0).toNat := rfl
theorem setN_len (l : List Nat) (a b : Nat) : (setN l a b).length = l.length := by simp [setN]
theorem setN_get {l : List Nat} {a b f : Nat} (hf : f < l.length) : (setN l a b).getD f 0 = if f = a then l.getD a 0 ||| 2 ^ b else l.getD f 0 := by
  by_cases h : f = a
  · subst h; simp [setN, List.getD, List.getElem?_set, hf]
  · have h' : ¬ a = f := fun e => h e.symm
    simp [setN, List.getD, List.getElem?_set, h, h']
theorem setN_bit {l : List Nat} {a b f g : Nat} (hf : f < l.length) : ((setN l a b).getD f 0).testBit g = ((l.getD f 0).testBit g || (decide (f = a) && decide (b = g))) := by
  rw [setN_get hf]
  by_cases h : f = a
  · subst h; simp [Nat.testBit_or, Nat.testBit_two_pow]
  · simp [h]
theorem setN_lt {l : List Nat} {a b m : Nat} (hb : b < m) (h : ∀ f, f < l.length → l.getD f 0 < 2 ^ m) : ∀ f, f < (setN l a b).length → (setN l a b).getD f 0 < 2 ^ m := by
  intro f hf
  rw [setN_len] at hf
  rw [setN_get hf]
  split
  · rename_i e; subst e
    exact Nat.or_lt_two_pow (h _ hf) (Nat.pow_lt_pow_right (by omega) hb)
  · exact h f hf
theorem nearK_len (s : List Int) (F : Nat) : ∀ k, (nearK s F k).length = F
  | 0 => by simp [nearK]
  | k + 1 => by
    rw [nearK_succ]
    split
    · exact nearK_len s F k
    · rw [setN_len, setN_len]; exact nearK_len s F k
theorem setT_len (l : List (List Bool)) (a b : Nat) : (setT l a b).length = l.length := by simp [setT]
theorem setT_get {l : List (List Bool)} {a b f : Nat} (hf : f < l.length) : (setT l a b).getD f [] = if f = a then (l.getD a []).set b true else l.getD f [] := by
  by_cases h : f = a
  · subst h; simp [setT, List.getD, List.getElem?_set, hf]
  · have h' : ¬ a = f := fun e => h e.symm
    simp [setT, List.getD, List.getElem?_set, h, h']
theorem setT_row {l : List (List Bool)} {a b F : Nat} (h : ∀ f, f < l.length → (l.getD f []).length = F) : ∀ f, f < (setT l a b).length → ((setT l a b).getD f []).length = F := by
  intro f hf
  rw [setT_len] at hf
  rw [setT_get hf]
  split
  · rename_i e; subst e
    simp only [List.length_set]; exact h _ hf
  · exact h f hf
theorem setT_bit {l : List (List Bool)} {a b f g : Nat} (hf : f < l.length) (hg : g < (l.getD f []).length) : ((setT l a b).getD f []).getD g false = ((l.getD f []).getD g false || (decide (f = a) && decide (b = g))) := by
  rw [setT_get hf]
  by_cases h : f = a
  · subst h
    by_cases e : b = g
    · subst e; simp [List.getD, List.getElem?_set] at hg ⊢; simp [hg]
    · simp [List.getD, List.getElem?_set, e]
  · simp [h]
theorem besK_len (s : List Int) (F : Nat) : ∀ k, (besK s F k).length = F
  | 0 => by simp [besK]
  | k + 1 => by
    rw [besK_succ]
    split
    · exact besK_len s F k
    · rw [setT_len, setT_len]; exact besK_len s F k
theorem besK_row (s : List Int) (F : Nat) : ∀ k f, f < F → ((besK s F k).getD f []).length = F
  | 0, f, hf => by simp [besK, List.getD, hf]
  | k + 1, f, hf => by
    have ih : ∀ f, f < (besK s F k).length → ((besK s F k).getD f []).length = F := fun f hf => besK_row s F k f (by rw [besK_len] at hf; exact hf)
    rw [besK_succ]
    split
    · exact besK_row s F k f hf
    · exact setT_row (setT_row ih) f (by rw [setT_len, setT_len, besK_len]; exact hf)
def besP (s : List Int) (k f g : Nat) : Prop := ∃ j, j < k ∧ s.getD (2 * j) 0 ≠ s.getD (2 * j + 1) 0 ∧ (((s.getD (2 * j) 0).toNat = f ∧ (s.getD (2 * j + 1) 0).toNat = g) ∨ ((s.getD (2 * j) 0).toNat = g ∧ (s.getD (2 * j + 1) 0).toNat = f))
theorem besP_succ {s : List Int} {k f g : Nat} : besP s (k + 1) f g ↔ besP s k f g ∨ (s.getD (2 * k) 0 ≠ s.getD (2 * k + 1) 0 ∧ (((s.getD (2 * k) 0).toNat = f ∧ (s.getD (2 * k + 1) 0).toNat = g) ∨ ((s.getD (2 * k) 0).toNat = g ∧ (s.getD (2 * k + 1) 0).toNat = f))) := by
  constructor
  · rintro ⟨j, hj, h⟩
    by_cases e : j = k
    · subst e; exact .inr h
    · exact .inl ⟨j, by omega, h⟩
  · rintro (⟨j, hj, h⟩ | h)
    · exact ⟨j, by omega, h⟩
    · exact ⟨k, by omega, h⟩
theorem nearK_bit (s : List Int) (F : Nat) : ∀ k f g, f < F → (((nearK s F k).getD f 0).testBit g = true ↔ besP s k f g)
  | 0, f, g, hf => by
    simp [nearK, List.getD, hf, besP]
  | k + 1, f, g, hf => by
    have ih := nearK_bit s F k f g hf
    rw [besP_succ, ← ih]
    rw [nearK_succ]
    split
    · rename_i e
      exact ⟨.inl, fun h => h.resolve_right (fun q => q.1 e)⟩
    · rename_i e
      rw [setN_bit (by rw [setN_len, nearK_len]; exact hf), setN_bit (by rw [nearK_len]; exact hf)]
      simp only [Bool.or_eq_true, Bool.and_eq_true, decide_eq_true_eq]
      constructor
      · rintro ((h | ⟨h1, h2⟩) | ⟨h1, h2⟩)
        · exact .inl h
        · exact .inr ⟨e, .inl ⟨h1.symm, h2⟩⟩
        · exact .inr ⟨e, .inr ⟨h2, h1.symm⟩⟩
      · rintro (h | ⟨_, ⟨h1, h2⟩ | ⟨h1, h2⟩⟩)
        · exact .inl (.inl h)
        · exact .inl (.inr ⟨h1.symm, h2⟩)
        · exact .inr ⟨h2.symm, h1⟩
theorem besK_bit (s : List Int) (F : Nat) : ∀ k f g, f < F → g < F → (((besK s F k).getD f []).getD g false = true ↔ besP s k f g)
  | 0, f, g, hf, hg => by
    simp [besK, List.getD, hf, hg, besP]
  | k + 1, f, g, hf, hg => by
    have ih := besK_bit s F k f g hf hg
    rw [besP_succ, ← ih]
    have hr : ∀ f, f < (besK s F k).length → ((besK s F k).getD f []).length = F := fun f hf => besK_row s F k f (by rw [besK_len] at hf; exact hf)
    rw [besK_succ]
    split
    · rename_i e
      exact ⟨.inl, fun h => h.resolve_right (fun q => q.1 e)⟩
    · rename_i e
      rw [setT_bit (by rw [setT_len, besK_len]; exact hf) (by rw [setT_row hr f (by rw [setT_len, besK_len]; exact hf)]; exact hg), setT_bit (by rw [besK_len]; exact hf) (by rw [besK_row s F k f hf]; exact hg)]
      simp only [Bool.or_eq_true, Bool.and_eq_true, decide_eq_true_eq]
      constructor
      · rintro ((h | ⟨h1, h2⟩) | ⟨h1, h2⟩)
        · exact .inl h
        · exact .inr ⟨e, .inl ⟨h1.symm, h2⟩⟩
        · exact .inr ⟨e, .inr ⟨h2, h1.symm⟩⟩
      · rintro (h | ⟨_, ⟨h1, h2⟩ | ⟨h1, h2⟩⟩)
        · exact .inl (.inl h)
        · exact .inl (.inr ⟨h1.symm, h2⟩)
        · exact .inr ⟨h2.symm, h1⟩
theorem nearK_lt (s : List Int) (F : Nat) : ∀ k, (∀ j, j < 2 * k → 0 ≤ s.getD j 0 ∧ s.getD j 0 < F) → ∀ f, f < F → (nearK s F k).getD f 0 < 2 ^ F
  | 0, _, f, hf => by simp [nearK, List.getD, hf]; exact Nat.two_pow_pos F
  | k + 1, h, f, hf => by
    have ih := nearK_lt s F k (fun j hj => h j (by omega))
    have h0 := h (2 * k) (by omega)
    have h1 := h (2 * k + 1) (by omega)
    have ih' : ∀ f, f < (nearK s F k).length → (nearK s F k).getD f 0 < 2 ^ F := fun f hf => ih f (by rw [nearK_len] at hf; exact hf)
    rw [nearK_succ]
    split
    · exact ih f hf
    · exact setN_lt (by omega) (setN_lt (by omega) ih') f (by rw [setN_len, setN_len, nearK_len]; exact hf)
noncomputable def nearW (ns ls : List Pr) : List Nat := nearK (sidesL ns ls) (facesD ns ls).length ls.length
noncomputable def besW (ns ls : List Pr) : List (List Bool) := besK (sidesL ns ls) (facesD ns ls).length ls.length
theorem sides_lt {ns ls : List Pr} (hw : wholeB ns ls = true) {j : Nat} (hj : j < 2 * ls.length) : 0 ≤ (sidesL ns ls).getD j 0 ∧ (sidesL ns ls).getD j 0 < (facesD ns ls).length := by
  obtain ⟨W, _⟩ := whole_win hw
  have := fc_lt W hj
  rw [sides_fc hw hj]
  omega
theorem besP_adj {ns ls : List Pr} (hw : wholeB ns ls = true) {f g : Nat} : besP (sidesL ns ls) ls.length f g ↔ adjF ns ls f g := by
  rw [adj_lead hw]
  constructor
  · rintro ⟨j, hj, hne, h⟩
    have a := sides_lt hw (show 2 * j < 2 * ls.length by omega)
    have b := sides_lt hw (show 2 * j + 1 < 2 * ls.length by omega)
    refine ⟨?_, j, hj, ?_⟩
    · rcases h with ⟨h1, h2⟩ | ⟨h1, h2⟩ <;> omega
    · rcases h with ⟨h1, h2⟩ | ⟨h1, h2⟩
      · left; omega
      · right; omega
  · rintro ⟨hne, j, hj, h⟩
    refine ⟨j, hj, ?_, ?_⟩
    · rcases h with ⟨h1, h2⟩ | ⟨h1, h2⟩ <;> omega
    · rcases h with ⟨h1, h2⟩ | ⟨h1, h2⟩
      · left; omega
      · right; omega
theorem near_bit {ns ls : List Pr} (hw : wholeB ns ls = true) {f g : Nat} (hf : f < (facesD ns ls).length) : ((nearW ns ls).getD f 0).testBit g = adB ns ls f g := by
  rw [Bool.eq_iff_iff, adB_iff, ← besP_adj hw]
  exact nearK_bit _ _ _ f g hf
theorem bes_bit {ns ls : List Pr} (hw : wholeB ns ls = true) {f g : Nat} (hf : f < (facesD ns ls).length) (hg : g < (facesD ns ls).length) : ((besW ns ls).getD f []).getD g false = adB ns ls f g := by
  rw [Bool.eq_iff_iff, adB_iff, ← besP_adj hw]
  exact besK_bit _ _ _ f g hf hg
theorem near_lt {ns ls : List Pr} (hw : wholeB ns ls = true) {f : Nat} (hf : f < (facesD ns ls).length) : (nearW ns ls).getD f 0 < 2 ^ (facesD ns ls).length :=
  nearK_lt _ _ _ (fun j hj => sides_lt hw hj) f hf
end Go.Proofs.YtnjcpljhmhdhkaaGreat

namespace Go.Proofs.YtnjcpljhmhdhkaaGreat
open Go.RowKit
theorem natI_rep (n : Nat) : natI (List.replicate n 0) = List.replicate n 0 := by simp [natI]
theorem natI_set (l : List Nat) (a x : Nat) : natI (l.set a x) = (natI l).set a (x : Int) := by simp [natI, List.map_set]
theorem nearK_same {s : List Int} {F k : Nat} (h : s.getD (2 * k) 0 = s.getD (2 * k + 1) 0) : nearK s F (k + 1) = nearK s F k := by simp only [nearK]; rw [if_pos h]
theorem nearK_diff {s : List Int} {F k a b : Nat} (ha : s.getD (2 * k) 0 = (a : Int)) (hb : s.getD (2 * k + 1) 0 = (b : Int)) (h : a ≠ b) : nearK s F (k + 1) = setN (setN (nearK s F k) a b) b a := by
  simp only [nearK]; rw [if_neg (by omega), ha, hb, Int.toNat_natCast, Int.toNat_natCast]
set_option maxHeartbeats 16000000 in
set_option maxRecDepth 100000 in
theorem iNear_any (vn vl : Value) (ns ls : List Pr) (w : World) (hn : RP w vn ns) (hl : RP w vl ls) (hw : wholeB ns ls = true) :
    Calls Tryz.prog 254 #[.agg #[vn, vl]] w (RetI (natI (nearW ns ls)) w) := by
  have hb0 : Below w.heap.size w (w.alloc (.cells #[vn, vl] 27)) := by exact bel_
  have hW0 : Blk (w.alloc (.cells #[vn, vl] 27)) w.heap.size 27 #[vn, vl] := Blk.newAt rfl
  obtain ⟨i0, hi, iz0, iz1, iz2⟩ := info_parts infoInt
  have hfp := face_pos hw
  have hm20 := (whole_win hw).1.2.2.1
  have hfl := facesW_len ns ls
  have hwf := facesW_whole hw
  have HBD := Lib.hid (fun d (hd : d < 2 * ls.length) => sidesL_bd (ns := ns) (ls := ls) hfp hd)
  have HSL := Lib.hid (sidesL_len ns ls)
  have HSI : Hid (sidesI ns ls = sidesL ns ls) := Lib.hid (by unfold sidesI; rw [hw]; rfl)
  have HR : Hid (nearW ns ls = nearK (sidesL ns ls) (facesW ns ls).length ls.length) := Lib.hid (by unfold nearW; rw [hwf])
  have HLT : Hid (∀ k, k ≤ ls.length → ∀ f, f < (facesW ns ls).length → (nearK (sidesL ns ls) (facesW ns ls).length k).getD f 0 < 2 ^ (facesW ns ls).length) := Lib.hid (fun k hk f hf => nearK_lt _ _ k (fun j hj => by
    obtain ⟨p, h1, h2⟩ := sidesL_bd (ns := ns) (ls := ls) hfp (d := j) (by omega)
    rw [h1]; omega) f hf)
  have HLN := Lib.hid (fun k => nearK_len (sidesL ns ls) (facesW ns ls).length k)
  have HSA := Lib.hid (fun k h => nearK_same (s := sidesL ns ls) (F := (facesW ns ls).length) (k := k) h)
  have HDI := Lib.hid (fun k a b ha hb h => nearK_diff (s := sidesL ns ls) (F := (facesW ns ls).length) (k := k) (a := a) (b := b) ha hb h)
  have HZ : Hid (nearK (sidesL ns ls) (facesW ns ls).length 0 = List.replicate (facesW ns ls).length 0) := Lib.hid rfl
  clear hwf hw
  go_enter Tryz.func254, Tryz.ntmps254
  go_wp2_with fail
  refine (iSides_any _ _ ns ls _ (hn.below hb0) (hl.below hb0)).mono ?_
  rw [HSI.out]
  rintro e w1 ⟨v1, rfl, ho1, hb1⟩
  have hbw1 := hb0.trans (hb1.mono hb0.size)
  have hW1 := hW0.below hb1 hW0.lt
  have hs1 := ho1.reads
  clear hb1 ho1 hb0 hW0
  obtain ⟨a_0, a_1⟩ := hW1.c2
  have hz1 := hW1.lt
  go_wp2_with fail
  refine (iFaces_any _ _ ns ls _ (hn.below hbw1) (hl.below hbw1)).mono ?_
  rintro e w2 ⟨v2, rfl, ho2, hb2⟩
  have hbw2 := hbw1.trans (hb2.mono hbw1.size)
  have hs2 := hs1.below hb2
  have hz2 : w.heap.size < w2.heap.size := Nat.lt_of_lt_of_le hz1 hb2.size
  obtain ⟨A2, c2, rfl⟩ := ho2.form
  obtain ⟨As, cS, rfl, hcs, hms, hcells⟩ := hs2.form
  rw [HSL.out] at hcells ⊢
  clear hs1 hb2 ho2 hbw1 hW1 a_0 a_1 hz1 hs2 hcs hms hn hl
  generalize (facesW ns ls).length = F at *
  generalize sidesL ns ls = s at *
  go_wp2_with (at_make; refine wpList_make_full _ rfl _ _ 31 rfl (w.heap.size + 1) 3 i0 (.int .i64 0) 1 Tryz.underlying31 hi iz0 iz1 .i64 .i64 _ _ F rfl rfl rfl rfl (by rw [iz2]; omega) (by unfold maxLen; omega) (by omega) ?_)
  intro w3 hown1 hgr1
  have hB3 : Below w2.heap.size w2 w3 := (Below.refl _ _).grown hgr1 (Nat.le_refl _) (by intro k hk; cases hk)
  have hsn : OwnI (w.heap.size + 1) w3 (.slice (some ⟨w2.heap.size, 0, none⟩) F F) (natI (nearK s F 0)) := by
    rw [HZ.out, natI_rep]
    unfold OwnI
    rw [List.length_replicate, ← madeI]; exact hown1
  have hgsz := (OwnI.lt hsn _ rfl).2
  obtain ⟨gs, hgs⟩ : ∃ g, w2.heap.size = g := ⟨_, rfl⟩
  rw [hgs] at hB3 hsn hgsz hz2 ⊢
  have HGS := Lib.hid hgs
  clear hown1 hgr1 hgs i0 hi iz0 iz1 iz2
  go_wp2
  go_loopw [5] (fun x wr => ∃ k : Nat, k ≤ ls.length ∧ x = .int .i64 k ∧ OwnI (w.heap.size + 1) wr (.slice (some ⟨gs, 0, none⟩) F F) (natI (nearK s F k)) ∧ Below gs w2 wr) (fun x _ => ls.length - (intOf x).toNat)
  case atStart => exact ⟨0, Nat.zero_le _, rfl, hsn, hB3⟩
  case round =>
    clear hsn hB3 hgsz
    obtain ⟨k, hk, rfl, ho, hB⟩ := hrel
    have ew : IntKind.i64.wrap (2 * (k : Int)) = ((2 * k : Nat) : Int) := by rw [show 2 * (k : Int) = ((2 * k : Nat) : Int) by omega]; exact IntWalk.i64_in _ (by omega)
    by_cases hlt : k < ls.length
    · obtain ⟨b, off, rfl, hb, hcl2⟩ := hcells (by omega)
      obtain ⟨p, hp, hpF⟩ := HBD.out (2 * k) (by omega)
      obtain ⟨q, hq, hqF⟩ := HBD.out (2 * k + 1) (by omega)
      rw [HGS.out] at hb
      have hx0 := (hB.cell (p := ⟨b, off + 2 * k, none⟩) hb).trans (hcl2 (2 * k) (by omega))
      have hx1 := (hB.cell (p := ⟨b, off + (2 * k + 1), none⟩) hb).trans (hcl2 (2 * k + 1) (by omega))
      rw [hp] at hx0
      rw [hq] at hx1
      have hbz : b < wr.heap.size := by have := hB.size; rw [HGS.out] at this; omega
      have e1w : IntKind.i64.wrap (((2 * k : Nat) : Int) + 1) = ((2 * k + 1 : Nat) : Int) := by rw [show ((2 * k : Nat) : Int) + 1 = ((2 * k + 1 : Nat) : Int) by omega]; exact IntWalk.i64_in _ (by omega)
      have i0 : (0 : Int) ≤ ((2 * k : Nat) : Int) := by omega
      have i1 : ((2 * k : Nat) : Int) < ((2 * ls.length : Nat) : Int) := by omega
      have i2 : (0 : Int) ≤ ((2 * k + 1 : Nat) : Int) := by omega
      have i3 : ((2 * k + 1 : Nat) : Int) < ((2 * ls.length : Nat) : Int) := by omega
      have i4 : (0 : Int) ≤ (p : Int) := by omega
      have i5 : (p : Int) < (F : Int) := by omega
      have i6 : (0 : Int) ≤ (q : Int) := by omega
      have i7 : (q : Int) < (F : Int) := by omega
      have HSA1 := Lib.hid (HSA.out k)
      have HDI1 := Lib.hid (HDI.out k p q hp hq)
      rw [hp, hq] at HSA1
      have hgl := (OwnI.lt ho gs rfl).2
      clear hcl2 hcells hp hq
      by_cases hpq : p = q
      · have e1 : ((p : Int) == (q : Int)) = true := beq_iff_eq.2 (by omega)
        have e2 : ((p : Int) != (q : Int)) = false := by rw [bne, e1]; rfl
        have HX := Lib.hid (HSA1.out (by omega))
        clear hpq
        go_wp2_with fail
        (refine wp_region_quietG (by kernel_rfl) (by kernel_rfl) (fun hG => ?_))
        repeat (go_big_quiet_step (fail))
        refine wpQuiet_nil ?_
        clear hG
        rintro w5 ⟨⟨_, hs5⟩, rfl⟩
        have HO := Lib.hid (show OwnI (w.heap.size + 1) w5 (.slice (some ⟨gs, 0, none⟩) F F) (natI (nearK s F (k + 1))) by rw [HX.out]; exact ho.kept hs5)
        have HB := Lib.hid (hB.trans (hs5.mono (by omega)))
        clear ho hB hx0 hx1
        go_wp2
        go_roundw
        case rel => exact ⟨k + 1, by omega, by go_num, HO.out, HB.out⟩
        case measure => simp [intOf]; omega
      · have e1 : ((p : Int) == (q : Int)) = false := beq_eq_false_iff_ne.2 (by omega)
        have e2 : ((p : Int) != (q : Int)) = true := by rw [bne, e1]; rfl
        have HX := Lib.hid (HDI1.out hpq)
        have hF62 : (2 : Nat) ^ F ≤ 2 ^ 40 := Nat.pow_le_pow_right (by omega) (by omega)
        have hLp := HLT.out k hk p hpF
        have hLq := HLT.out k hk q hqF
        have hll := HLN.out k
        generalize nearK s F k = L at *
        have xp := shl64 (k := p) (by omega)
        have xq := shl64 (k := q) (by omega)
        have Pp : 2 ^ p < 2 ^ 40 := Nat.pow_lt_pow_right (by omega) (by omega)
        have Pq : 2 ^ q < 2 ^ 40 := Nat.pow_lt_pow_right (by omega) (by omega)
        have o1 := bits_or_nat (a := L.getD p 0) (b := 2 ^ q) (by omega) (by omega)
        have o2 := bits_or_nat (a := L.getD q 0) (b := 2 ^ p) (by omega) (by omega)
        have hq64 : q < 64 := by omega
        have hp64 : p < 64 := by omega
        have HGQ : Hid ((setN L p q).getD q 0 = L.getD q 0) := Lib.hid (by rw [setN_get (by omega), if_neg (fun e => hpq e.symm)])
        clear hLp hLq Pp Pq hF62
        go_wp2_with fail
        (refine wp_region_quietG (by kernel_rfl) (by kernel_rfl) (fun hG => ?_))
        repeat (go_big_quiet_step (fail))
        refine wpQuiet_nil ?_
        clear hG
        rintro w5 ⟨⟨_, hs5⟩, rfl⟩
        have ho5 := ho.kept hs5
        have hB5 := hB.trans (hs5.mono (by omega))
        have hgl5 := (OwnI.lt ho5 gs rfl).2
        clear ho hB hx0 hx1 hgl hs5
        have hcp : w5.cell? ⟨gs, p, none⟩ = some (.int .i64 (L.getD p 0 : Nat)) := by
          rw [OwnE.cell (t := 3) (enc := vI) ho5 0 (q := p) (by rw [natI_length, hll]; exact hpF), natI_get]; rfl
        have fp := OwnE.frz (t := 3) (enc := vI) ho5 p
        have HS1 : Hid (OwnI (w.heap.size + 1) (w5.setCell ⟨gs, p, none⟩ (.int .i64 ((L.getD p 0 ||| 2 ^ q : Nat) : Int))) (.slice (some ⟨gs, 0, none⟩) F F) (natI (setN L p q))) := Lib.hid (by unfold setN; rw [natI_set]; exact own_set ho5 p _)
        have HB1 := Lib.hid (hB5.setCell (p := ⟨gs, p, none⟩) (Nat.le_refl _) (.int .i64 ((L.getD p 0 ||| 2 ^ q : Nat) : Int)))
        generalize hO1 : L.getD p 0 ||| 2 ^ q = O1 at *
        generalize hP2 : ((2 ^ q : Nat) : Int) = Q2 at *
        generalize L.getD p 0 = lp at *
        clear ho5 hB5 hO1 hP2
        go_wp2_with fail
        go_cut [] (fun wx => OwnI (w.heap.size + 1) wx (.slice (some ⟨gs, 0, none⟩) F F) (natI (setN L p q)) ∧ Below gs w2 wx)
        case first =>
          go_region
          all_goals go_wp2
          all_goals go_meet
          all_goals exact ⟨HS1.out, HB1.out.drew⟩
        case rest =>
          obtain ⟨ho6, hB6⟩ := hcut
          obtain ⟨w6, hw6⟩ : ∃ u, u = wc := ⟨_, rfl⟩
          subst hw6
          have hgl6 := (OwnI.lt ho6 gs rfl).2
          have hcq : w6.cell? ⟨gs, q, none⟩ = some (.int .i64 (L.getD q 0 : Nat)) := by
            rw [OwnE.cell (t := 3) (enc := vI) ho6 0 (q := q) (by rw [natI_length, setN_len, hll]; exact hqF), natI_get, HGQ.out]; rfl
          have fq := OwnE.frz (t := 3) (enc := vI) ho6 q
          have HS2 : Hid (OwnI (w.heap.size + 1) (w6.setCell ⟨gs, q, none⟩ (.int .i64 ((L.getD q 0 ||| 2 ^ p : Nat) : Int))) (.slice (some ⟨gs, 0, none⟩) F F) (natI (nearK s F (k + 1)))) := Lib.hid (by rw [HX.out]; unfold setN; rw [natI_set, show (L.set p (L.getD p 0 ||| 2 ^ q)).getD q 0 = L.getD q 0 from HGQ.out]; exact own_set ho6 q _)
          have HB2 := Lib.hid (hB6.setCell (p := ⟨gs, q, none⟩) (Nat.le_refl _) (.int .i64 ((L.getD q 0 ||| 2 ^ p : Nat) : Int)))
          generalize hO2 : L.getD q 0 ||| 2 ^ p = O2 at *
          generalize hP3 : ((2 ^ p : Nat) : Int) = P2 at *
          generalize L.getD q 0 = lq at *
          clear ho6 hB6 hO2 hP3 hcp fp HS1 HB1
          go_wp2_with fail
          go_region
          all_goals go_wp2
          all_goals go_roundw
          case rel => exact ⟨k + 1, by omega, by go_num, HS2.out, HB2.out.drew⟩
          case measure => simp [intOf]; omega
    · have hkk : k = ls.length := by omega
      subst hkk
      have HB := Lib.hid (hbw2.trans (Below.mono (by rw [HGS.out]; exact hB) hbw2.size))
      go_wp2
      go_ret
      exact ⟨_, rfl, by rw [HR.out]; exact OwnI.mono ho (by omega), HB.out⟩
end Go.Proofs.YtnjcpljhmhdhkaaGreat

namespace Go.Proofs.YtnjcpljhmhdhkaaGreat
open Go.RowKit
def rowV (F : Nat) (g : Nat) : Value := .slice (some ⟨g, 0, none⟩) F F
structure OwnTab (base : Nat) (w : World) (v : Value) (F : Nat) (gs : List Nat) (T : List (List Bool)) : Prop where
  out : OwnE 182 (rowV F) base w v gs
  len : gs.length = T.length
  nd : gs.Nodup
  row : ∀ k, k < T.length → OwnE 4 Value.bool base w (rowV F (gs.getD k 0)) (T.getD k [])
section
variable {base : Nat} {w w' : World} {v v' : Value} {F : Nat} {gs : List Nat} {T : List (List Bool)}
theorem OwnTab.kept (h : OwnTab base w v F gs T) (hb : Below w.heap.size w w') : OwnTab base w' v F gs T := ⟨h.out.kept hb, h.len, h.nd, fun k hk => (h.row k hk).kept hb⟩
theorem tyB_ne : 4 ≠ 182 := by decide
theorem tyB_ne' : 182 ≠ 4 := by decide
theorem gs_lt (h : OwnTab base w v F gs T) {k : Nat} (hk : k < T.length) : base ≤ gs.getD k 0 ∧ gs.getD k 0 < w.heap.size := (h.row k hk).lt _ rfl
theorem gs_ne (h : OwnTab base w v F gs T) {j k : Nat} (hj : j < T.length) (hk : k < T.length) (hne : j ≠ k) : gs.getD j 0 ≠ gs.getD k 0 := by
  have hl := h.len
  rw [List.getD_eq_getElem?_getD, List.getD_eq_getElem?_getD, List.getElem?_eq_getElem (show j < gs.length by omega), List.getElem?_eq_getElem (show k < gs.length by omega)]
  intro e
  have hp := List.pairwise_iff_getElem.1 (List.nodup_iff_pairwise_ne.1 h.nd)
  have e' : gs[j]'(by omega) = gs[k]'(by omega) := e
  rcases Nat.lt_trichotomy j k with q | q | q
  · exact hp j k (by omega) (by omega) q e'
  · exact hne q
  · exact hp k j (by omega) (by omega) q e'.symm
theorem OwnTab.snoc {g : Nat} {r : List Bool} (h : OwnTab base w v F gs T) (hr : OwnE 4 Value.bool base w (rowV F g) r) (hg : ∀ k, k < T.length → gs.getD k 0 ≠ g) (hgr : w.grownBy w' v.ownBlock)
    (ho : w'.ownsRow base 182 1 v' (T.length + 1) (gs.map (rowV F) ++ [rowV F g])) : OwnTab base w' v' F (gs ++ [g]) (T ++ [r]) := by
  have hl := h.len
  refine ⟨?_, by simp [hl], ?_, fun k hk => ?_⟩
  · have e : (gs ++ [g]).map (rowV F) = gs.map (rowV F) ++ [rowV F g] := by simp
    unfold OwnE
    rw [e, List.length_append, List.length_singleton, hl]
    exact ho
  · rw [List.nodup_append]
    refine ⟨h.nd, by simp, fun a ha b hb => ?_⟩
    rw [List.mem_singleton] at hb
    subst hb
    obtain ⟨k, hk, e⟩ := List.getElem_of_mem ha
    have := hg k (by omega)
    rw [List.getD_eq_getElem?_getD, List.getElem?_eq_getElem hk] at this
    rw [← e]; exact this
  · rw [List.length_append, List.length_singleton] at hk
    have kp : ∀ x zs, OwnE 4 Value.bool base w x zs → OwnE 4 Value.bool base w' x zs := fun x zs hx => OwnE.other hx h.out tyB_ne hgr
    by_cases e : k = T.length
    · subst e
      rw [List.getD_eq_getElem?_getD, List.getElem?_append_right (by omega), hl, Nat.sub_self, List.getD_eq_getElem?_getD, List.getElem?_append_right (Nat.le_refl _), Nat.sub_self]
      exact kp _ _ hr
    · have hlt : k < T.length := by omega
      have e1 : (gs ++ [g]).getD k 0 = gs.getD k 0 := by rw [List.getD_eq_getElem?_getD, List.getD_eq_getElem?_getD, List.getElem?_append_left (by omega)]
      have e2 : (T ++ [r]).getD k [] = T.getD k [] := by rw [List.getD_eq_getElem?_getD, List.getD_eq_getElem?_getD, List.getElem?_append_left hlt]
      rw [e1, e2]
      exact kp _ _ (h.row k hlt)
theorem OwnTab.set_ (h : OwnTab base w v F gs T) {a : Nat} (ha : a < T.length) (b : Nat) (x : Bool) : OwnTab base (w.setCell ⟨gs.getD a 0, b, none⟩ (.bool x)) v F gs (T.set a ((T.getD a []).set b x)) := by
  have hra := h.row a ha
  have hg : w.grownBy (w.setCell ⟨gs.getD a 0, b, none⟩ (.bool x)) (some (gs.getD a 0)) := grown_set (grown_refl _ _) b _
  refine ⟨OwnE.other h.out hra tyB_ne' hg, by simp [h.len], h.nd, fun k hk => ?_⟩
  rw [List.length_set] at hk
  by_cases e : k = a
  · subst e
    have e2 : (T.set k ((T.getD k []).set b x)).getD k [] = (T.getD k []).set b x := by simp [List.getD_eq_getElem?_getD, List.getElem?_set, hk]
    rw [e2]
    exact OwnE.set_ hra b x
  · have e' : ¬ a = k := fun q => e q.symm
    have e2 : (T.set a ((T.getD a []).set b x)).getD k [] = T.getD k [] := by simp [List.getD_eq_getElem?_getD, List.getElem?_set, e']
    rw [e2]
    refine World.ownsRow.kept (h.row k hk) hg (.inr ?_)
    intro q
    have q' : gs.getD k 0 = gs.getD a 0 := by injection q
    exact gs_ne h hk ha e q'
theorem OwnTab.cell {g n cap : Nat} (h : OwnTab base w (.slice (some ⟨g, 0, none⟩) n cap) F gs T) {k : Nat} (hk : k < T.length) : w.cell? ⟨g, k, none⟩ = some (.slice (some ⟨gs.getD k 0, 0, none⟩) F F) :=
  OwnE.cell h.out 0 (by rw [h.len]; exact hk)
theorem OwnTab.cell2 (h : OwnTab base w v F gs T) {k j : Nat} (hk : k < T.length) (hj : j < (T.getD k []).length) : w.cell? ⟨gs.getD k 0, j, none⟩ = some (.bool ((T.getD k []).getD j false)) :=
  OwnE.cell (h.row k hk) false hj
theorem OwnTab.blk (h : OwnTab base w v F gs T) (hn : 0 < T.length) : ∃ g c, v = .slice (some ⟨g, 0, none⟩) gs.length c ∧ base ≤ g ∧ g < w.heap.size := by
  rcases h.out.2 with ⟨_, h0⟩ | ⟨g, cap, cur, rfl, hb, _⟩
  · have := h.len; omega
  · exact ⟨g, cap, rfl, hb, (h.out.lt g rfl).2⟩
theorem OwnTab.apart (h : OwnTab base w v F gs T) {k g : Nat} (hk : k < T.length) (hg : v.ownBlock = some g) : g ≠ gs.getD k 0 := by
  have hr := h.row k hk
  rcases h.out.2 with ⟨rfl, _⟩ | ⟨g1, cap, cur, rfl, _, hh, _⟩
  · cases hg
  · rcases hr.2 with ⟨e, _⟩ | ⟨g2, cap2, cur2, e, _, hh2, _⟩
    · cases e
    · injection e with e1 _ _
      injection e1 with e1
      injection e1 with e1 _
      injection hg with hg
      have hg' : g1 = g := hg
      intro e3
      rw [← hg'] at e3
      rw [e3, e1, hh2] at hh
      injection hh with hh
      injection hh with _ hh _
      exact tyB_ne hh
theorem OwnTab.frz2 (h : OwnTab base w v F gs T) {k : Nat} (hk : k < T.length) (j : Nat) : w.frozen? ⟨gs.getD k 0, j, none⟩ = false := OwnE.frz (h.row k hk) j
end
def TabAt (w : World) (b off F : Nat) (adj : Nat → Nat → Bool) : Prop := b < w.heap.size ∧ ∀ i, i < F → ∃ bi, bi < w.heap.size ∧ w.cell? ⟨b, off + i, none⟩ = some (.slice (some ⟨bi, 0, none⟩) F F) ∧ ∀ j, j < F → w.cell? ⟨bi, j, none⟩ = some (.bool (adj i j))
theorem TabAt.below {w w' : World} {b off F : Nat} {adj : Nat → Nat → Bool} (h : TabAt w b off F adj) (hb : Below w.heap.size w w') : TabAt w' b off F adj := by
  refine ⟨Nat.lt_of_lt_of_le h.1 hb.size, fun i hi => ?_⟩
  obtain ⟨bi, h1, h2, h3⟩ := h.2 i hi
  exact ⟨bi, Nat.lt_of_lt_of_le h1 hb.size, (hb.cell (p := ⟨b, off + i, none⟩) h.1).trans h2, fun j hj => (hb.cell (p := ⟨bi, j, none⟩) h1).trans (h3 j hj)⟩
end Go.Proofs.YtnjcpljhmhdhkaaGreat

namespace Go.Proofs.YtnjcpljhmhdhkaaGreat
open Go.RowKit
theorem OwnI.blk {base : Nat} {w : World} {u : Value} {zs : List Int} (h : OwnI base w u zs) (h0 : 0 < zs.length) : ∃ g c, u = .slice (some ⟨g, 0, none⟩) zs.length c ∧ zs.length ≤ c ∧ base ≤ g ∧ g < w.heap.size ∧ ∀ q, q < zs.length → w.cell? ⟨g, q, none⟩ = some (.int .i64 (zs.getD q 0)) := by
  rcases h.2 with ⟨_, hn⟩ | ⟨g, cap, cur, rfl, hb, hh, hc, _⟩
  · omega
  · exact ⟨g, cap, rfl, hc, hb, (h.lt g rfl).2, fun q hq => h.cell hq⟩
theorem wpList_append_i {w : World} {ops : Array Oper} {rest : List Oper} {o : Oper} {a : Act} {Q : Exit → Act → World → Prop} (hgd : o.guard = none) (s x : Operand)
    (ho : o.op = .call { callee := .builtin .append, args := #[s, x], argTypes := #[31, 31] })
    (base : Nat) (v : Value) (zs : List Int) (z : Int) (hs : a.eval s = v) (g : Nat) (hx : a.eval x = .slice (some ⟨g, 0, none⟩) 1 1) (hg : w.cell? ⟨g, 0, none⟩ = some (.int .i64 z))
    (hown : OwnI base w v zs) (hlen : zs.length ≤ 1048576) (hbase : base ≤ w.heap.size)
    (h : ∀ v' w', OwnI base w' v' (zs ++ [z]) → w.grownBy w' v.ownBlock → (v'.ownBlock = v.ownBlock ∨ v'.ownBlock = some w.heap.size) → wpList Tryz.prog ops Q rest (a.put o.dst v') w') : wpList Tryz.prog ops Q (o :: rest) a w := by
  obtain ⟨i, hi, hz, hsize, hby⟩ := info_parts infoInt
  exact wpList_append_own_at w hgd s x 31 ho base 3 i (.int .i64 0) 1 8 Tryz.underlying31 hi hz hsize hby rfl (by decide) v zs.length _ hs hown ⟨g, 0, none⟩ 1 1 [.int .i64 z] hx rfl
    (fun j y hj => by
      match j, hj with
      | 0, hj => cases hj; exact hg
      | j + 1, hj => simp at hj)
    (by intro y hy; simp at hy; subst hy; rfl) (by unfold maxLen; omega) (by omega) hbase fun v' w' e1 e2 _ e3 => h v' w' (OwnI.snoc e1) e2 e3
end Go.Proofs.YtnjcpljhmhdhkaaGreat
