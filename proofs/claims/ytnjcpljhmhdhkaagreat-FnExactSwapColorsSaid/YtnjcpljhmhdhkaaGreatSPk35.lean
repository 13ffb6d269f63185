/- part 35 -/
import Derived.Test.YtnjcpljhmhdhkaaGreatSPk34
set_option linter.unusedSimpArgs false
set_option linter.unusedVariables false
set_option linter.unusedSectionVars false
namespace Go.Proofs.YtnjcpljhmhdhkaaGreat
namespace Swp
variable {m n : Nat} (S : Swp m n)
noncomputable def lab (x : Nat) : Nat := labE (S.eAll (n - 1)) x
noncomputable def gap (fw : Bool) (s j : Nat) : Nat := if fw then S.off s + S.pos s j + 1 else S.off s + S.pos s j
inductive Turn (s : Nat) : Bool → Nat → Bool → Nat → Prop
  | upL {j j' : Nat} (h : S.b j = s) (h' : S.b j' = s) (hb : S.Bel j j') (hn : ∀ k, k < m → S.b k = s → ¬ (S.Bel j k ∧ S.Bel k j')) : Turn s true j false j'
  | backL {j j' : Nat} (h : S.b j = s) (h' : S.b j' = s) (hj : ∀ i, i < m → S.b i = s → ¬ S.Bel j i) (hj' : ∀ i, i < m → S.b i = s → ¬ S.Bel i j') (hn : ∀ i, i < m → S.a i ≠ s) : Turn s true j false j'
  | over {j j' : Nat} (h : S.b j = s) (h' : S.a j' = s) (hj : ∀ i, i < m → S.b i = s → ¬ S.Bel j i) (hj' : ∀ i, i < m → S.a i = s → ¬ S.Bel j' i) : Turn s true j true j'
  | downR {j j' : Nat} (h : S.a j = s) (h' : S.a j' = s) (hb : S.Bel j' j) (hn : ∀ k, k < m → S.a k = s → ¬ (S.Bel j' k ∧ S.Bel k j)) : Turn s false j true j'
  | backR {j j' : Nat} (h : S.a j = s) (h' : S.a j' = s) (hj : ∀ i, i < m → S.a i = s → ¬ S.Bel i j) (hj' : ∀ i, i < m → S.a i = s → ¬ S.Bel j' i) (hn : ∀ i, i < m → S.b i ≠ s) : Turn s false j true j'
  | under {j j' : Nat} (h : S.a j = s) (h' : S.b j' = s) (hj : ∀ i, i < m → S.a i = s → ¬ S.Bel i j) (hj' : ∀ i, i < m → S.b i = s → ¬ S.Bel i j') : Turn s false j false j'
end Swp
end Go.Proofs.YtnjcpljhmhdhkaaGreat

namespace Go.Proofs.YtnjcpljhmhdhkaaGreat
def Xp (p : Pr) : Int := 42 * p.1 + 2 * p.2
theorem win_lead {ns ls : List Pr} (h : WinOk ns ls) {j : Nat} (hj : j < ls.length) : leadB ns (ndI ls j) = true := (h.2.2.2.2.2 j hj).1
def ptN (ns : List Pr) (v : Nat) : Pr := ndI ns v
def lN (ns ls : List Pr) (j : Nat) : Nat := if Xp (ndI ns (dFrom ls (2 * j))) < Xp (ndI ns (dTo ls (2 * j))) then (dFrom ls (2 * j)).toNat else (dTo ls (2 * j)).toNat
def rN (ns ls : List Pr) (j : Nat) : Nat := if Xp (ndI ns (dFrom ls (2 * j))) < Xp (ndI ns (dTo ls (2 * j))) then (dTo ls (2 * j)).toNat else (dFrom ls (2 * j)).toNat
section
variable {ns ls : List Pr} (h : WinOk ns ls)
include h
end
def Hts (ns ls : List Pr) (P : Int) (A B : Nat → Int) : Prop :=
  0 < P ∧ ∀ j, j < ls.length → A j * Xp (ptN ns (lN ns ls j)) + B j = P * (ptN ns (lN ns ls j)).2 ∧ A j * Xp (ptN ns (rN ns ls j)) + B j = P * (ptN ns (rN ns ls j)).2
section
variable {ns ls : List Pr} {P : Int} {A B : Nat → Int} (h : WinOk ns ls) (hh : Hts ns ls P A B)
include h hh
end
end Go.Proofs.YtnjcpljhmhdhkaaGreat

namespace Go.Proofs.YtnjcpljhmhdhkaaGreat
def faceI (F : List (List Nat)) (d : Nat) : Nat := F.findIdx (·.contains d)
theorem faceI_spec {F : List (List Nat)} {d : Nat} (h : d ∈ F.flatten) : faceI F d < F.length ∧ d ∈ F.getD (faceI F d) [] := by
  rw [List.mem_flatten] at h
  obtain ⟨f, hf, hd⟩ := h
  have h1 : faceI F d < F.length := List.findIdx_lt_length_of_exists ⟨f, hf, by simpa using hd⟩
  refine ⟨h1, ?_⟩
  have h2 : (F[faceI F d]'h1).contains d = true := List.findIdx_getElem (w := h1)
  rw [List.getD, List.getElem?_eq_getElem h1]
  simpa using h2
theorem nodup_flatten_idx : ∀ {F : List (List Nat)}, F.flatten.Nodup → ∀ {i j d : Nat}, i < F.length → j < F.length → d ∈ F.getD i [] → d ∈ F.getD j [] → i = j
  | [], _, i, j, d, hi, _, _, _ => absurd hi (by simp)
  | f :: F, hn, i, j, d, hi, hj, h1, h2 => by
    rw [List.flatten_cons, List.nodup_append] at hn
    obtain ⟨_, hn2, hn3⟩ := hn
    have mem : ∀ k, k < F.length → d ∈ F.getD k [] → d ∈ F.flatten := fun k hk hd => by
      rw [List.mem_flatten]
      rw [List.getD, List.getElem?_eq_getElem hk] at hd
      exact ⟨F[k], List.getElem_mem hk, by simpa using hd⟩
    match i, j with
    | 0, 0 => rfl
    | 0, j + 1 => exact absurd rfl (hn3 d (by simpa using h1) d (mem j (by simpa using hj) (by simpa using h2)))
    | i + 1, 0 => exact absurd rfl (hn3 d (by simpa using h2) d (mem i (by simpa using hi) (by simpa using h1)))
    | i + 1, j + 1 => rw [nodup_flatten_idx hn2 (show i < F.length by simpa using hi) (show j < F.length by simpa using hj) (by simpa using h1) (by simpa using h2)]
section
variable {ns ls : List Pr} (hld : ∀ j : Nat, j < ls.length → leadB ns (ndI ls j) = true)
include hld
end
section
variable {ns ls : List Pr} (hld : ∀ j : Nat, j < ls.length → leadB ns (ndI ls j) = true)
include hld
end
end Go.Proofs.YtnjcpljhmhdhkaaGreat

namespace Go.Proofs.YtnjcpljhmhdhkaaGreat
def fcD (ns ls : List Pr) (d : Nat) : Nat := faceI (facesD ns ls) d
section
variable {ns ls : List Pr} (h : WinOk ns ls)
include h
theorem win_hld : ∀ j : Nat, j < ls.length → leadB ns (ndI ls j) = true := fun j hj => win_lead h hj
theorem fc_lt {d : Nat} (hd : d < 2 * ls.length) : fcD ns ls d < (facesD ns ls).length :=
  (faceI_spec ((facesK_all (win_hld h) (2 * ls.length) (Nat.le_refl _)).1 d hd)).1
end
section
variable {ns ls : List Pr} {k : Nat} (h : WinOk ns ls) (hk : k < ls.length)
include h hk
end
end Go.Proofs.YtnjcpljhmhdhkaaGreat

namespace Go.Proofs.YtnjcpljhmhdhkaaGreat
noncomputable def dgN (ls : List Pr) (v : Nat) : Nat := cn (2 * ls.length) (fun d => dFrom ls d = (v : Int))
def adjF (ns ls : List Pr) (f g : Nat) : Prop := ∃ d, d < 2 * ls.length ∧ fcD ns ls d = f ∧ fcD ns ls (twin d) = g ∧ f ≠ g
def d3 (ls : List Pr) (d : Nat) : Prop := 3 ≤ dgN ls (dFrom ls d).toNat
theorem adjF_symm {ns ls : List Pr} {f g : Nat} (h : adjF ns ls f g) : adjF ns ls g f := by
  obtain ⟨d, h1, h2, h3, h4⟩ := h
  exact ⟨twin d, twin_lt h1, h3, by rw [twin_twin]; exact h2, fun hc => h4 hc.symm⟩
section
variable {ns ls : List Pr} (h : WinOk ns ls)
include h
end
theorem two_darts (d : Nat) : (d = 2 * (d / 2) ∧ twin d = 2 * (d / 2) + 1) ∨ (d = 2 * (d / 2) + 1 ∧ twin d = 2 * (d / 2)) := by
  unfold twin
  by_cases h : d % 2 = 0
  · left; rw [if_pos h]; omega
  · right; rw [if_neg h]; omega
end Go.Proofs.YtnjcpljhmhdhkaaGreat

namespace Go.Proofs.YtnjcpljhmhdhkaaGreat
theorem fillRow_get (g : List Int) (f : List Nat) (k d : Nat) (hd : d < g.length) : ∀ j, j ≤ f.length → (fillRow g f k j).getD d 0 = if d ∈ f.take j then (k : Int) else g.getD d 0
  | 0, _ => by simp [fillRow]
  | j + 1, h => by
    have ih := fillRow_get g f k d hd j (by omega)
    have hl := fillRow_len g f k j
    have hf : f.getD j 0 = f[j] := by simp [List.getD, show j < f.length by omega]
    show ((fillRow g f k j).set (f.getD j 0) k).getD d 0 = _
    rw [hf, List.take_succ_eq_append_getElem (show j < f.length by omega)]
    by_cases he : f[j] = d
    · rw [he]
      have : d < (fillRow g f k j).length := by omega
      simp [List.getD, List.getElem?_set, this]
    · have h1 : ((fillRow g f k j).set f[j] (k : Int)).getD d 0 = (fillRow g f k j).getD d 0 := by
        simp [List.getD, List.getElem?_set, he]
      rw [h1, ih]
      have h2 : (d ∈ f.take j ++ [f[j]]) ↔ d ∈ f.take j := by
        rw [List.mem_append, List.mem_singleton]
        exact ⟨fun h => h.resolve_right (fun hc => he hc.symm), .inl⟩
      by_cases h3 : d ∈ f.take j
      · rw [if_pos h3, if_pos (h2.2 h3)]
      · rw [if_neg h3, if_neg (fun hc => h3 (h2.1 hc))]
theorem fillAll_get {F : List (List Nat)} (hnd : F.flatten.Nodup) {z : List Int} {d : Nat} (hd : d < z.length) (hm : d ∈ F.flatten) : ∀ k, k ≤ F.length → (fillAll F z k).getD d 0 = if faceI F d < k then (faceI F d : Int) else z.getD d 0
  | 0, _ => by simp [fillAll]
  | k + 1, h => by
    have ih := fillAll_get hnd hd hm k (by omega)
    have hl := fillAll_len F z k
    obtain ⟨s1, s2⟩ := faceI_spec hm
    show (fillRow (fillAll F z k) (F.getD k []) k (F.getD k []).length).getD d 0 = _
    rw [fillRow_get _ _ _ _ (by omega) _ (Nat.le_refl _), List.take_length, ih]
    by_cases he : faceI F d = k
    · rw [if_pos (by rw [← he]; exact s2), if_pos (by omega), he]
    · have hn : ¬ d ∈ F.getD k [] := fun hc => he (nodup_flatten_idx hnd s1 (by omega) s2 hc)
      rw [if_neg hn]
      by_cases h1 : faceI F d < k
      · rw [if_pos h1, if_pos (by omega)]
      · rw [if_neg h1, if_neg (by omega)]
theorem facesW_whole {ns ls : List Pr} (hw : wholeB ns ls = true) : facesW ns ls = facesD ns ls := by unfold facesW; rw [hw]; rfl
theorem sides_fc {ns ls : List Pr} (hw : wholeB ns ls = true) {d : Nat} (hd : d < 2 * ls.length) : (sidesL ns ls).getD d 0 = (fcD ns ls d : Int) := by
  obtain ⟨h, _⟩ := whole_win hw
  have hld := win_hld h
  obtain ⟨f1, f2, f3⟩ := facesK_all hld (2 * ls.length) (Nat.le_refl _)
  unfold sidesL
  rw [facesW_whole hw, fillAll_get (F := facesD ns ls) f2 (by simp; exact hd) (f1 d hd) _ (Nat.le_refl _), if_pos (show faceI (facesD ns ls) d < (facesD ns ls).length from fc_lt h hd)]
  rfl
noncomputable def adB (ns ls : List Pr) (f g : Nat) : Bool := @decide (adjF ns ls f g) (Classical.propDecidable _)
theorem adB_iff {ns ls : List Pr} {f g : Nat} : adB ns ls f g = true ↔ adjF ns ls f g := by unfold adB; simp
theorem adB_symm (ns ls : List Pr) (f g : Nat) : adB ns ls f g = adB ns ls g f := by
  rw [Bool.eq_iff_iff, adB_iff, adB_iff]
  exact ⟨adjF_symm, adjF_symm⟩
theorem adj_lead {ns ls : List Pr} (hw : wholeB ns ls = true) {f g : Nat} : adjF ns ls f g ↔ f ≠ g ∧ ∃ k, k < ls.length ∧ (((sidesL ns ls).getD (2 * k) 0 = (f : Int) ∧ (sidesL ns ls).getD (2 * k + 1) 0 = (g : Int)) ∨ ((sidesL ns ls).getD (2 * k) 0 = (g : Int) ∧ (sidesL ns ls).getD (2 * k + 1) 0 = (f : Int))) := by
  constructor
  · rintro ⟨d, hd, h1, h2, h3⟩
    refine ⟨h3, d / 2, by omega, ?_⟩
    rw [sides_fc hw (by omega), sides_fc hw (by omega)]
    rcases two_darts d with ⟨z1, z2⟩ | ⟨z1, z2⟩
    · left
      have e1 : fcD ns ls (2 * (d / 2)) = f := (congrArg (fcD ns ls) z1).symm.trans h1
      have e2 : fcD ns ls (2 * (d / 2) + 1) = g := (congrArg (fcD ns ls) z2).symm.trans h2
      rw [e1, e2]; exact ⟨rfl, rfl⟩
    · right
      have e1 : fcD ns ls (2 * (d / 2) + 1) = f := (congrArg (fcD ns ls) z1).symm.trans h1
      have e2 : fcD ns ls (2 * (d / 2)) = g := (congrArg (fcD ns ls) z2).symm.trans h2
      rw [e1, e2]; exact ⟨rfl, rfl⟩
  · rintro ⟨h3, k, hk, h⟩
    rw [sides_fc hw (by omega), sides_fc hw (by omega)] at h
    have t0 : twin (2 * k) = 2 * k + 1 := by unfold twin; rw [if_pos (by omega)]
    have t1 : twin (2 * k + 1) = 2 * k := by unfold twin; rw [if_neg (by omega)]; omega
    rcases h with ⟨a, b⟩ | ⟨a, b⟩
    · exact ⟨2 * k, by omega, by omega, by rw [t0]; omega, h3⟩
    · exact ⟨2 * k + 1, by omega, by omega, by rw [t1]; omega, h3⟩
end Go.Proofs.YtnjcpljhmhdhkaaGreat

namespace Go.Proofs.YtnjcpljhmhdhkaaGreat
def setN (l : List Nat) (a b : Nat) : List Nat := l.set a (l.getD a 0 ||| 2 ^ b)
def nearK (s : List Int) (F : Nat) : Nat → List Nat
  | 0 => List.replicate F 0
  | k + 1 => if s.getD (2 * k) 0 = s.getD (2 * k + 1) 0 then nearK s F k else setN (setN (nearK s F k) (s.getD (2 * k) 0).toNat (s.getD (2 * k + 1) 0).toNat) (s.getD (2 * k + 1) 0).toNat (s.getD (2 * k) 0).toNat
def setT (l : List (List Bool)) (a b : Nat) : List (List Bool) := l.set a ((l.getD a []).set b true)
def besK (s : List Int) (F : Nat) : Nat → List (List Bool)
  | 0 => List.replicate F (List.replicate F false)
  | k + 1 => if s.getD (2 * k) 0 = s.getD (2 * k + 1) 0 then besK s F k else setT (setT (besK s F k) (s.getD (2 * k) 0).toNat (s.getD (2 * k + 1) 0).toNat) (s.getD (2 * k + 1) 0).toNat (s.getD (2 * k) 0).toNat
theorem nearK_succ (s : List Int) (F k : Nat) : nearK s F (k + 1) = if s.getD (2 * k) 0 = s.getD (2 * k + 1) 0 then nearK s F k else setN (setN (nearK s F k) (s.getD (2 * k) 0).toNat (s.getD (2 * k + 1) 0).toNat) (s.getD (2 * k + 1) 0).toNat (s.getD (2 * k) 0).toNat := rfl
theorem besK_succ (s : List Int) (F k : Nat) : besK s F (k + 1) = if s.getD (2 * k) 0 = s.getD (2 * k + 1) 0 then besK s F k else setT (setT (besK s F k) (s.getD (2 * k) 0).toNat (s.getD (2 * k + 1) 0).toNat) (s.getD (2 * k + 1) 0).toNat (s.getD (2 * k) 0).toNat := rfl
theorem setN_len (l : List Nat) (a b : Nat) : (setN l a b).length = l.length := by simp [setN]
theorem setN_get {l : List Nat} {a b f : Nat} (hf : f < l.length) : (setN l a b).getD f 0 = if f = a then l.getD a 0 ||| 2 ^ b else l.getD f 0 := by
  by_cases h : f = a
  · subst h; simp [setN, List.getD, List.getElem?_set, hf]
  · have h' : ¬ a = f := fun e => h e.symm
    simp [setN, List.getD, List.getElem?_set, h, h']
theorem setN_bit {l : List Nat} {a b f g : Nat} (hf : f < l.length) : ((setN l a b).getD f 0).testBit g = ((l.getD f 0).testBit g || (decide (f = a) && decide (b = g))) := by
  rw [setN_get hf]
  by_cases h : f = a
  · subst h; simp [Nat.testBit_or, Nat.testBit_two_pow]
  · simp [h]
theorem setN_lt {l : List Nat} {a b m : Nat} (hb : b < m) (h : ∀ f, f < l.length → l.getD f 0 < 2 ^ m) : ∀ f, f < (setN l a b).length → (setN l a b).getD f 0 < 2 ^ m := by
  intro f hf
  rw [setN_len] at hf
  rw [setN_get hf]
  split
  · rename_i e; subst e
    exact Nat.or_lt_two_pow (h _ hf) (Nat.pow_lt_pow_right (by omega) hb)
  · exact h f hf
theorem nearK_len (s : List Int) (F : Nat) : ∀ k, (nearK s F k).length = F
  | 0 => by simp [nearK]
  | k + 1 => by
    rw [nearK_succ]
    split
    · exact nearK_len s F k
    · rw [setN_len, setN_len]; exact nearK_len s F k
theorem setT_len (l : List (List Bool)) (a b : Nat) : (setT l a b).length = l.length := by simp [setT]
theorem setT_get {l : List (List Bool)} {a b f : Nat} (hf : f < l.length) : (setT l a b).getD f [] = if f = a then (l.getD a []).set b true else l.getD f [] := by
  by_cases h : f = a
  · subst h; simp [setT, List.getD, List.getElem?_set, hf]
  · have h' : ¬ a = f := fun e => h e.symm
    simp [setT, List.getD, List.getElem?_set, h, h']
theorem setT_row {l : List (List Bool)} {a b F : Nat} (h : ∀ f, f < l.length → (l.getD f []).length = F) : ∀ f, f < (setT l a b).length → ((setT l a b).getD f []).length = F := by
  intro f hf
  rw [setT_len] at hf
  rw [setT_get hf]
  split
  · rename_i e; subst e
    simp only [List.length_set]; exact h _ hf
  · exact h f hf
theorem setT_bit {l : List (List Bool)} {a b f g : Nat} (hf : f < l.length) (hg : g < (l.getD f []).length) : ((setT l a b).getD f []).getD g false = ((l.getD f []).getD g false || (decide (f = a) && decide (b = g))) := by
  rw [setT_get hf]
  by_cases h : f = a
  · subst h
    by_cases e : b = g
    · subst e; simp [List.getD, List.getElem?_set] at hg ⊢; simp [hg]
    · simp [List.getD, List.getElem?_set, e]
  · simp [h]
theorem besK_len (s : List Int) (F : Nat) : ∀ k, (besK s F k).length = F
  | 0 => by simp [besK]
  | k + 1 => by
    rw [besK_succ]
    split
    · exact besK_len s F k
    · rw [setT_len, setT_len]; exact besK_len s F k
theorem besK_row (s : List Int) (F : Nat) : ∀ k f, f < F → ((besK s F k).getD f []).length = F
  | 0, f, hf => by simp [besK, List.getD, hf]
  | k + 1, f, hf => by
    have ih : ∀ f, f < (besK s F k).length → ((besK s F k).getD f []).length = F := fun f hf => besK_row s F k f (by rw [besK_len] at hf; exact hf)
    rw [besK_succ]
    split
    · exact besK_row s F k f hf
    · exact setT_row (setT_row ih) f (by rw [setT_len, setT_len, besK_len]; exact hf)
def besP (s : List Int) (k f g : Nat) : Prop := ∃ j, j < k ∧ s.getD (2 * j) 0 ≠ s.getD (2 * j + 1) 0 ∧ (((s.getD (2 * j) 0).toNat = f ∧ (s.getD (2 * j + 1) 0).toNat = g) ∨ ((s.getD (2 * j) 0).toNat = g ∧ (s.getD (2 * j + 1) 0).toNat = f))
theorem besP_succ {s : List Int} {k f g : Nat} : besP s (k + 1) f g ↔ besP s k f g ∨ (s.getD (2 * k) 0 ≠ s.getD (2 * k + 1) 0 ∧ (((s.getD (2 * k) 0).toNat = f ∧ (s.getD (2 * k + 1) 0).toNat = g) ∨ ((s.getD (2 * k) 0).toNat = g ∧ (s.getD (2 * k + 1) 0).toNat = f))) := by
  constructor
  · rintro ⟨j, hj, h⟩
    by_cases e : j = k
    · subst e; exact .inr h
    · exact .inl ⟨j, by omega, h⟩
  · rintro (⟨j, hj, h⟩ | h)
    · exact ⟨j, by omega, h⟩
    · exact ⟨k, by omega, h⟩
theorem nearK_bit (s : List Int) (F : Nat) : ∀ k f g, f < F → (((nearK s F k).getD f 0).testBit g = true ↔ besP s k f g)
  | 0, f, g, hf => by
    simp [nearK, List.getD, hf, besP]
  | k + 1, f, g, hf => by
    have ih := nearK_bit s F k f g hf
    rw [besP_succ, ← ih]
    rw [nearK_succ]
    split
    · rename_i e
      exact ⟨.inl, fun h => h.resolve_right (fun q => q.1 e)⟩
    · rename_i e
      rw [setN_bit (by rw [setN_len, nearK_len]; exact hf), setN_bit (by rw [nearK_len]; exact hf)]
      simp only [Bool.or_eq_true, Bool.and_eq_true, decide_eq_true_eq]
      constructor
      · rintro ((h | ⟨h1, h2⟩) | ⟨h1, h2⟩)
        · exact .inl h
        · exact .inr ⟨e, .inl ⟨h1.symm, h2⟩⟩
        · exact .inr ⟨e, .inr ⟨h2, h1.symm⟩⟩
      · rintro (h | ⟨_, ⟨h1, h2⟩ | ⟨h1, h2⟩⟩)
        · exact .inl (.inl h)
        · exact .inl (.inr ⟨h1.symm, h2⟩)
        · exact .inr ⟨h2.symm, h1⟩
theorem besK_bit (s : List Int) (F : Nat) : ∀ k f g, f < F → g < F → (((besK s F k).getD f []).getD g false = true ↔ besP s k f g)
  | 0, f, g, hf, hg => by
    simp [besK, List.getD, hf, hg, besP]
  | k + 1, f, g, hf, hg => by
    have ih := besK_bit s F k f g hf hg
    rw [besP_succ, ← ih]
    have hr : ∀ f, f < (besK s F k).length → ((besK s F k).getD f []).length = F := fun f hf => besK_row s F k f (by rw [besK_len] at hf; exact hf)
    rw [besK_succ]
    split
    · rename_i e
      exact ⟨.inl, fun h => h.resolve_right (fun q => q.1 e)⟩
    · rename_i e
      rw [setT_bit (by rw [setT_len, besK_len]; exact hf) (by rw [setT_row hr f (by rw [setT_len, besK_len]; exact hf)]; exact hg), setT_bit (by rw [besK_len]; exact hf) (by rw [besK_row s F k f hf]; exact hg)]
      simp only [Bool.or_eq_true, Bool.and_eq_true, decide_eq_true_eq]
      constructor
      · rintro ((h | ⟨h1, h2⟩) | ⟨h1, h2⟩)
        · exact .inl h
        · exact .inr ⟨e, .inl ⟨h1.symm, h2⟩⟩
        · exact .inr ⟨e, .inr ⟨h2, h1.symm⟩⟩
      · rintro (h | ⟨_, ⟨h1, h2⟩ | ⟨h1, h2⟩⟩)
        · exact .inl (.inl h)
        · exact .inl (.inr ⟨h1.symm, h2⟩)
        · exact .inr ⟨h2.symm, h1⟩
theorem nearK_lt (s : List Int) (F : Nat) : ∀ k, (∀ j, j < 2 * k → 0 ≤ s.getD j 0 ∧ s.getD j 0 < F) → ∀ f, f < F → (nearK s F k).getD f 0 < 2 ^ F
  | 0, _, f, hf => by simp [nearK, List.getD, hf]; exact Nat.two_pow_pos F
  | k + 1, h, f, hf => by
    have ih := nearK_lt s F k (fun j hj => h j (by omega))
    have h0 := h (2 * k) (by omega)
    have h1 := h (2 * k + 1) (by omega)
    have ih' : ∀ f, f < (nearK s F k).length → (nearK s F k).getD f 0 < 2 ^ F := fun f hf => ih f (by rw [nearK_len] at hf; exact hf)
    rw [nearK_succ]
    split
    · exact ih f hf
    · exact setN_lt (by omega) (setN_lt (by omega) ih') f (by rw [setN_len, setN_len, nearK_len]; exact hf)
noncomputable def nearW (ns ls : List Pr) : List Nat := nearK (sidesL ns ls) (facesD ns ls).length ls.length
noncomputable def besW (ns ls : List Pr) : List (List Bool) := besK (sidesL ns ls) (facesD ns ls).length ls.length
theorem sides_lt {ns ls : List Pr} (hw : wholeB ns ls = true) {j : Nat} (hj : j < 2 * ls.length) : 0 ≤ (sidesL ns ls).getD j 0 ∧ (sidesL ns ls).getD j 0 < (facesD ns ls).length := by
  obtain ⟨W, _⟩ := whole_win hw
  have := fc_lt W hj
  rw [sides_fc hw hj]
  omega
theorem besP_adj {ns ls : List Pr} (hw : wholeB ns ls = true) {f g : Nat} : besP (sidesL ns ls) ls.length f g ↔ adjF ns ls f g := by
  rw [adj_lead hw]
  constructor
  · rintro ⟨j, hj, hne, h⟩
    have a := sides_lt hw (show 2 * j < 2 * ls.length by omega)
    have b := sides_lt hw (show 2 * j + 1 < 2 * ls.length by omega)
    refine ⟨?_, j, hj, ?_⟩
    · rcases h with ⟨h1, h2⟩ | ⟨h1, h2⟩ <;> omega
    · rcases h with ⟨h1, h2⟩ | ⟨h1, h2⟩
      · left; omega
      · right; omega
  · rintro ⟨hne, j, hj, h⟩
    refine ⟨j, hj, ?_, ?_⟩
    · rcases h with ⟨h1, h2⟩ | ⟨h1, h2⟩ <;> omega
    · rcases h with ⟨h1, h2⟩ | ⟨h1, h2⟩
      · left; omega
      · right; omega
theorem near_bit {ns ls : List Pr} (hw : wholeB ns ls = true) {f g : Nat} (hf : f < (facesD ns ls).length) : ((nearW ns ls).getD f 0).testBit g = adB ns ls f g := by
  rw [Bool.eq_iff_iff, adB_iff, ← besP_adj hw]
  exact nearK_bit _ _ _ f g hf
theorem bes_bit {ns ls : List Pr} (hw : wholeB ns ls = true) {f g : Nat} (hf : f < (facesD ns ls).length) (hg : g < (facesD ns ls).length) : ((besW ns ls).getD f []).getD g false = adB ns ls f g := by
  rw [Bool.eq_iff_iff, adB_iff, ← besP_adj hw]
  exact besK_bit _ _ _ f g hf hg
theorem near_lt {ns ls : List Pr} (hw : wholeB ns ls = true) {f : Nat} (hf : f < (facesD ns ls).length) : (nearW ns ls).getD f 0 < 2 ^ (facesD ns ls).length :=
  nearK_lt _ _ _ (fun j hj => sides_lt hw hj) f hf
end Go.Proofs.YtnjcpljhmhdhkaaGreat

namespace Go.Proofs.YtnjcpljhmhdhkaaGreat
open Go.RowKit
def RetIB (L : List Int) (b : Bool) (w : World) (e : Ending) (w' : World) : Prop := ∃ v, e = .returned (.tuple #[v, .bool b]) ∧ OwnI w.heap.size w' v L ∧ Below w.heap.size w w'
def RetN (G : List Int) (w : World) (e : Ending) (w' : World) : Prop := ∃ v, e = .returned v ∧ OwnI w.heap.size w' v G ∧ (G.length = 0 → v = .slice none 0 0) ∧ Below w.heap.size w w'
def rowV (F : Nat) (g : Nat) : Value := .slice (some ⟨g, 0, none⟩) F F
structure OwnTab (base : Nat) (w : World) (v : Value) (F : Nat) (gs : List Nat) (T : List (List Bool)) : Prop where
  out : OwnE 182 (rowV F) base w v gs
  len : gs.length = T.length
  nd : gs.Nodup
  row : ∀ k, k < T.length → OwnE 4 Value.bool base w (rowV F (gs.getD k 0)) (T.getD k [])
section
variable {base : Nat} {w w' : World} {v v' : Value} {F : Nat} {gs : List Nat} {T : List (List Bool)}
theorem OwnTab.kept (h : OwnTab base w v F gs T) (hb : Below w.heap.size w w') : OwnTab base w' v F gs T := ⟨h.out.kept hb, h.len, h.nd, fun k hk => (h.row k hk).kept hb⟩
theorem tyB_ne : 4 ≠ 182 := by decide
theorem tyB_ne' : 182 ≠ 4 := by decide
theorem gs_lt (h : OwnTab base w v F gs T) {k : Nat} (hk : k < T.length) : base ≤ gs.getD k 0 ∧ gs.getD k 0 < w.heap.size := (h.row k hk).lt _ rfl
theorem gs_ne (h : OwnTab base w v F gs T) {j k : Nat} (hj : j < T.length) (hk : k < T.length) (hne : j ≠ k) : gs.getD j 0 ≠ gs.getD k 0 := by
  have hl := h.len
  rw [List.getD_eq_getElem?_getD, List.getD_eq_getElem?_getD, List.getElem?_eq_getElem (show j < gs.length by omega), List.getElem?_eq_getElem (show k < gs.length by omega)]
  intro e
  have hp := List.pairwise_iff_getElem.1 (List.nodup_iff_pairwise_ne.1 h.nd)
  have e' : gs[j]'(by omega) = gs[k]'(by omega) := e
  rcases Nat.lt_trichotomy j k with q | q | q
  · exact hp j k (by omega) (by omega) q e'
  · exact hne q
  · exact hp k j (by omega) (by omega) q e'.symm
theorem OwnTab.snoc {g : Nat} {r : List Bool} (h : OwnTab base w v F gs T) (hr : OwnE 4 Value.bool base w (rowV F g) r) (hg : ∀ k, k < T.length → gs.getD k 0 ≠ g) (hgr : w.grownBy w' v.ownBlock)
    (ho : w'.ownsRow base 182 1 v' (T.length + 1) (gs.map (rowV F) ++ [rowV F g])) : OwnTab base w' v' F (gs ++ [g]) (T ++ [r]) := by
  have hl := h.len
  refine ⟨?_, by simp [hl], ?_, fun k hk => ?_⟩
  · have e : (gs ++ [g]).map (rowV F) = gs.map (rowV F) ++ [rowV F g] := by simp
    unfold OwnE
    rw [e, List.length_append, List.length_singleton, hl]
    exact ho
  · rw [List.nodup_append]
    refine ⟨h.nd, by simp, fun a ha b hb => ?_⟩
    rw [List.mem_singleton] at hb
    subst hb
    obtain ⟨k, hk, e⟩ := List.getElem_of_mem ha
    have := hg k (by omega)
    rw [List.getD_eq_getElem?_getD, List.getElem?_eq_getElem hk] at this
    rw [← e]; exact this
  · rw [List.length_append, List.length_singleton] at hk
    have kp : ∀ x zs, OwnE 4 Value.bool base w x zs → OwnE 4 Value.bool base w' x zs := fun x zs hx => OwnE.other hx h.out tyB_ne hgr
    by_cases e : k = T.length
    · subst e
      rw [List.getD_eq_getElem?_getD, List.getElem?_append_right (by omega), hl, Nat.sub_self, List.getD_eq_getElem?_getD, List.getElem?_append_right (Nat.le_refl _), Nat.sub_self]
      exact kp _ _ hr
    · have hlt : k < T.length := by omega
      have e1 : (gs ++ [g]).getD k 0 = gs.getD k 0 := by rw [List.getD_eq_getElem?_getD, List.getD_eq_getElem?_getD, List.getElem?_append_left (by omega)]
      have e2 : (T ++ [r]).getD k [] = T.getD k [] := by rw [List.getD_eq_getElem?_getD, List.getD_eq_getElem?_getD, List.getElem?_append_left hlt]
      rw [e1, e2]
      exact kp _ _ (h.row k hlt)
theorem OwnTab.set_ (h : OwnTab base w v F gs T) {a : Nat} (ha : a < T.length) (b : Nat) (x : Bool) : OwnTab base (w.setCell ⟨gs.getD a 0, b, none⟩ (.bool x)) v F gs (T.set a ((T.getD a []).set b x)) := by
  have hra := h.row a ha
  have hg : w.grownBy (w.setCell ⟨gs.getD a 0, b, none⟩ (.bool x)) (some (gs.getD a 0)) := grown_set (grown_refl _ _) b _
  refine ⟨OwnE.other h.out hra tyB_ne' hg, by simp [h.len], h.nd, fun k hk => ?_⟩
  rw [List.length_set] at hk
  by_cases e : k = a
  · subst e
    have e2 : (T.set k ((T.getD k []).set b x)).getD k [] = (T.getD k []).set b x := by simp [List.getD_eq_getElem?_getD, List.getElem?_set, hk]
    rw [e2]
    exact OwnE.set_ hra b x
  · have e' : ¬ a = k := fun q => e q.symm
    have e2 : (T.set a ((T.getD a []).set b x)).getD k [] = T.getD k [] := by simp [List.getD_eq_getElem?_getD, List.getElem?_set, e']
    rw [e2]
    refine World.ownsRow.kept (h.row k hk) hg (.inr ?_)
    intro q
    have q' : gs.getD k 0 = gs.getD a 0 := by injection q
    exact gs_ne h hk ha e q'
theorem OwnTab.cell {g n cap : Nat} (h : OwnTab base w (.slice (some ⟨g, 0, none⟩) n cap) F gs T) {k : Nat} (hk : k < T.length) : w.cell? ⟨g, k, none⟩ = some (.slice (some ⟨gs.getD k 0, 0, none⟩) F F) :=
  OwnE.cell h.out 0 (by rw [h.len]; exact hk)
theorem OwnTab.cell2 (h : OwnTab base w v F gs T) {k j : Nat} (hk : k < T.length) (hj : j < (T.getD k []).length) : w.cell? ⟨gs.getD k 0, j, none⟩ = some (.bool ((T.getD k []).getD j false)) :=
  OwnE.cell (h.row k hk) false hj
theorem OwnTab.blk (h : OwnTab base w v F gs T) (hn : 0 < T.length) : ∃ g c, v = .slice (some ⟨g, 0, none⟩) gs.length c ∧ base ≤ g ∧ g < w.heap.size := by
  rcases h.out.2 with ⟨_, h0⟩ | ⟨g, cap, cur, rfl, hb, _⟩
  · have := h.len; omega
  · exact ⟨g, cap, rfl, hb, (h.out.lt g rfl).2⟩
theorem OwnTab.apart (h : OwnTab base w v F gs T) {k g : Nat} (hk : k < T.length) (hg : v.ownBlock = some g) : g ≠ gs.getD k 0 := by
  have hr := h.row k hk
  rcases h.out.2 with ⟨rfl, _⟩ | ⟨g1, cap, cur, rfl, _, hh, _⟩
  · cases hg
  · rcases hr.2 with ⟨e, _⟩ | ⟨g2, cap2, cur2, e, _, hh2, _⟩
    · cases e
    · injection e with e1 _ _
      injection e1 with e1
      injection e1 with e1 _
      injection hg with hg
      have hg' : g1 = g := hg
      intro e3
      rw [← hg'] at e3
      rw [e3, e1, hh2] at hh
      injection hh with hh
      injection hh with _ hh _
      exact tyB_ne hh
theorem OwnTab.frz2 (h : OwnTab base w v F gs T) {k : Nat} (hk : k < T.length) (j : Nat) : w.frozen? ⟨gs.getD k 0, j, none⟩ = false := OwnE.frz (h.row k hk) j
end
def TabAt (w : World) (b off F : Nat) (adj : Nat → Nat → Bool) : Prop := b < w.heap.size ∧ ∀ i, i < F → ∃ bi, bi < w.heap.size ∧ w.cell? ⟨b, off + i, none⟩ = some (.slice (some ⟨bi, 0, none⟩) F F) ∧ ∀ j, j < F → w.cell? ⟨bi, j, none⟩ = some (.bool (adj i j))
end Go.Proofs.YtnjcpljhmhdhkaaGreat

namespace Go.Proofs.YtnjcpljhmhdhkaaGreat
open Go.RowKit
theorem OwnI.blk {base : Nat} {w : World} {u : Value} {zs : List Int} (h : OwnI base w u zs) (h0 : 0 < zs.length) : ∃ g c, u = .slice (some ⟨g, 0, none⟩) zs.length c ∧ zs.length ≤ c ∧ base ≤ g ∧ g < w.heap.size ∧ ∀ q, q < zs.length → w.cell? ⟨g, q, none⟩ = some (.int .i64 (zs.getD q 0)) := by
  rcases h.2 with ⟨_, hn⟩ | ⟨g, cap, cur, rfl, hb, hh, hc, _⟩
  · omega
  · exact ⟨g, cap, rfl, hc, hb, (h.lt g rfl).2, fun q hq => h.cell hq⟩
theorem wpList_append_i {w : World} {ops : Array Oper} {rest : List Oper} {o : Oper} {a : Act} {Q : Exit → Act → World → Prop} (hgd : o.guard = none) (s x : Operand)
    (ho : o.op = .call { callee := .builtin .append, args := #[s, x], argTypes := #[31, 31] })
    (base : Nat) (v : Value) (zs : List Int) (z : Int) (hs : a.eval s = v) (g : Nat) (hx : a.eval x = .slice (some ⟨g, 0, none⟩) 1 1) (hg : w.cell? ⟨g, 0, none⟩ = some (.int .i64 z))
    (hown : OwnI base w v zs) (hlen : zs.length ≤ 1048576) (hbase : base ≤ w.heap.size)
    (h : ∀ v' w', OwnI base w' v' (zs ++ [z]) → w.grownBy w' v.ownBlock → (v'.ownBlock = v.ownBlock ∨ v'.ownBlock = some w.heap.size) → wpList Tryz.prog ops Q rest (a.put o.dst v') w') : wpList Tryz.prog ops Q (o :: rest) a w := by
  obtain ⟨i, hi, hz, hsize, hby⟩ := info_parts infoInt
  exact wpList_append_own_at w hgd s x 31 ho base 3 i (.int .i64 0) 1 8 Tryz.underlying31 hi hz hsize hby rfl (by decide) v zs.length _ hs hown ⟨g, 0, none⟩ 1 1 [.int .i64 z] hx rfl
    (fun j y hj => by
      match j, hj with
      | 0, hj => cases hj; exact hg
      | j + 1, hj => simp at hj)
    (by intro y hy; simp at hy; subst hy; rfl) (by unfold maxLen; omega) (by omega) hbase fun v' w' e1 e2 _ e3 => h v' w' (OwnI.snoc e1) e2 e3
end Go.Proofs.YtnjcpljhmhdhkaaGreat
