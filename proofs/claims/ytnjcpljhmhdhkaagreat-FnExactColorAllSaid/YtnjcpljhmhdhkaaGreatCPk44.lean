/- part 44 -/
import Derived.Test.YtnjcpljhmhdhkaaGreatCPk39
import Derived.Test.YtnjcpljhmhdhkaaGreatCPk43
set_option linter.unusedSimpArgs false
set_option linter.unusedVariables false
namespace Go.Proofs.YtnjcpljhmhdhkaaGreat
def ClosedC (adj : Nat → Nat → Bool) (ok : Nat → Bool) (F : Nat) (C : Nat → Prop) : Prop := ∀ g i, g < F → i < F → C g → adj g i = true → ok i = true → C i
def reachC (adj : Nat → Nat → Bool) (ok : Nat → Bool) (F f i : Nat) : Prop := ∀ C : Nat → Prop, C f → ClosedC adj ok F C → C i
noncomputable def chainL (adj : Nat → Nat → Bool) (ok : Nat → Bool) (F f : Nat) : List Nat := (List.range F).filter (fun i => @decide (reachC adj ok F f i) (Classical.propDecidable _))
theorem reach_self (adj : Nat → Nat → Bool) (ok : Nat → Bool) (F f : Nat) : reachC adj ok F f f := fun C h _ => h
theorem reach_closed (adj : Nat → Nat → Bool) (ok : Nat → Bool) (F f : Nat) : ClosedC adj ok F (reachC adj ok F f) := fun g i hg hi hr ha ho C h0 hC => hC g i hg hi (hr C h0 hC) ha ho
theorem mem_chainL {adj : Nat → Nat → Bool} {ok : Nat → Bool} {F f i : Nat} : i ∈ chainL adj ok F f ↔ i < F ∧ reachC adj ok F f i := by
  unfold chainL
  rw [List.mem_filter, List.mem_range]
  simp
def stpC (near : Nat → Nat) (ok : Nat → Bool) (s g : Nat) : Nat := if ok g && (near g &&& s != 0) then s ||| 2 ^ g else s
def rndC (near : Nat → Nat) (ok : Nat → Bool) (s : Nat) : Nat → Nat
  | 0 => s
  | k + 1 => stpC near ok (rndC near ok s k) k
def rndsC (near : Nat → Nat) (ok : Nat → Bool) (F s : Nat) : Nat → Nat
  | 0 => s
  | k + 1 => rndC near ok (rndsC near ok F s k) F
theorem stpC_sub {near : Nat → Nat} {ok : Nat → Bool} {s g i : Nat} (h : s.testBit i = true) : (stpC near ok s g).testBit i = true := by
  unfold stpC
  split
  · rw [Nat.testBit_or, h]; rfl
  · exact h
theorem rndC_sub {near : Nat → Nat} {ok : Nat → Bool} {s i : Nat} (h : s.testBit i = true) : ∀ k, (rndC near ok s k).testBit i = true
  | 0 => h
  | k + 1 => stpC_sub (rndC_sub h k)
theorem rndC_mono {near : Nat → Nat} {ok : Nat → Bool} {s i k : Nat} : ∀ j, (rndC near ok s k).testBit i = true → (rndC near ok s (k + j)).testBit i = true
  | 0, h => h
  | j + 1, h => stpC_sub (rndC_mono j h)
theorem stpC_lt {near : Nat → Nat} {ok : Nat → Bool} {s g m : Nat} (hs : s < 2 ^ m) (hg : g < m) : stpC near ok s g < 2 ^ m := by
  unfold stpC
  split
  · exact Nat.or_lt_two_pow hs (Nat.pow_lt_pow_right (by omega) hg)
  · exact hs
theorem rndC_lt {near : Nat → Nat} {ok : Nat → Bool} {s m : Nat} (hs : s < 2 ^ m) : ∀ k, k ≤ m → rndC near ok s k < 2 ^ m
  | 0, _ => hs
  | k + 1, h => stpC_lt (rndC_lt hs k (by omega)) (by omega)
theorem rndsC_lt {near : Nat → Nat} {ok : Nat → Bool} {F s : Nat} (hs : s < 2 ^ F) : ∀ k, rndsC near ok F s k < 2 ^ F
  | 0 => hs
  | k + 1 => rndC_lt (rndsC_lt hs k) F (Nat.le_refl _)
theorem and_ne_zero {a b : Nat} : (a &&& b != 0) = true ↔ ∃ i, a.testBit i = true ∧ b.testBit i = true := by
  rw [bne_iff_ne]
  constructor
  · intro h
    apply Classical.byContradiction
    intro hc
    apply h
    apply Nat.eq_of_testBit_eq
    intro i
    rw [Nat.testBit_and, Nat.zero_testBit]
    cases h1 : a.testBit i
    · rfl
    · cases h2 : b.testBit i
      · rfl
      · exact absurd ⟨i, h1, h2⟩ hc
  · rintro ⟨i, h1, h2⟩ h
    have : (a &&& b).testBit i = true := by rw [Nat.testBit_and, h1, h2]; rfl
    rw [h, Nat.zero_testBit] at this
    cases this
theorem rndsC_fix {near : Nat → Nat} {ok : Nat → Bool} {s m : Nat} (hs : s < 2 ^ m) (h0 : 0 < (memS s m).length) : rndC near ok (rndsC near ok m s m) m = rndsC near ok m s m := by
  apply Classical.byContradiction
  intro hc
  have stay : ∀ k j, rndC near ok (rndsC near ok m s k) m = rndsC near ok m s k → rndsC near ok m s (k + j) = rndsC near ok m s k := by
    intro k j hk
    induction j with
    | zero => rfl
    | succ j ih => show rndC near ok (rndsC near ok m s (k + j)) m = _; rw [ih, hk]
  have hne : ∀ k, k ≤ m → rndC near ok (rndsC near ok m s k) m ≠ rndsC near ok m s k := by
    intro k hk he
    have := stay k (m - k) he
    rw [show k + (m - k) = m by omega] at this
    rw [this] at hc
    exact hc he
  have grow : ∀ k, k ≤ m → k < (memS (rndsC near ok m s k) m).length := by
    intro k
    induction k with
    | zero => intro _; exact h0
    | succ k ih =>
      intro hk
      have h1 := ih (by omega)
      have h2 := memS_strict (s := rndsC near ok m s k) (t := rndC near ok (rndsC near ok m s k) m) (m := m) (fun i hi => rndC_sub hi m) (rndsC_lt hs k) (rndC_lt (rndsC_lt hs k) m (Nat.le_refl _)) (fun e => hne k (by omega) e.symm)
      show k + 1 < (memS (rndC near ok (rndsC near ok m s k) m) m).length
      omega
  have h1 := grow m (Nat.le_refl _)
  have h2 := memS_le (rndsC near ok m s m) m
  omega
theorem rounds_chain {near : Nat → Nat} {adj : Nat → Nat → Bool} {ok : Nat → Bool} {F f : Nat} (hn : ∀ g i, g < F → i < F → (near g).testBit i = adj g i) (hnl : ∀ g, g < F → near g < 2 ^ F) (hsym : ∀ g i, adj g i = adj i g) (hf : f < F) :
    memS (rndsC near ok F (2 ^ f) F) F = chainL adj ok F f := by
  have hs : 2 ^ f < 2 ^ F := Nat.pow_lt_pow_right (by omega) hf
  have hm0 : 0 < (memS (2 ^ f) F).length := List.length_pos_of_mem (a := f) (by simp [memS, hf, Nat.testBit_two_pow_self])
  have hfix := rndsC_fix (near := near) (ok := ok) hs hm0
  have sub : ∀ k i, (rndsC near ok F (2 ^ f) k).testBit i = true → reachC adj ok F f i := by
    intro k
    induction k with
    | zero =>
      intro i hi
      have hi' : (2 ^ f).testBit i = true := hi
      rw [Nat.testBit_two_pow] at hi'
      have : f = i := by simpa using hi'
      subst this
      exact reach_self adj ok F f
    | succ k ih =>
      have inner : ∀ j, j ≤ F → ∀ i, (rndC near ok (rndsC near ok F (2 ^ f) k) j).testBit i = true → reachC adj ok F f i := by
        intro j
        induction j with
        | zero => intro _ i hi; exact ih i hi
        | succ j ihj =>
          intro hj i hi
          have ihj' := ihj (by omega)
          have hi' : (stpC near ok (rndC near ok (rndsC near ok F (2 ^ f) k) j) j).testBit i = true := hi
          unfold stpC at hi'
          split at hi'
          · rename_i hc
            rw [Bool.and_eq_true, and_ne_zero] at hc
            obtain ⟨ho, x, hx1, hx2⟩ := hc
            rw [Nat.testBit_or, Bool.or_eq_true] at hi'
            rcases hi' with h | h
            · exact ihj' i h
            · rw [Nat.testBit_two_pow] at h
              have : j = i := by simpa using h
              subst this
              have hxF : x < F := by
                apply Classical.byContradiction
                intro hxF
                rw [Nat.testBit_lt_two_pow (Nat.lt_of_lt_of_le (hnl j (by omega)) (Nat.pow_le_pow_right (by omega) (by omega)))] at hx1
                cases hx1
              have ha : adj x j = true := by rw [hsym, ← hn j x (by omega) hxF]; exact hx1
              exact reach_closed adj ok F f x j hxF (by omega) (ihj' x hx2) ha ho
          · exact ihj' i hi'
      exact inner F (Nat.le_refl _)
  have keep : ∀ k, (rndsC near ok F (2 ^ f) k).testBit f = true := by
    intro k
    induction k with
    | zero => exact Nat.testBit_two_pow_self
    | succ k ih => exact rndC_sub ih F
  have closed : ClosedC adj ok F (fun i => (rndsC near ok F (2 ^ f) F).testBit i = true) := by
    intro g i hg hi hgm ha ho
    have e : (rndC near ok (rndsC near ok F (2 ^ f) F) (i + 1)).testBit i = true := by
      show (stpC near ok (rndC near ok (rndsC near ok F (2 ^ f) F) i) i).testBit i = true
      unfold stpC
      have hc : (ok i && (near i &&& rndC near ok (rndsC near ok F (2 ^ f) F) i != 0)) = true := by
        rw [Bool.and_eq_true, and_ne_zero]
        exact ⟨ho, g, by rw [hn i g hi hg, hsym]; exact ha, rndC_sub hgm i⟩
      rw [if_pos hc, Nat.testBit_or, Nat.testBit_two_pow_self, Bool.or_true]
    have := rndC_mono (F - (i + 1)) e
    rw [show i + 1 + (F - (i + 1)) = F by omega, hfix] at this
    exact this
  unfold memS chainL
  apply List.filter_congr
  intro i hi
  rw [Bool.eq_iff_iff]
  constructor
  · intro h; simpa using sub F i h
  · intro h
    have h' : reachC adj ok F f i := by simpa using h
    exact h' _ (keep F) closed
structure Grow (adj : Nat → Nat → Bool) (ok : Nat → Bool) (F f : Nat) (todo : List Nat) (k j : Nat) : Prop where
  nd : todo.Nodup
  lt : ∀ x ∈ todo, x < F
  f_ : f ∈ todo
  re : ∀ x ∈ todo, reachC adj ok F f x
  done : ∀ x ∈ todo.take k, ∀ i, i < F → adj x i = true → ok i = true → i ∈ todo
  part : ∀ x, todo[k]? = some x → ∀ i, i < j → i < F → adj x i = true → ok i = true → i ∈ todo
theorem Grow.start {adj : Nat → Nat → Bool} {ok : Nat → Bool} {F f : Nat} (hf : f < F) : Grow adj ok F f [f] 0 0 :=
  ⟨by simp, fun x hx => by simp at hx; omega, by simp, fun x hx => by simp at hx; subst hx; exact reach_self adj ok F x, fun x hx => by simp at hx, fun x _ i hi => by omega⟩
theorem Grow.skip {adj : Nat → Nat → Bool} {ok : Nat → Bool} {F f k j : Nat} {todo : List Nat} (h : Grow adj ok F f todo k j) (hn : ∀ x, todo[k]? = some x → adj x j = true → ok j = true → j ∈ todo) : Grow adj ok F f todo k (j + 1) :=
  ⟨h.nd, h.lt, h.f_, h.re, h.done, fun x hx i hi hF ha ho => by
    by_cases he : i = j
    · subst he; exact hn x hx ha ho
    · exact h.part x hx i (by omega) hF ha ho⟩
theorem Grow.push {adj : Nat → Nat → Bool} {ok : Nat → Bool} {F f k j : Nat} {todo : List Nat} (h : Grow adj ok F f todo k j) (hk : k < todo.length) (hj : j < F) (ha : adj todo[k] j = true) (ho : ok j = true) (hn : j ∉ todo) : Grow adj ok F f (todo ++ [j]) k (j + 1) :=
  ⟨by rw [List.nodup_append]; exact ⟨h.nd, by simp, fun a ha' b hb => by simp at hb; subst hb; exact fun hc => hn (hc ▸ ha')⟩,
    fun x hx => by
      rcases List.mem_append.1 hx with h1 | h1
      · exact h.lt x h1
      · simp at h1; omega,
    List.mem_append_left _ h.f_,
    fun x hx => by
      rcases List.mem_append.1 hx with h1 | h1
      · exact h.re x h1
      · simp at h1
        subst h1
        exact reach_closed adj ok F f _ _ (h.lt _ (List.getElem_mem hk)) hj (h.re _ (List.getElem_mem hk)) ha ho,
    fun x hx i hi ha' ho' => by
      rw [List.take_append_of_le_length (by omega)] at hx
      exact List.mem_append_left _ (h.done x hx i hi ha' ho'),
    fun x hx i hi hF ha' ho' => by
      rw [List.getElem?_append_left hk] at hx
      by_cases he : i = j
      · subst he; simp
      · exact List.mem_append_left _ (h.part x hx i (by omega) hF ha' ho')⟩
theorem Grow.next {adj : Nat → Nat → Bool} {ok : Nat → Bool} {F f k : Nat} {todo : List Nat} (h : Grow adj ok F f todo k F) (hk : k < todo.length) : Grow adj ok F f todo (k + 1) 0 :=
  ⟨h.nd, h.lt, h.f_, h.re, fun x hx i hi ha ho => by
    rw [List.take_succ_eq_append_getElem hk, List.mem_append] at hx
    rcases hx with h1 | h1
    · exact h.done x h1 i hi ha ho
    · simp at h1
      subst h1
      exact h.part _ (List.getElem?_eq_getElem hk) i hi hi ha ho,
    fun x _ i hi => by omega⟩
theorem Grow.len {adj : Nat → Nat → Bool} {ok : Nat → Bool} {F f k j : Nat} {todo : List Nat} (h : Grow adj ok F f todo k j) : todo.length ≤ F := by
  have := h.nd.length_le_of_subset (l₂ := List.range F) (fun x hx => List.mem_range.2 (h.lt x hx))
  rw [List.length_range] at this
  exact this
theorem Grow.end_ {adj : Nat → Nat → Bool} {ok : Nat → Bool} {F f k j : Nat} {todo : List Nat} (h : Grow adj ok F f todo k j) (hk : todo.length ≤ k) : (List.range F).filter (fun i => decide (i ∈ todo)) = chainL adj ok F f := by
  unfold chainL
  apply List.filter_congr
  intro i hi
  rw [Bool.eq_iff_iff, decide_eq_true_eq]
  constructor
  · intro hm; simpa using h.re i hm
  · intro hr
    have hr' : reachC adj ok F f i := by simpa using hr
    refine hr' (fun x => x ∈ todo) h.f_ (fun g x hg hx hgm ha ho => h.done g ?_ x hx ha ho)
    rw [List.take_of_length_le hk]; exact hgm
end Go.Proofs.YtnjcpljhmhdhkaaGreat

namespace Go.Proofs.YtnjcpljhmhdhkaaGreat
theorem clashF_none {ns ls : List Pr} {cs : List Int} : ∀ m k, clashF ns ls cs m k < 0 → ∀ j, k ≤ j → j < k + m → clashP ns ls cs j = false
  | 0, k, _, j, h1, h2 => absurd h2 (by omega)
  | m + 1, k, h, j, h1, h2 => by
    unfold clashF at h
    split at h
    · omega
    · rename_i hc
      by_cases e : j = k
      · subst e; simpa using hc
      · exact clashF_none m (k + 1) h j (by omega) (by omega)
theorem clashF_all {ns ls : List Pr} {cs : List Int} : ∀ m k, (∀ j, k ≤ j → j < k + m → clashP ns ls cs j = false) → clashF ns ls cs m k = -1
  | 0, k, _ => rfl
  | m + 1, k, h => by
    unfold clashF
    rw [if_neg (by rw [h k (Nat.le_refl _) (by omega)]; simp)]
    exact clashF_all m (k + 1) (fun j h1 h2 => h j (by omega) (by omega))
theorem proper_iff {ns ls : List Pr} {L : List Int} : properB ns ls L = true ↔ wholeB ns ls = true ∧ L.length = (facesD ns ls).length ∧ inAll L 0 5 = true ∧ ∀ f g, adjF ns ls f g → L.getD f 0 ≠ L.getD g 0 := by
  unfold properB
  rw [Bool.and_eq_true, decide_eq_true_eq]
  have hcl : ∀ k, wholeB ns ls = true → k < ls.length → (clashP ns ls L k = true ↔ fcD ns ls (2 * k) ≠ fcD ns ls (2 * k + 1) ∧ L.getD (fcD ns ls (2 * k)) 0 = L.getD (fcD ns ls (2 * k + 1)) 0) := by
    intro k hw hk
    unfold clashP
    rw [Bool.and_eq_true, decide_eq_true_eq, decide_eq_true_eq, sides_fc hw (by omega), sides_fc hw (by omega), Int.toNat_natCast, Int.toNat_natCast]
    constructor
    · rintro ⟨a, b⟩; exact ⟨fun e => a (by rw [e]), b⟩
    · rintro ⟨a, b⟩; exact ⟨fun e => a (by omega), b⟩
  constructor
  · rintro ⟨h1, h2⟩
    unfold clashI at h2
    rw [if_pos h1] at h2
    unfold colorsB at h1
    rw [Bool.and_eq_true, Bool.and_eq_true, decide_eq_true_eq] at h1
    obtain ⟨hw, h3, h4⟩ := h1
    refine ⟨hw, by rw [h3, facesW_whole hw], h4, ?_⟩
    rintro f g ⟨d, hd, e1, e2, hne⟩ he
    have hn := clashF_none _ _ h2 (d / 2) (by omega) (by omega)
    have hc := hcl (d / 2) hw (by omega)
    rw [hn] at hc
    have hno : ¬ (fcD ns ls (2 * (d / 2)) ≠ fcD ns ls (2 * (d / 2) + 1) ∧ L.getD (fcD ns ls (2 * (d / 2))) 0 = L.getD (fcD ns ls (2 * (d / 2) + 1)) 0) := fun hh => by have := hc.2 hh; cases this
    apply hno
    rcases two_darts d with ⟨z1, z2⟩ | ⟨z1, z2⟩
    · have w1 : fcD ns ls (2 * (d / 2)) = f := (congrArg (fcD ns ls) z1).symm.trans e1
      have w2 : fcD ns ls (2 * (d / 2) + 1) = g := (congrArg (fcD ns ls) z2).symm.trans e2
      rw [w1, w2]; exact ⟨hne, he⟩
    · have w1 : fcD ns ls (2 * (d / 2) + 1) = f := (congrArg (fcD ns ls) z1).symm.trans e1
      have w2 : fcD ns ls (2 * (d / 2)) = g := (congrArg (fcD ns ls) z2).symm.trans e2
      rw [w1, w2]; exact ⟨fun e => hne e.symm, he.symm⟩
  · rintro ⟨hw, h3, h4, h5⟩
    have hcb : colorsB ns ls L = true := by
      unfold colorsB
      rw [hw, facesW_whole hw, h3, h4]; simp
    refine ⟨hcb, ?_⟩
    unfold clashI
    rw [if_pos hcb, clashF_all _ _ (fun j h1 h2 => ?_)]
    · omega
    · cases hq : clashP ns ls L j
      · rfl
      · obtain ⟨a, b⟩ := (hcl j hw (by omega)).1 hq
        have t0 : twin (2 * j) = 2 * j + 1 := by unfold twin; rw [if_pos (by omega)]
        exact absurd b (h5 _ _ ⟨2 * j, by omega, rfl, by rw [t0], a⟩)
def swK (cs : List Int) (C : List Nat) (y x : Int) : Nat → List Int
  | 0 => cs
  | k + 1 => (swK cs C y x k).set (C.getD k 0) (if cs.getD (C.getD k 0) 0 = x then y else x)
theorem swK_len (cs : List Int) (C : List Nat) (y x : Int) : ∀ k, (swK cs C y x k).length = cs.length
  | 0 => rfl
  | k + 1 => by simp [swK, swK_len cs C y x k]
def okX (cs : List Int) (f : Nat) (x : Int) (i : Nat) : Bool := decide (cs.getD i 0 = cs.getD f 0) || decide (cs.getD i 0 = x)
noncomputable def chainW (ns ls : List Pr) (cs : List Int) (f : Nat) (x : Int) : List Nat := chainL (adB ns ls) (okX cs f x) cs.length f
noncomputable def chainB (ns ls : List Pr) (cs : List Int) (f x : Int) : Bool := properB ns ls cs && (inB f 0 ((cs.length : Int) - 1) && inB x 0 5)
noncomputable def chainI (ns ls : List Pr) (cs : List Int) (f x : Int) : List Nat := if chainB ns ls cs f x then chainW ns ls cs f.toNat x else []
noncomputable def swapB (ns ls : List Pr) (cs : List Int) (f x : Int) : Bool := chainB ns ls cs f x && !decide (cs.getD f.toNat 0 = x)
noncomputable def swapL (ns ls : List Pr) (cs : List Int) (f x : Int) : List Int := if swapB ns ls cs f x then swK cs (chainW ns ls cs f.toNat x) (cs.getD f.toNat 0) x (chainW ns ls cs f.toNat x).length else cs
theorem chainW_mem {ns ls : List Pr} {cs : List Int} {f : Nat} {x : Int} {i : Nat} : i ∈ chainW ns ls cs f x ↔ i < cs.length ∧ reachC (adB ns ls) (okX cs f x) cs.length f i := mem_chainL
theorem chainW_lt {ns ls : List Pr} {cs : List Int} {f : Nat} {x : Int} {i : Nat} (h : i ∈ chainW ns ls cs f x) : i < cs.length := (chainW_mem.1 h).1
theorem chainW_self {ns ls : List Pr} {cs : List Int} {f : Nat} {x : Int} (h : f < cs.length) : f ∈ chainW ns ls cs f x := chainW_mem.2 ⟨h, reach_self _ _ _ _⟩
theorem chainW_len (ns ls : List Pr) (cs : List Int) (f : Nat) (x : Int) : (chainW ns ls cs f x).length ≤ cs.length := by
  unfold chainW chainL
  have := List.length_filter_le (fun i => @decide (reachC (adB ns ls) (okX cs f x) cs.length f i) (Classical.propDecidable _)) (List.range cs.length)
  simpa using this
theorem swapL_len (ns ls : List Pr) (cs : List Int) (f x : Int) : (swapL ns ls cs f x).length = cs.length := by
  unfold swapL; split
  · exact swK_len _ _ _ _ _
  · rfl
end Go.Proofs.YtnjcpljhmhdhkaaGreat

namespace Go.Proofs.YtnjcpljhmhdhkaaGreat
theorem deps_iff {l : List Dp} : depsB l = true ↔ l.length ≤ 40 ∧ (∀ d ∈ l, inB d.k 1 200 = true ∧ inB d.a 1 50 = true ∧ inB d.b 0 9999 = true) ∧ l.Pairwise (fun d e => d.b ≤ e.b ∧ d.k ≠ e.k) := by
  rw [depsB_true]
  have hdep : ∀ i, i < l.length → (depB l i = true ↔ (inB (dpI l i).k 1 200 = true ∧ inB (dpI l i).a 1 50 = true ∧ inB (dpI l i).b 0 9999 = true) ∧ (i = 0 ∨ (dpI l (i - 1)).b ≤ (dpI l i).b) ∧ ∀ j, j < i → ¬ (dpI l j).k = (dpI l i).k) := by
    intro i hi
    unfold depB noPlace
    simp only [Bool.and_eq_true, Bool.or_eq_true, decide_eq_true_eq, List.all_eq_true, List.mem_range]
    constructor
    · rintro ⟨a, b, c, d, e⟩; exact ⟨⟨a, b, c⟩, d, e⟩
    · rintro ⟨⟨a, b, c⟩, d, e⟩; exact ⟨a, b, c, d, e⟩
  constructor
  · rintro ⟨h1, h2⟩
    refine ⟨h1, ?_, ?_⟩
    · intro d hd
      obtain ⟨i, hi, e⟩ := List.getElem_of_mem hd
      have := ((hdep i hi).1 (h2 i hi)).1
      rw [dpI_get hi, e] at this
      exact this
    · rw [List.pairwise_iff_getElem]
      have mono : ∀ k i, i + k < l.length → (dpI l i).b ≤ (dpI l (i + k)).b := by
        intro k
        induction k with
        | zero => intro i _; exact Int.le_refl _
        | succ k ih =>
          intro i hik
          have h3 := ih i (by omega)
          have h4 := ((hdep (i + (k + 1)) hik).1 (h2 _ hik)).2.1
          have h5 : (dpI l (i + k)).b ≤ (dpI l (i + (k + 1))).b := by
            rcases h4 with h4 | h4
            · omega
            · rw [show i + (k + 1) - 1 = i + k by omega] at h4; exact h4
          omega
      intro i j hi hj hij
      have h6 := mono (j - i) i (by omega)
      have h7 := ((hdep j hj).1 (h2 j hj)).2.2 i hij
      rw [show i + (j - i) = j by omega, dpI_get hi, dpI_get hj] at h6
      rw [dpI_get hi, dpI_get hj] at h7
      exact ⟨h6, h7⟩
  · rintro ⟨h1, h2, h3⟩
    rw [List.pairwise_iff_getElem] at h3
    refine ⟨h1, fun i hi => ?_⟩
    rw [hdep i hi]
    refine ⟨?_, ?_, ?_⟩
    · rw [dpI_get hi]; exact h2 _ (List.getElem_mem hi)
    · by_cases e : i = 0
      · exact .inl e
      · right
        rw [dpI_get hi, dpI_get (show i - 1 < l.length by omega)]
        exact (h3 (i - 1) i (by omega) hi (by omega)).1
    · intro j hj
      rw [dpI_get hi, dpI_get (show j < l.length by omega)]
      exact (h3 j i (by omega) hi hj).2
theorem okSt_iff {S : St} : okStB S = true ↔ okD S.D = true ∧ depsB S.ds = true ∧ inB S.fund 0 1000000 = true ∧ (S.cs.length = 0 ∨ properB S.D.nn S.D.nl S.cs = true) ∧ (S.ds.length = 0 ∨ wholeB S.D.nn S.D.nl = true) ∧ ∀ d ∈ S.ds, d.k ≤ panesW S.D.nn S.D.nl := by
  unfold okStB
  simp only [Bool.and_eq_true, Bool.or_eq_true, decide_eq_true_eq, List.all_eq_true]
noncomputable def colB (S : St) (n : Int) : Bool := okStB S && (colorO S.D.nn S.D.nl n).isSome
noncomputable def colS (S : St) (n : Int) : St := if colB S n = true then ⟨S.D, (colorO S.D.nn S.D.nl n).getD [], S.ds, S.fund⟩ else S
noncomputable def swpB (S : St) (f x : Int) : Bool := okStB S && swapB S.D.nn S.D.nl S.cs f x
noncomputable def swpS (S : St) (f x : Int) : St := if swpB S f x = true then ⟨S.D, swapL S.D.nn S.D.nl S.cs f x, S.ds, S.fund⟩ else S
theorem colorO_len {ns ls : List Pr} {n : Int} {L : List Int} (h : colorO ns ls n = some L) : L.length ≤ 40 := by
  have := (proper_iff.1 (color_proper h))
  have h2 := facesW_len ns ls
  rw [facesW_whole this.1] at h2
  omega
theorem colorAll_cnt (S : St) (n : Int) (h : StLe S) : cntSt (colS S n) ≤ 30000000 := by
  unfold colS
  split
  · rename_i hc
    unfold colB at hc
    rw [Bool.and_eq_true, Option.isSome_iff_exists] at hc
    obtain ⟨h0, L, hL⟩ := hc
    have hl := colorO_len hL
    rw [hL]
    have h1 := h.D.cnt
    have h2 := (depsB_true.1 (okSt_iff.1 h0).2.1).1
    show cntD S.D + L.length + 3 * S.ds.length ≤ _
    omega
  · exact h.cnt
theorem swapColors_cnt (S : St) (f x : Int) (h : StLe S) : cntSt (swpS S f x) ≤ 30000000 := by
  have hc := h.cnt
  unfold swpS
  split
  · unfold cntSt at hc ⊢
    show cntD S.D + (swapL S.D.nn S.D.nl S.cs f x).length + 3 * S.ds.length ≤ _
    rw [swapL_len]; exact hc
  · exact hc
theorem col_no {S : St} {x : Int} (h : okStB S = false ∨ (colorO S.D.nn S.D.nl x).isSome = false) : colS S x = S ∧ colB S x = false := by
  have hb : colB S x = false := by
    unfold colB
    rcases h with h | h <;> simp [h]
  exact ⟨by unfold colS; rw [hb]; rfl, hb⟩
theorem col_yes {S : St} {x : Int} (h1 : okStB S = true) (h2 : (colorO S.D.nn S.D.nl x).isSome = true) : colS S x = ⟨S.D, (colorO S.D.nn S.D.nl x).getD [], S.ds, S.fund⟩ ∧ colB S x = true := by
  have hb : colB S x = true := by unfold colB; rw [h1, h2]; rfl
  exact ⟨by unfold colS; rw [hb]; rfl, hb⟩
theorem swp_no {S : St} {x y : Int} (h : okStB S = false ∨ swapB S.D.nn S.D.nl S.cs x y = false) : swpS S x y = S ∧ swpB S x y = false := by
  have hb : swpB S x y = false := by
    unfold swpB
    rcases h with h | h <;> simp [h]
  exact ⟨by unfold swpS; rw [hb]; rfl, hb⟩
theorem swp_yes {S : St} {x y : Int} (h1 : okStB S = true) (h2 : swapB S.D.nn S.D.nl S.cs x y = true) : swpS S x y = ⟨S.D, swapL S.D.nn S.D.nl S.cs x y, S.ds, S.fund⟩ ∧ swpB S x y = true := by
  have hb : swpB S x y = true := by unfold swpB; rw [h1, h2]; rfl
  exact ⟨by unfold swpS; rw [hb]; rfl, hb⟩
end Go.Proofs.YtnjcpljhmhdhkaaGreat

namespace Go.Proofs.YtnjcpljhmhdhkaaGreat
open Go.RowKit
set_option maxHeartbeats 16000000 in
set_option maxRecDepth 100000 in
theorem iColorAll_at (v0 v1 v2 v3 v4 v5 v6 : Value) (S : St) (x : Int) (w : World) (h : RSt w v0 v1 v2 v3 v4 v5 v6 S) (hle : StLe S) :
    Calls Tryz.prog 34 #[.agg #[v0, v1, v2, v3, v4, v5, v6, .int .i64 S.fund], .int .i64 x] w (RetStuB (colS S x) (colB S x) w) := by
  obtain ⟨r, hr⟩ : ∃ r, okStB S = r := ⟨_, rfl⟩
  have HR := Lib.hid hr
  have HLE := Lib.hid hle
  obtain ⟨B6, d6, ev6, hc6, hm6, hat⟩ := h.ds.at_
  subst ev6
  unfold maxLen at hm6
  have HAT := Lib.hid hat
  clear hat
  obtain ⟨E, hE⟩ : ∃ E, colS S x = E := ⟨_, rfl⟩
  obtain ⟨bb, hbb⟩ : ∃ bb, colB S x = bb := ⟨_, rfl⟩
  rw [hE, hbb]
  have HE := Lib.hid hE
  have HBB := Lib.hid hbb
  have HH := Lib.hid h
  clear hle hE hbb h
  go_enter Tryz.func34, Tryz.ntmps34
  go_wp2_with fail
  refine (iCopySt_any _ _ _ _ _ _ _ S _ (HH.out.below (by exact bel_)) HLE.out).mono ?_
  rintro e w1 ⟨A0, a0, A1, a1, A2, a2, A3, a3, A4, a4, A5, a5, A6, a6, fs, rfl, ho1, hb1⟩
  have hz1 := hb1.size
  simp at hz1
  have hX1 : Blk w1 w.heap.size 34 #[v0, v1, v2, v3, v4, v5, .slice B6 S.ds.length d6, .int .i64 S.fund] := Blk.below ((Blk.newAt rfl).alloc _) hb1 sz_
  have hR1 : Blk w1 (w.heap.size + 1) 34 #[.slice none 0 0, .slice none 0 0, .slice none 0 0, .slice none 0 0, .slice none 0 0, .slice none 0 0, .slice none 0 0, .int .i64 0] := Blk.below (Blk.newAt (by simp)) hb1 sz_
  have hbw1 : Below w.heap.size w w1 := by exact bel_
  have hO1 : OwnSt (w.heap.size + 1 + 1) w1 (.slice A0 S.D.fn.length a0) (.slice A1 S.D.fl.length a1) (.slice A2 S.D.nn.length a2) (.slice A3 S.D.nl.length a3) (.slice A4 S.D.ss.length a4) (.slice A5 S.cs.length a5) (.slice A6 S.ds.length a6) S fs := by simpa using ho1
  have HS2 := Lib.hid (OutSS.start hO1 (Nat.le_refl _) hX1 hR1 hbw1)
  obtain ⟨x_0, x_1, x_2, x_3, x_4, x_5, x_6, x_7⟩ := hX1.c8
  have hX1l := hX1.lt
  clear ho1 hb1 hO1
  go_wp2_with fail
  obtain ⟨w2, hw2⟩ : ∃ w2, w2 = w1.alloc (.cells #[.slice A0 S.D.fn.length a0, .slice A1 S.D.fl.length a1, .slice A2 S.D.nn.length a2, .slice A3 S.D.nl.length a3, .slice A4 S.D.ss.length a4, .slice A5 S.cs.length a5, .slice A6 S.ds.length a6, .int .i64 S.fund] 34) := ⟨_, rfl⟩
  rw [← hw2] at HS2 ⊢
  generalize w1.heap.size = Z at *
  clear hw2 hX1 hR1 hbw1 x_0 x_1 x_2 x_3 x_4 x_5 x_6 x_7 hX1l hz1
  obtain ⟨l', hl'⟩ : ∃ l, colW S.D.nn S.D.nl x = l := ⟨_, rfl⟩
  obtain ⟨b', hb'⟩ : ∃ b, colWB S.D.nn S.D.nl x = b := ⟨_, rfl⟩
  have HL' := Lib.hid hl'
  have HB' := Lib.hid hb'
  have HN := Lib.hid (HH.out.dr.nn.below HS2.out.blw)
  have HL := Lib.hid (HH.out.dr.nl.below HS2.out.blw)
  refine (iColorWith_any _ _ S.D.nn S.D.nl x _ HN.out HL.out).mono ?_
  rw [hl', hb']
  clear hl' hb'
  rintro e w4 ⟨vt, rfl, ho4, hb4⟩
  obtain ⟨T5, t5, rfl⟩ := OwnE.form (t := 3) (enc := vI) ho4
  clear HN HL
  have HS3 := Lib.hid (HS2.out.below hb4)
  have HO := Lib.hid ho4
  have HB4 := Lib.hid hb4
  have hX := HS3.out.X
  obtain ⟨x_0, x_1, x_2, x_3, x_4, x_5, x_6, x_7⟩ := hX.c8
  have hXl := hX.lt
  clear ho4 hb4
  go_wp2_with fail
  refine (iStudioOk_at _ _ _ _ _ _ _ S r _ (HH.out.below HS3.out.blw) HR).mono ?_
  rintro e w5 ⟨rfl, hb5⟩
  have HS4 := Lib.hid (HS3.out.below hb5)
  have HF := Lib.hid (OutSS.newCs HS2.out (HB4.out.trans (hb5.mono HB4.out.size)) (OwnI.kept HO.out hb5))
  clear HS2 HS3 HO HB4 hb5 hX hXl x_0 x_1 x_2 x_3 x_4 x_5 x_6 x_7
  cases r
  · clear HF
    obtain ⟨u1, u2⟩ := col_no (S := S) (x := x) (.inl hr)
    have hu : S = E := by rw [← HE.out]; exact u1.symm
    have hv : false = bb := by rw [← HBB.out]; exact u2.symm
    subst hu
    subst hv
    have HF := HS4
    clear HS4 HE HBB u1 u2 hr HL' HB'
    obtain ⟨_, _, hR, hZ, hZl, _, _⟩ := HF.out
    obtain ⟨z_0, z_1, z_2, z_3, z_4, z_5, z_6, z_7⟩ := hZ.c8
    obtain ⟨r_0, r_1, r_2, r_3, r_4, r_5, r_6, r_7, r_f0, r_f1, r_f2, r_f3, r_f4, r_f5, r_f6, r_f7⟩ := hR.b8
    have hRlt := hR.lt
    have hZlt := hZ.lt
    have HFF := Lib.hid (fun u0 u1 u2 u3 u4 u5 u6 u7 => HF.out.fin u0 u1 u2 u3 u4 u5 u6 u7)
    clear hR hZ HF
    go_wp2
    exact bodyPost_ret (v := .tuple #[.agg #[.slice A0 S.D.fn.length a0, .slice A1 S.D.fl.length a1, .slice A2 S.D.nn.length a2, .slice A3 S.D.nl.length a3, .slice A4 S.D.ss.length a4, .slice A5 S.cs.length a5, .slice A6 S.ds.length a6, .int .i64 S.fund], .bool false]) (by simp [results, Tryz.results34, go_sem, r_0, r_1, r_2, r_3, r_4, r_5, r_6, r_7, hRlt]) rfl ⟨_, _, _, _, _, _, _, _, _, _, _, _, _, _, fs, rfl, (HFF.out _ _ _ _ _ _ _ _).1, (HFF.out _ _ _ _ _ _ _ _).2⟩
  · cases b'
    · clear HF
      obtain ⟨u1, u2⟩ := col_no (S := S) (x := x) (.inr HB'.out)
      have hu : S = E := by rw [← HE.out]; exact u1.symm
      have hv : false = bb := by rw [← HBB.out]; exact u2.symm
      subst hu
      subst hv
      have HF := HS4
      clear HS4 HE HBB u1 u2 hr HL' HB'
      obtain ⟨_, _, hR, hZ, hZl, _, _⟩ := HF.out
      obtain ⟨z_0, z_1, z_2, z_3, z_4, z_5, z_6, z_7⟩ := hZ.c8
      obtain ⟨r_0, r_1, r_2, r_3, r_4, r_5, r_6, r_7, r_f0, r_f1, r_f2, r_f3, r_f4, r_f5, r_f6, r_f7⟩ := hR.b8
      have hRlt := hR.lt
      have hZlt := hZ.lt
      have HFF := Lib.hid (fun u0 u1 u2 u3 u4 u5 u6 u7 => HF.out.fin u0 u1 u2 u3 u4 u5 u6 u7)
      clear hR hZ HF
      go_wp2
      exact bodyPost_ret (v := .tuple #[.agg #[.slice A0 S.D.fn.length a0, .slice A1 S.D.fl.length a1, .slice A2 S.D.nn.length a2, .slice A3 S.D.nl.length a3, .slice A4 S.D.ss.length a4, .slice A5 S.cs.length a5, .slice A6 S.ds.length a6, .int .i64 S.fund], .bool false]) (by simp [results, Tryz.results34, go_sem, r_0, r_1, r_2, r_3, r_4, r_5, r_6, r_7, hRlt]) rfl ⟨_, _, _, _, _, _, _, _, _, _, _, _, _, _, fs, rfl, (HFF.out _ _ _ _ _ _ _ _).1, (HFF.out _ _ _ _ _ _ _ _).2⟩
    · obtain ⟨u1, u2⟩ := col_yes (S := S) (x := x) hr HB'.out
      rw [show (colorO S.D.nn S.D.nl x).getD [] = l' from HL'.out] at u1
      have hu : (⟨S.D, l', S.ds, S.fund⟩ : St) = E := by rw [← HE.out]; exact u1.symm
      have hv : true = bb := by rw [← HBB.out]; exact u2.symm
      subst hu
      subst hv
      obtain ⟨_, _, hR, hZ, hZl, _, _⟩ := HS4.out
      obtain ⟨z_0, z_1, z_2, z_3, z_4, z_5, z_6, z_7, z_f0, z_f1, z_f2, z_f3, z_f4, z_f5, z_f6, z_f7⟩ := hZ.b8
      obtain ⟨r_0, r_1, r_2, r_3, r_4, r_5, r_6, r_7, r_f0, r_f1, r_f2, r_f3, r_f4, r_f5, r_f6, r_f7⟩ := hR.b8
      have hRlt := hR.lt
      have hZlt := hZ.lt
      have HFF := Lib.hid (fun u0 u1 u2 u3 u4 u5 u6 u7 => HF.out.fin u0 u1 u2 u3 u4 u5 u6 u7)
      clear hR hZ HF HS4 HE HBB u1 u2 hr HL' HB'
      have hne1 : ¬ Z = w.heap.size + 1 := by omega
      have hne2 : ¬ w.heap.size + 1 = Z := by omega
      go_wp2
      exact bodyPost_ret (v := .tuple #[.agg #[.slice A0 S.D.fn.length a0, .slice A1 S.D.fl.length a1, .slice A2 S.D.nn.length a2, .slice A3 S.D.nl.length a3, .slice A4 S.D.ss.length a4, .slice T5 l'.length t5, .slice A6 S.ds.length a6, .int .i64 S.fund], .bool true]) (by simp [results, Tryz.results34, go_sem, r_0, r_1, r_2, r_3, r_4, r_5, r_6, r_7, z_0, z_1, z_2, z_3, z_4, z_5, z_6, z_7, hRlt, hZlt, hne1, hne2]) rfl ⟨_, _, _, _, _, _, _, _, _, _, _, _, _, _, fs, rfl, (HFF.out _ _ _ _ _ _ _ _).1, (HFF.out _ _ _ _ _ _ _ _).2⟩
set_option maxHeartbeats 16000000 in
set_option maxRecDepth 100000 in
theorem sColorAll_at (v0 v1 v2 v3 v4 v5 v6 : Value) (S : St) (x : Int) (w : World) (h : RSt w v0 v1 v2 v3 v4 v5 v6 S) (hle : StLe S) :
    Calls Tryz.prog 33 #[.agg #[v0, v1, v2, v3, v4, v5, v6, .int .i64 S.fund], .int .i64 x] w (RetStuB (colS S x) (colB S x) w) := by
  obtain ⟨r, hr⟩ : ∃ r, okStB S = r := ⟨_, rfl⟩
  have HR := Lib.hid hr
  have HLE := Lib.hid hle
  obtain ⟨B6, d6, ev6, hc6, hm6, hat⟩ := h.ds.at_
  subst ev6
  unfold maxLen at hm6
  have HAT := Lib.hid hat
  clear hat
  obtain ⟨E, hE⟩ : ∃ E, colS S x = E := ⟨_, rfl⟩
  obtain ⟨bb, hbb⟩ : ∃ bb, colB S x = bb := ⟨_, rfl⟩
  rw [hE, hbb]
  have HE := Lib.hid hE
  have HBB := Lib.hid hbb
  have HH := Lib.hid h
  clear hle hE hbb h
  go_enter Tryz.func33, Tryz.ntmps33
  go_wp2_with fail
  refine (sCopySt_any _ _ _ _ _ _ _ S _ (HH.out.below (by exact bel_)) HLE.out).mono ?_
  rintro e w1 ⟨A0, a0, A1, a1, A2, a2, A3, a3, A4, a4, A5, a5, A6, a6, fs, rfl, ho1, hb1⟩
  have hz1 := hb1.size
  simp at hz1
  have hX1 : Blk w1 w.heap.size 34 #[v0, v1, v2, v3, v4, v5, .slice B6 S.ds.length d6, .int .i64 S.fund] := Blk.below ((Blk.newAt rfl).alloc _) hb1 sz_
  have hR1 : Blk w1 (w.heap.size + 1) 34 #[.slice none 0 0, .slice none 0 0, .slice none 0 0, .slice none 0 0, .slice none 0 0, .slice none 0 0, .slice none 0 0, .int .i64 0] := Blk.below (Blk.newAt (by simp)) hb1 sz_
  have hbw1 : Below w.heap.size w w1 := by exact bel_
  have hO1 : OwnSt (w.heap.size + 1 + 1) w1 (.slice A0 S.D.fn.length a0) (.slice A1 S.D.fl.length a1) (.slice A2 S.D.nn.length a2) (.slice A3 S.D.nl.length a3) (.slice A4 S.D.ss.length a4) (.slice A5 S.cs.length a5) (.slice A6 S.ds.length a6) S fs := by simpa using ho1
  have HS2 := Lib.hid (OutSS.start hO1 (Nat.le_refl _) hX1 hR1 hbw1)
  obtain ⟨x_0, x_1, x_2, x_3, x_4, x_5, x_6, x_7⟩ := hX1.c8
  have hX1l := hX1.lt
  clear ho1 hb1 hO1
  go_wp2_with fail
  obtain ⟨w2, hw2⟩ : ∃ w2, w2 = w1.alloc (.cells #[.slice A0 S.D.fn.length a0, .slice A1 S.D.fl.length a1, .slice A2 S.D.nn.length a2, .slice A3 S.D.nl.length a3, .slice A4 S.D.ss.length a4, .slice A5 S.cs.length a5, .slice A6 S.ds.length a6, .int .i64 S.fund] 34) := ⟨_, rfl⟩
  rw [← hw2] at HS2 ⊢
  generalize w1.heap.size = Z at *
  clear hw2 hX1 hR1 hbw1 x_0 x_1 x_2 x_3 x_4 x_5 x_6 x_7 hX1l hz1
  refine (sStudioOk_at _ _ _ _ _ _ _ S r _ (HH.out.below HS2.out.blw) HR).mono ?_
  rintro e w3 ⟨rfl, hb3⟩
  have HS3 := Lib.hid (HS2.out.below hb3)
  clear hb3 HS2
  have hX3 := HS3.out.X
  obtain ⟨x_0, x_1, x_2, x_3, x_4, x_5, x_6, x_7⟩ := hX3.c8
  have hX3l := hX3.lt
  have hZ3l := HS3.out.Z_.lt
  cases r
  · obtain ⟨u1, u2⟩ := col_no (S := S) (x := x) (.inl hr)
    have hu : S = E := by rw [← HE.out]; exact u1.symm
    have hv : false = bb := by rw [← HBB.out]; exact u2.symm
    subst hu
    subst hv
    have HF := HS3
    clear HS3 HE HBB u1 u2 hr hX3 hX3l hZ3l
    obtain ⟨_, _, hR, hZ, hZl, _, _⟩ := HF.out
    obtain ⟨z_0, z_1, z_2, z_3, z_4, z_5, z_6, z_7⟩ := hZ.c8
    obtain ⟨r_0, r_1, r_2, r_3, r_4, r_5, r_6, r_7, r_f0, r_f1, r_f2, r_f3, r_f4, r_f5, r_f6, r_f7⟩ := hR.b8
    have hRlt := hR.lt
    have hZlt := hZ.lt
    have HFF := Lib.hid (fun u0 u1 u2 u3 u4 u5 u6 u7 => HF.out.fin u0 u1 u2 u3 u4 u5 u6 u7)
    clear hR hZ HF
    go_wp2
    exact bodyPost_ret (v := .tuple #[.agg #[.slice A0 S.D.fn.length a0, .slice A1 S.D.fl.length a1, .slice A2 S.D.nn.length a2, .slice A3 S.D.nl.length a3, .slice A4 S.D.ss.length a4, .slice A5 S.cs.length a5, .slice A6 S.ds.length a6, .int .i64 S.fund], .bool false]) (by simp [results, Tryz.results33, go_sem, r_0, r_1, r_2, r_3, r_4, r_5, r_6, r_7, hRlt]) rfl ⟨_, _, _, _, _, _, _, _, _, _, _, _, _, _, fs, rfl, (HFF.out _ _ _ _ _ _ _ _).1, (HFF.out _ _ _ _ _ _ _ _).2⟩
  · clear hX3 hX3l hZ3l x_0 x_1 x_2 x_3 x_4 x_5 x_6 x_7
    obtain ⟨l', hl'⟩ : ∃ l, colW S.D.nn S.D.nl x = l := ⟨_, rfl⟩
    obtain ⟨b', hb'⟩ : ∃ b, colWB S.D.nn S.D.nl x = b := ⟨_, rfl⟩
    have HL' := Lib.hid hl'
    have HB' := Lib.hid hb'
    have HN := Lib.hid (HH.out.dr.nn.below HS3.out.blw)
    have HL := Lib.hid (HH.out.dr.nl.below HS3.out.blw)
    have hX := HS3.out.X
    obtain ⟨x_0, x_1, x_2, x_3, x_4, x_5, x_6, x_7⟩ := hX.c8
    have hXl := hX.lt
    go_wp2_with fail
    refine (sColorWith_any _ _ S.D.nn S.D.nl x _ HN.out HL.out).mono ?_
    rw [hl', hb']
    clear hl' hb'
    rintro e w4 ⟨vt, rfl, ho4, hb4⟩
    obtain ⟨T5, t5, rfl⟩ := OwnE.form (t := 3) (enc := vI) ho4
    clear hX hXl x_0 x_1 x_2 x_3 x_4 x_5 x_6 x_7 HN HL
    have HF := Lib.hid (OutSS.newCs HS3.out hb4 ho4)
    have HS4 := Lib.hid (HS3.out.below hb4)
    clear HS3 ho4 hb4
    cases b'
    · clear HF
      obtain ⟨u1, u2⟩ := col_no (S := S) (x := x) (.inr HB'.out)
      have hu : S = E := by rw [← HE.out]; exact u1.symm
      have hv : false = bb := by rw [← HBB.out]; exact u2.symm
      subst hu
      subst hv
      have HF := HS4
      clear HS4 HE HBB u1 u2 hr HL' HB'
      obtain ⟨_, _, hR, hZ, hZl, _, _⟩ := HF.out
      obtain ⟨z_0, z_1, z_2, z_3, z_4, z_5, z_6, z_7⟩ := hZ.c8
      obtain ⟨r_0, r_1, r_2, r_3, r_4, r_5, r_6, r_7, r_f0, r_f1, r_f2, r_f3, r_f4, r_f5, r_f6, r_f7⟩ := hR.b8
      have hRlt := hR.lt
      have hZlt := hZ.lt
      have HFF := Lib.hid (fun u0 u1 u2 u3 u4 u5 u6 u7 => HF.out.fin u0 u1 u2 u3 u4 u5 u6 u7)
      clear hR hZ HF
      go_wp2
      exact bodyPost_ret (v := .tuple #[.agg #[.slice A0 S.D.fn.length a0, .slice A1 S.D.fl.length a1, .slice A2 S.D.nn.length a2, .slice A3 S.D.nl.length a3, .slice A4 S.D.ss.length a4, .slice A5 S.cs.length a5, .slice A6 S.ds.length a6, .int .i64 S.fund], .bool false]) (by simp [results, Tryz.results33, go_sem, r_0, r_1, r_2, r_3, r_4, r_5, r_6, r_7, hRlt]) rfl ⟨_, _, _, _, _, _, _, _, _, _, _, _, _, _, fs, rfl, (HFF.out _ _ _ _ _ _ _ _).1, (HFF.out _ _ _ _ _ _ _ _).2⟩
    · obtain ⟨u1, u2⟩ := col_yes (S := S) (x := x) hr HB'.out
      rw [show (colorO S.D.nn S.D.nl x).getD [] = l' from HL'.out] at u1
      have hu : (⟨S.D, l', S.ds, S.fund⟩ : St) = E := by rw [← HE.out]; exact u1.symm
      have hv : true = bb := by rw [← HBB.out]; exact u2.symm
      subst hu
      subst hv
      obtain ⟨_, _, hR, hZ, hZl, _, _⟩ := HS4.out
      obtain ⟨z_0, z_1, z_2, z_3, z_4, z_5, z_6, z_7, z_f0, z_f1, z_f2, z_f3, z_f4, z_f5, z_f6, z_f7⟩ := hZ.b8
      obtain ⟨r_0, r_1, r_2, r_3, r_4, r_5, r_6, r_7, r_f0, r_f1, r_f2, r_f3, r_f4, r_f5, r_f6, r_f7⟩ := hR.b8
      have hRlt := hR.lt
      have hZlt := hZ.lt
      have HFF := Lib.hid (fun u0 u1 u2 u3 u4 u5 u6 u7 => HF.out.fin u0 u1 u2 u3 u4 u5 u6 u7)
      clear hR hZ HF HS4 HE HBB u1 u2 hr HL' HB'
      have hne1 : ¬ Z = w.heap.size + 1 := by omega
      have hne2 : ¬ w.heap.size + 1 = Z := by omega
      go_wp2
      exact bodyPost_ret (v := .tuple #[.agg #[.slice A0 S.D.fn.length a0, .slice A1 S.D.fl.length a1, .slice A2 S.D.nn.length a2, .slice A3 S.D.nl.length a3, .slice A4 S.D.ss.length a4, .slice T5 l'.length t5, .slice A6 S.ds.length a6, .int .i64 S.fund], .bool true]) (by simp [results, Tryz.results33, go_sem, r_0, r_1, r_2, r_3, r_4, r_5, r_6, r_7, z_0, z_1, z_2, z_3, z_4, z_5, z_6, z_7, hRlt, hZlt, hne1, hne2]) rfl ⟨_, _, _, _, _, _, _, _, _, _, _, _, _, _, fs, rfl, (HFF.out _ _ _ _ _ _ _ _).1, (HFF.out _ _ _ _ _ _ _ _).2⟩
end Go.Proofs.YtnjcpljhmhdhkaaGreat
