/- part 10 -/
import Derived.Test.YtbennlajjfkdpaaGreatDoorFPk9
set_option linter.unusedSimpArgs false
set_option linter.unusedVariables false
namespace Go.Proofs.YtbennlajjfkdpaaGreatDoor
open Go.RowKit
def tk (L : Array Bool) (j : Nat) : Bool := L.getD j true
theorem tk_self (L : Array Bool) (i : Nat) : tk (L.setIfInBounds i true) i = true := by
  unfold tk
  rcases Nat.lt_or_ge i L.size with h | h
  · simp [h]
  · simp [h]
theorem tk_ne {L : Array Bool} {i j : Nat} (h : i ≠ j) : tk (L.setIfInBounds i true) j = tk L j := getD_set_ne true h
theorem tk_false_lt {L : Array Bool} {j : Nat} (h : tk L j = false) : j < L.size := by
  unfold tk at h
  rcases Nat.lt_or_ge j L.size with h' | h'
  · exact h'
  · simp [h'] at h
theorem tk_getD {L : Array Bool} {j : Nat} (h : L.getD j false = true) : tk L j = true := by
  unfold tk
  rcases Nat.lt_or_ge j L.size with h' | h'
  · simp [h'] at h ⊢; exact h
  · simp [h'] at h
theorem preS {L : Array Bool} {i : Nat} {l : List Nat} (h : ∀ j ∈ l, tk L j = true) : ∀ j ∈ l, tk (L.setIfInBounds i true) j = true := by
  intro j hj
  by_cases hij : i = j
  · subst hij; exact tk_self L i
  · rw [tk_ne hij]; exact h j hj
def Aft (L : Array Bool) (j : Nat) (p : Prop) : Prop := tk L j = true → p
theorem Aft.keep {L : Array Bool} {i j : Nat} {p : Prop} (h : Aft L j p) (hne : i ≠ j) : Aft (L.setIfInBounds i true) j p := fun ht => h (by rw [tk_ne hne] at ht; exact ht)
theorem Aft.new {L : Array Bool} {j : Nat} {p : Prop} (h : p) : Aft L j p := fun _ => h
theorem Aft.no {L : Array Bool} {j : Nat} {p : Prop} (h : tk L j = false) : Aft L j p := fun ht => by rw [h] at ht; cases ht
def NewAt (base : Nat) (t : TypeId) (cs : Array Value) (v : Value) (w : World) : Prop := ∃ g, v = .pointer (some ⟨g, 0, none⟩) ∧ base ≤ g ∧ Blk w g t cs
theorem NewAt.below {base : Nat} {t : TypeId} {cs : Array Value} {v : Value} {w w' : World} (h : NewAt base t cs v w) (hb : Below w.heap.size w w') : NewAt base t cs v w' := by
  obtain ⟨g, h1, h2, h3⟩ := h
  exact ⟨g, h1, h2, h3.below hb h3.lt⟩
theorem NewAt.ne {base : Nat} {t : TypeId} {cs : Array Value} {v : Value} {w : World} (h : NewAt base t cs v w) : v ≠ .pointer (some ⟨w.heap.size, 0, none⟩) := by
  obtain ⟨g, h1, h2, h3⟩ := h
  have := h3.lt
  rintro rfl
  injection h1 with h1
  injection h1 with h1
  injection h1 with h1
  omega
theorem NewAt.far {base : Nat} {t : TypeId} {cs : Array Value} {v : Value} {w : World} (h : NewAt base t cs v w) {g i : Nat} (hne : v ≠ .pointer (some ⟨g, 0, none⟩)) (x : Value) : NewAt base t cs v (w.setCell ⟨g, i, none⟩ x) := by
  obtain ⟨g', h1, h2, h3⟩ := h
  exact ⟨g', h1, h2, h3.far (p := ⟨g, i, none⟩) (fun e => hne (by rw [h1, show g' = g from e])) x⟩
structure One (L : Array Bool) (i s base : Nat) (t : TypeId) (z f : Array Value) (v : Value) (w : World) : Prop where
  ord : tk L s = true → tk L i = true
  zero : tk L i = true → tk L s = false → NewAt base t z v w
  full : tk L s = true → NewAt base t f v w
theorem One.start {L : Array Bool} {i s base : Nat} {t : TypeId} {z f : Array Value} {v : Value} {w : World} (hi : tk L i = false) (hs : tk L s = false) : One L i s base t z f v w :=
  ⟨fun h => by (rw [hs] at h; cases h), fun h => by (rw [hi] at h; cases h), fun h => by (rw [hs] at h; cases h)⟩
theorem One.step {L : Array Bool} {i s base k : Nat} {t : TypeId} {z f : Array Value} {v : Value} {w w' : World} (h : One L i s base t z f v w) (h1 : k ≠ i) (h2 : k ≠ s) (hb : Below w.heap.size w w') : One (L.setIfInBounds k true) i s base t z f v w' :=
  ⟨by rw [tk_ne h1, tk_ne h2]; exact h.ord, by rw [tk_ne h1, tk_ne h2]; exact fun a b => (h.zero a b).below hb, by rw [tk_ne h2]; exact fun a => (h.full a).below hb⟩
theorem One.far {L : Array Bool} {i s base k g : Nat} {t : TypeId} {z f : Array Value} {v : Value} {w : World} (h : One L i s base t z f v w) (h1 : k ≠ i) (h2 : k ≠ s) (hne : tk L i = true → v ≠ .pointer (some ⟨g, 0, none⟩)) (a b : Nat) (x y : Value) :
    One (L.setIfInBounds k true) i s base t z f v ((w.setCell ⟨g, a, none⟩ x).setCell ⟨g, b, none⟩ y) :=
  ⟨by rw [tk_ne h1, tk_ne h2]; exact h.ord, by rw [tk_ne h1, tk_ne h2]; exact fun p q => ((h.zero p q).far (hne p) x).far (hne p) y, by rw [tk_ne h2]; exact fun p => ((h.full p).far (hne (h.ord p)) x).far (hne (h.ord p)) y⟩
theorem One.lay {L : Array Bool} {i s base : Nat} {t : TypeId} {z f : Array Value} {v : Value} {w : World} (h : One L i s base t z f v w) (hun : tk L i = false) (his : i ≠ s) (hb : base ≤ w.heap.size) : One (L.setIfInBounds i true) i s base t z f (.pointer (some ⟨w.heap.size, 0, none⟩)) (w.alloc (.cells z t)) := by
  have hs : tk L s = false := by
    cases hc : tk L s
    · rfl
    · have := h.ord hc
      rw [hun] at this; cases this
  exact ⟨(by rw [tk_ne his, hs]; exact (fun h => by cases h)), fun _ _ => ⟨_, rfl, hb, Blk.new w t z⟩, (by rw [tk_ne his, hs]; exact (fun h => by cases h))⟩
theorem One.fill {L : Array Bool} {i s base : Nat} {t : TypeId} {x y p q : Value} {v : Value} {w : World} {g : Nat} (h : One L i s base t #[x, y] #[p, q] v w) (hi : tk L i = true) (hs : tk L s = false) (hv : v = .pointer (some ⟨g, 0, none⟩)) (his : s ≠ i) :
    One (L.setIfInBounds s true) i s base t #[x, y] #[p, q] v ((w.setCell ⟨g, 0, none⟩ p).setCell ⟨g, 1, none⟩ q) := by
  obtain ⟨g', h1, h2, h3⟩ := h.zero hi hs
  rw [hv] at h1
  injection h1 with h1
  injection h1 with h1
  injection h1 with h1
  subst h1
  refine ⟨fun _ => by rw [tk_ne his]; exact hi, fun _ hc => (by rw [tk_self] at hc; cases hc), fun _ => ⟨g, hv, h2, ?_⟩⟩
  have := (h3.set_ 0 p).set_ 1 q
  simpa using this
def Apart2 (L : Array Bool) (i j : Nat) (v u : Value) : Prop := tk L i = true → tk L j = true → v ≠ u
theorem Apart2.start {L : Array Bool} {i j : Nat} {v u : Value} (h : tk L i = false) : Apart2 L i j v u := fun h1 => by rw [h] at h1; cases h1
theorem Apart2.step {L : Array Bool} {i j k : Nat} {v u : Value} (h : Apart2 L i j v u) (h1 : k ≠ i) (h2 : k ≠ j) : Apart2 (L.setIfInBounds k true) i j v u := by
  unfold Apart2; rw [tk_ne h1, tk_ne h2]; exact h
theorem One.old {L : Array Bool} {i s base : Nat} {t : TypeId} {z f : Array Value} {v : Value} {w : World} (h : One L i s base t z f v w) (hi : tk L i = true) : v ≠ .pointer (some ⟨w.heap.size, 0, none⟩) := by
  cases hs : tk L s
  · exact (h.zero hi hs).ne
  · exact (h.full hs).ne
theorem Apart2.newR {L : Array Bool} {i j s base : Nat} {t : TypeId} {z f : Array Value} {v : Value} {w : World} (h : One L i s base t z f v w) (h1 : j ≠ i) : Apart2 (L.setIfInBounds j true) i j v (.pointer (some ⟨w.heap.size, 0, none⟩)) := by
  unfold Apart2; rw [tk_ne h1]; exact fun hi _ => h.old hi
theorem Apart2.newL {L : Array Bool} {i j s base : Nat} {t : TypeId} {z f : Array Value} {v : Value} {w : World} (h : One L j s base t z f v w) (h1 : i ≠ j) : Apart2 (L.setIfInBounds i true) i j (.pointer (some ⟨w.heap.size, 0, none⟩)) v := by
  unfold Apart2; rw [tk_ne h1]; exact fun _ hj => (h.old hj).symm
section
variable {P : Program} {md : Region.Mode} {ops : Array Oper} {Q : Exit → Act → World → Prop} {S : World → Prop}
theorem ready_un {i : Nat} {L : Array Bool} (h : i ∈ Region.ready md ops L) : tk L i = false := (mem_ready.1 h).1
theorem ready_tk {i j : Nat} {o : Oper} {L : Array Bool} (h : i ∈ Region.ready md ops L) (ho : (ops.toList.drop i).head? = some o) (hw : (o.after.any fun e => Region.binds md e && e.on == j) = true) : tk L j = true := by
  obtain ⟨_, o', ho', hall⟩ := mem_ready.1 h
  rw [op_of_head ho] at ho'
  cases ho'
  rw [Array.any_eq_true] at hw
  obtain ⟨k, hk, h2⟩ := hw
  rw [Bool.and_eq_true] at h2
  have := hall o.after[k] (Array.getElem_mem hk) h2.1
  rw [show o.after[k].on = j by simpa using h2.2] at this
  exact tk_getD this
def backB (md : Region.Mode) (ops : Array Oper) : Bool := (List.range ops.size).all fun i => ((ops[i]?).map (·.after.all fun e => !Region.binds md e || decide (e.on < i))).getD true
def lastB (md : Region.Mode) (ops : Array Oper) (n : Nat) : Bool :=
  ((ops[n]?).map fun o => (List.range n).all fun j => o.after.any fun e => Region.binds md e && e.on == j).getD false &&
  (List.range ops.size).all fun i => decide (i ≤ n) || ((ops[i]?).map fun o => o.after.any fun e => Region.binds md e && e.on == n).getD true
theorem wp_step {i : Nat} {o : Oper} {K : Act → World → Prop} {a : Act} {w : World} (ho : (ops.toList.drop i).head? = some o)
    (h : ∀ K' : Act → World → Prop, (∀ a w, K a w → K' a w) → if Region.wanted o (yielded ops a.tmps) = true then Oper.wp P o a w K' Q else K' (a.put o.dst undef) w) : wpOp P ops Q i K a w :=
  wpOp_step (op_of_head ho) h
theorem ready_some (hb : backB md ops = true) {L : Array Bool} (hs : L.size = ops.size) {k : Nat} (hk : tk L k = false) : Region.ready md ops L ≠ [] := by
  intro hr
  have hex : ∀ m, m ≤ ops.size → ∀ j, j < m → tk L j = true := by
    intro m
    induction m with
    | zero => intro _ j hj; omega
    | succ m ih =>
      intro hm j hj
      rcases Nat.lt_succ_iff_lt_or_eq.1 hj with h | h
      · exact ih (by omega) j h
      · subst h
        apply Classical.byContradiction
        intro hc
        have hc' : tk L j = false := by simpa using hc
        have hj2 : j < ops.size := by omega
        have : j ∈ Region.ready md ops L := by
          rw [mem_ready]
          refine ⟨hc', ops[j], by simp [hj2], fun e he hbd => ?_⟩
          unfold backB at hb
          rw [List.all_eq_true] at hb
          have h1 := hb j (List.mem_range.2 hj2)
          simp only [Array.getElem?_eq_getElem hj2, Option.map_some, Option.getD_some, Array.all_eq_true_iff_forall_mem] at h1
          have h2 := h1 e he
          rw [hbd] at h2
          have h3 : e.on < j := by simpa using h2
          have h4 := ih (by omega) e.on h3
          unfold tk at h4
          have h5 : e.on < L.size := by omega
          simp [h5] at h4 ⊢
          exact h4
        rw [hr] at this
        cases this
  have hk2 := tk_false_lt hk
  have := hex ops.size (Nat.le_refl _) k (by omega)
  rw [this] at hk
  cases hk
def leftN (N : Nat) (L : Array Bool) : Nat := (List.range N).countP fun j => !tk L j
theorem leftN_set {N i : Nat} {L : Array Bool} (hi : i < N) (h : tk L i = false) : leftN N (L.setIfInBounds i true) + 1 = leftN N L := by
  unfold leftN
  induction N with
  | zero => omega
  | succ N ih =>
    rw [List.range_succ, List.countP_append, List.countP_append]
    by_cases he : i = N
    · subst he
      have e : (List.range i).countP (fun j => !tk (L.setIfInBounds i true) j) = (List.range i).countP (fun j => !tk L j) := by
        apply List.countP_congr
        intro j hj
        have := List.mem_range.1 hj
        rw [tk_ne (show i ≠ j by omega)]
      rw [e]
      simp [List.countP_cons, tk_self, h]
    · have := ih (by omega)
      have e : [N].countP (fun j => !tk (L.setIfInBounds i true) j) = [N].countP (fun j => !tk L j) := by
        simp [List.countP_cons, tk_ne he]
      rw [e]
      omega
def doneL (n N : Nat) : Array Bool := Array.replicate n true ++ Array.replicate (N - n) false
theorem done_eq {n : Nat} {L : Array Bool} (h1 : ∀ j, j < n → tk L j = true) (h2 : ∀ j, n ≤ j → j < L.size → tk L j = false) (hn : n ≤ L.size) : L = doneL n L.size := by
  apply Array.ext
  · simp [doneL]; omega
  · intro j hj hj'
    have e : tk L j = L[j] := by unfold tk; simp [hj]
    rcases Nat.lt_or_ge j n with h | h
    · rw [← e, h1 j h]
      simp [doneL, Array.getElem_append, h]
    · rw [← e, h2 j h hj]
      simp [doneL, Array.getElem_append, show ¬ j < n by omega]
theorem E_phase {n : Nat} {Inv : Array Bool → Act → World → Prop} (hn : n < ops.size) (hb : backB md ops = true) (hl : lastB md ops n = true)
    (hstep : ∀ L a w, Inv L a w → ∀ i, i < n → i ∈ Region.ready md ops L → wpOp P ops Q i (fun a' w' => S w' ∧ Inv (L.setIfInBounds i true) a' w') a w)
    (hend : ∀ a w, Inv (doneL n ops.size) a w → anyE P md ops Q S n (ops.size - n) (doneL n ops.size) a w) :
    ∀ (fuel : Nat) (L : Array Bool) (a : Act) (w : World), L.size = ops.size → (∀ j, n ≤ j → j < ops.size → tk L j = false) → leftN ops.size L = fuel → Inv L a w → anyE P md ops Q S n fuel L a w := by
  intro fuel
  induction fuel with
  | zero =>
    intro L a w hs hun hc _
    exfalso
    have h0 := hun n (Nat.le_refl _) hn
    unfold leftN at hc
    rw [List.countP_eq_zero] at hc
    have := hc n (List.mem_range.2 hn)
    rw [h0] at this
    exact this rfl
  | succ fuel ih =>
    intro L a w hs hun hc hI
    by_cases hrn : n ∈ Region.ready md ops L
    · have hall : ∀ j, j < n → tk L j = true := by
        intro j hj
        unfold lastB at hl
        rw [Bool.and_eq_true] at hl
        have h1 := hl.1
        rw [Array.getElem?_eq_getElem hn, Option.map_some, Option.getD_some, List.all_eq_true] at h1
        exact ready_tk (o := ops[n]) hrn (by rw [List.head?_drop, Array.getElem?_toList, Array.getElem?_eq_getElem hn]) (h1 j (List.mem_range.2 hj))
      have hL := done_eq hall (fun j h1 h2 => hun j h1 (by omega)) (by omega)
      rw [hs] at hL
      have hcnt : fuel + 1 = ops.size - n := by
        rw [← hc, hL]
        unfold leftN
        have e : ∀ N, n ≤ N → (List.range N).countP (fun j => !tk (doneL n N) j) = N - n := by
          intro N hN
          have g : ∀ m, m ≤ N → (List.range m).countP (fun j => !tk (doneL n N) j) = m - n := by
            intro m
            induction m with
            | zero => intro _; simp
            | succ m ihm =>
              intro hm
              rw [List.range_succ, List.countP_append, ihm (by omega)]
              have hv : tk (doneL n N) m = decide (m < n) := by
                unfold tk doneL
                by_cases h : m < n
                · simp [Array.getElem?_append, h]
                · simp [Array.getElem?_append, h, show m - n < N - n by omega]
              by_cases h : m < n
              · simp [List.countP_cons, hv, h]; omega
              · simp [List.countP_cons, hv, h]; omega
          exact g N (Nat.le_refl _)
        exact e ops.size (by omega)
      rw [hcnt, hL]
      exact hend a w (by rw [hL] at hI; exact hI)
    · refine ⟨fun h0 => absurd h0 (ready_some hb hs (hun n (Nat.le_refl _) hn)), fun i hi => ?_⟩
      have hun_i := ready_un hi
      have hil : i < ops.size := by have := tk_false_lt hun_i; omega
      have hin : i < n := by
        apply Classical.byContradiction
        intro hge
        rcases Nat.lt_or_eq_of_le (Nat.le_of_not_lt hge) with h | h
        · unfold lastB at hl
          rw [Bool.and_eq_true] at hl
          have h1 := List.all_eq_true.1 hl.2 i (List.mem_range.2 hil)
          rw [Array.getElem?_eq_getElem hil, Option.map_some, Option.getD_some] at h1
          have h2 : (ops[i].after.any fun e => Region.binds md e && e.on == n) = true := by
            rcases Bool.or_eq_true_iff.1 h1 with h3 | h3
            · simp at h3; omega
            · exact h3
          have := ready_tk (o := ops[i]) hi (by rw [List.head?_drop, Array.getElem?_toList, Array.getElem?_eq_getElem hil]) h2
          rw [hun n (Nat.le_refl _) hn] at this
          cases this
        · subst h; exact hrn hi
      refine wpOp_mono (fun a' w' h' => ⟨fun _ => h'.1, ih (L.setIfInBounds i true) a' w' (by simpa using hs) (fun j h1 h2 => by rw [tk_ne (by omega)]; exact hun j h1 h2) ?_ h'.2⟩) (hstep L a w hI i hin hi)
      have := leftN_set (N := ops.size) hil hun_i
      omega
end
end Go.Proofs.YtbennlajjfkdpaaGreatDoor
