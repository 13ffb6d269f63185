/-
  The map of the acts' names.
-/
import Derived.Test.YtbennlajjfkdpaaDoorPaP
import Derived.Maps.Own
import Derived.Maps.OwnOps
import Derived.Maps.Views
set_option linter.unusedSimpArgs false
set_option linter.unusedVariables false
namespace Go.Proofs.YtbennlajjfkdpaaDoor
open Go.RowKit Go.Maps Go.WideMaps

theorem put_at {D : DataW Unit} (hD : IsMap D) (n x : List UInt8) (d z : DataW Unit) : (D.put (.string n) d).atKey (.string x) z = if x = n then d else D.atKey (.string x) z := by
  by_cases h : x = n
  · subst h
    rw [if_pos rfl]
    exact atKey_put_same hD (by first | exact .inl ⟨_, rfl⟩ | simp [WideAt.IsKeyLit] | exact ⟨_, rfl⟩) _ _
  · rw [if_neg h]
    exact atKey_put_other (fun hc => h (by injection hc)) _ _
def kd1 : DataW Unit := (DataW.map []).put (.string [97, 100, 100]) (.lit (.int .i64 1))
def kd2 : DataW Unit := kd1.put (.string [100, 114, 111, 112]) (.lit (.int .i64 2))
def kd3 : DataW Unit := kd2.put (.string [106, 111, 105, 110]) (.lit (.int .i64 3))
def kd4 : DataW Unit := kd3.put (.string [117, 110, 100, 111]) (.lit (.int .i64 4))
def kd5 : DataW Unit := kd4.put (.string [99, 111, 108, 111, 114]) (.lit (.int .i64 5))
def kd6 : DataW Unit := kd5.put (.string [115, 119, 97, 112]) (.lit (.int .i64 6))
def kd7 : DataW Unit := kd6.put (.string [115, 116, 111, 114, 101]) (.lit (.int .i64 7))
def kd8 : DataW Unit := kd7.put (.string [102, 101, 116, 99, 104]) (.lit (.int .i64 8))
def kd9 : DataW Unit := kd8.put (.string [112, 97, 110, 101, 115]) (.lit (.int .i64 9))
theorem kind_at (x : List UInt8) : kd9.atKey (.string x) (.lit (.int .i64 0)) = .lit (.int .i64 (kindN x)) := by
  have m0 : IsMap (DataW.map [] : DataW Unit) := isMap_empty
  have m1 : IsMap kd1 := m0.put _ _
  have m2 : IsMap kd2 := m1.put _ _
  have m3 : IsMap kd3 := m2.put _ _
  have m4 : IsMap kd4 := m3.put _ _
  have m5 : IsMap kd5 := m4.put _ _
  have m6 : IsMap kd6 := m5.put _ _
  have m7 : IsMap kd7 := m6.put _ _
  have m8 : IsMap kd8 := m7.put _ _
  have z : (DataW.map [] : DataW Unit).atKey (.string x) (.lit (.int .i64 0)) = .lit (.int .i64 0) := rfl
  unfold kd9; rw [put_at m8]; unfold kd8; rw [put_at m7]; unfold kd7; rw [put_at m6]; unfold kd6; rw [put_at m5]; unfold kd5; rw [put_at m4]; unfold kd4; rw [put_at m3]; unfold kd3; rw [put_at m2]; unfold kd2; rw [put_at m1]; unfold kd1; rw [put_at m0, z]
  unfold kindN
  by_cases h1 : x = [97, 100, 100]
  · subst h1; simp
  · by_cases h2 : x = [100, 114, 111, 112]
    · subst h2; simp
    · by_cases h3 : x = [106, 111, 105, 110]
      · subst h3; simp
      · by_cases h4 : x = [117, 110, 100, 111]
        · subst h4; simp
        · by_cases h5 : x = [99, 111, 108, 111, 114]
          · subst h5; simp
          · by_cases h6 : x = [115, 119, 97, 112]
            · subst h6; simp
            · by_cases h7 : x = [115, 116, 111, 114, 101]
              · subst h7; simp
              · by_cases h8 : x = [102, 101, 116, 99, 104]
                · subst h8; simp
                · by_cases h9 : x = [112, 97, 110, 101, 115]
                  · subst h9; simp
                  · simp [h1, h2, h3, h4, h5, h6, h7, h8, h9]
theorem ownsMap_below {P : Program} {k : TypeId} {R : Value → Option (DataW Unit × List MemPlace)} {b n : Nat} {D : DataW Unit} {w w' : World} (h : w.ownsMap P k R b n D) (hb : Below w.heap.size w w') : w'.ownsMap P k R b n D := by
  obtain ⟨es, clock, h1, r⟩ := h
  refine ⟨es, clock, ?_, r⟩
  have hlt : b < w.heap.size := by
    rcases Nat.lt_or_ge b w.heap.size with g | g
    · exact g
    · rw [Array.getElem?_eq_none g] at h1; cases h1
  rw [hb.block b hlt]
  exact h1
theorem lawS : Keyed Tryd.prog 9 := string_keyed Tryd.underlying9
theorem zeroI (w : World) : (zeroValue 3).run Tryd.prog w = .ok (.int .i64 0) w := by kernel_rfl

end Go.Proofs.YtbennlajjfkdpaaDoor
