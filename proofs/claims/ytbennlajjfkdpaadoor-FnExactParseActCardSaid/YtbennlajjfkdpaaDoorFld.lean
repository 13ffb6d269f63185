/-
  A line's words: both sides walked.
-/
import Derived.Test.YtbennlajjfkdpaaDoorFldP
import Derived.Test.YtbennlajjfkdpaaDoorOwnS
import Derived.Test.YtbennlajjfkdpaaDoorFmt
set_option linter.unusedSimpArgs false
set_option linter.unusedVariables false
namespace Go.Proofs.YtbennlajjfkdpaaDoor
open Go.RowKit

/-- A line's words, and whether it can be read. -/
def RetFl (s : ByteArray) (w : World) (e : Ending) (w' : World) : Prop := ∃ v, e = .returned (.tuple #[v, .bool (fldB s)]) ∧ (fldB s = true → OwnS w.heap.size w' v (fldL s)) ∧ Below w.heap.size w w'

theorem byteF_at (s : ByteArray) (i : Nat) (h : i < s.size) : ∃ b : UInt8, s.data.toList[i]? = some b ∧ ∀ w, (Instr.index 9 (.string s) (.int .i64 (i : Int))).run Tryd.prog w = .ok (.int .u8 (b.toNat : Int)) w := by
  refine ⟨s[i]'h, ?_, fun w => ?_⟩
  · have hl : i < s.data.toList.length := by simpa using h
    rw [List.getElem?_eq_getElem hl]
    congr 1
  · rw [run_index_string w 9 s .i64 i Tryd.underlying9, dif_pos ⟨by omega, by omega⟩]
    rfl
theorem fld_yes {s : ByteArray} {k : Nat} (h : k < s.size) (h2 : s.data.toList.getD k 0 ≠ 32) : fldK s (k + 1) = fldK s k := by rw [fldK, if_pos ⟨h, h2⟩]
theorem fld_no {s : ByteArray} {k : Nat} (h : s.size ≤ k ∨ s.data.toList.getD k 0 = 32) : fldK s (k + 1) = (if (fldK s k).2 < k then (fldK s k).1 ++ [s.extract (fldK s k).2 k] else (fldK s k).1, k + 1) := by
  rw [fldK, if_neg]
  rintro ⟨h1, h2⟩
  rcases h with h | h
  · omega
  · exact h2 h
theorem getD_some {l : List UInt8} {k : Nat} {b : UInt8} (h : l[k]? = some b) : l.getD k 0 = b := by rw [List.getD_eq_getElem?_getD, h]; rfl
theorem fldB_long {s : ByteArray} (h : 600 < s.size) : fldB s = false := by unfold fldB; rw [decide_eq_false (by omega)]; rfl
theorem fldB_bad {s : ByteArray} {b : UInt8} (hb : b ∈ s.data.toList) (h : b.toNat < 32 ∨ 126 < b.toNat) : fldB s = false := by
  cases hq : fldB s
  · rfl
  · unfold fldB at hq
    rw [Bool.and_eq_true, Bool.and_eq_true, List.all_eq_true] at hq
    have := hq.2.1 b hb
    unfold okBy at this
    rw [Bool.and_eq_true, decide_eq_true_eq, decide_eq_true_eq] at this
    omega
theorem fldB_many {s : ByteArray} (h : 24 < (fldL s).length) : fldB s = false := by
  unfold fldB
  rw [decide_eq_false (show ¬ (fldL s).length ≤ 24 by omega), Bool.and_false, Bool.and_false]
theorem fldB_fine {s : ByteArray} (h1 : s.size ≤ 600) (h2 : ∀ j (hj : j < s.data.toList.length), 32 ≤ s.data.toList[j].toNat ∧ s.data.toList[j].toNat ≤ 126) (h3 : (fldL s).length ≤ 24) : fldB s = true := by
  unfold fldB
  rw [Bool.and_eq_true, Bool.and_eq_true, decide_eq_true_eq, decide_eq_true_eq, List.all_eq_true]
  refine ⟨h1, fun b hb => ?_, h3⟩
  obtain ⟨i, hi, rfl⟩ := List.getElem_of_mem hb
  have := h2 i hi
  unfold okBy
  rw [Bool.and_eq_true, decide_eq_true_eq, decide_eq_true_eq]
  exact this
theorem OwnS.slice {base : Nat} {w : World} {v : Value} {xs : List ByteArray} (h : OwnS base w v xs) : ∃ A c, v = .slice A xs.length c := by
  rcases h.2 with ⟨hv, h0⟩ | ⟨g, cap, cur, hv, _⟩
  · exact ⟨none, 0, by rw [hv]; rw [show xs.length = 0 by simpa using h0]⟩
  · exact ⟨_, _, hv⟩
def startI (s : ByteArray) (k : Nat) : Int := if (fldK s k).2 < k then ((fldK s k).2 : Int) else -1

set_option maxHeartbeats 16000000 in
set_option maxRecDepth 100000 in
theorem iFld_any (s : ByteArray) (w : World) : Calls Tryd.prog 17 #[.string s] w (RetFl s w) := by
  have HNO : Hid (fldB s = false → RetFl s w (.returned (.tuple #[.slice none 0 0, .bool false])) w) := Lib.hid (fun h => ⟨.slice none 0 0, (by rw [h]), fun h2 => (by rw [h] at h2; cases h2), Below.refl _ _⟩)
  by_cases h6 : 600 < s.size
  · have HU := Lib.hid (fldB_long h6)
    have e1 : (600 : Int) < ((s.size : Nat) : Int) := by omega
    go_enter Tryd.func17, Tryd.ntmps17
    go_wp2
    go_ret2
    exact HNO.out HU.out
  · have e1 : ¬ (600 : Int) < ((s.size : Nat) : Int) := by omega
    have HBY : Hid (∀ i : Nat, i < s.size → ∃ b : UInt8, s.data.toList[i]? = some b ∧ ∀ w, (Instr.index 9 (.string s) (.int .i64 (i : Int))).run Tryd.prog w = .ok (.int .u8 (b.toNat : Int)) w) := Lib.hid (fun i hi => byteF_at s i hi)
    have HBD : Hid (∀ b : UInt8, b ∈ s.data.toList → (b.toNat < 32 ∨ 126 < b.toNat) → fldB s = false) := Lib.hid (fun b hb h => fldB_bad hb h)
    have hL : s.data.toList.length = s.size := by simp
    have HFN : Hid ((∀ j (hj : j < s.data.toList.length), 32 ≤ s.data.toList[j].toNat ∧ s.data.toList[j].toNat ≤ 126) → (fldL s).length ≤ 24 → fldB s = true) := Lib.hid (fun h2 h3 => fldB_fine (by omega) h2 h3)
    obtain ⟨i0, hi, iz0, iz1, iz2⟩ := info_parts infoStr
    go_enter Tryd.func17, Tryd.ntmps17
    go_wp2
    go_loopw [4] (fun i wr => ∃ k : Nat, k ≤ s.size ∧ i = .int .i64 k ∧ Hid (∀ j (hj : j < s.data.toList.length), j < k → 32 ≤ s.data.toList[j].toNat ∧ s.data.toList[j].toNat ≤ 126) ∧ wr = w) (fun i _ => s.size - (intOf i).toNat)
    case atStart => exact ⟨0, Nat.zero_le _, rfl, Lib.hid (fun j hj h => by omega), rfl⟩
    case round =>
      obtain ⟨k, hk, rfl, hd, rfl⟩ := hrel
      by_cases hlt : k < s.size
      · obtain ⟨b, hb, hix⟩ := HBY.out k hlt
        have hm : b ∈ s.data.toList := List.mem_of_getElem? hb
        have c2 : (k : Int) < ((s.size : Nat) : Int) := by omega
        have HBB := Lib.hid (HBD.out b hm)
        have HDN : Hid (32 ≤ b.toNat ∧ b.toNat ≤ 126 → ∀ j (hj : j < s.data.toList.length), j < k + 1 → 32 ≤ s.data.toList[j].toNat ∧ s.data.toList[j].toNat ≤ 126) := Lib.hid (fun h57 j hj hjk => by
          rcases Nat.lt_or_ge j k with g | g
          · exact hd.out j hj g
          · have e : j = k := by omega
            subst e
            rw [List.getElem?_eq_getElem hj] at hb
            rw [Option.some.inj hb]; exact h57)
        clear hb hm hd
        generalize b.toNat = B at *
        by_cases h32 : B < 32
        · have HU := Lib.hid (HBB.out (.inl h32))
          have d1 : (B : Int) < 32 := by omega
          go_wp2
          go_ret2
          exact HNO.out HU.out
        · by_cases h126 : 126 < B
          · have HU := Lib.hid (HBB.out (.inr h126))
            have d1 : ¬ (B : Int) < 32 := by omega
            have d2 : (126 : Int) < (B : Int) := by omega
            go_wp2
            go_ret2
            exact HNO.out HU.out
          · have d1 : ¬ (B : Int) < 32 := by omega
            have d2 : ¬ (126 : Int) < (B : Int) := by omega
            go_wp2
            go_roundw
            case rel => exact ⟨k + 1, by omega, by go_num, Lib.hid (HDN.out ⟨by omega, by omega⟩), trivial⟩
            case measure => simp [intOf]; omega
      · have hkk : k = s.size := by omega
        subst hkk
        have HAL : Hid (∀ j (hj : j < s.data.toList.length), 32 ≤ s.data.toList[j].toNat ∧ s.data.toList[j].toNat ≤ 126) := Lib.hid (fun j hj => hd.out j hj (by omega))
        clear hd
        have c2 : ¬ ((s.size : Nat) : Int) < ((s.size : Nat) : Int) := by omega
        obtain ⟨wo, hwo⟩ : ∃ u : World, u = wr := ⟨_, rfl⟩
        subst hwo
        have HS0 : Hid (startI s 0 = -1 ∧ (fldK s 0).1 = []) := Lib.hid ⟨rfl, rfl⟩
        have HRF : Hid (Below wo.heap.size wo wo) := Lib.hid (Below.refl _ _)
        go_wp2
        go_loopw [5, 6, 7] (fun v st i wr => ∃ k : Nat, k ≤ s.size + 1 ∧ i = .int .i64 k ∧ st = .int .i64 (startI s k) ∧ OwnS wo.heap.size wr v (fldK s k).1 ∧ Below wo.heap.size wo wr) (fun _ _ i _ => s.size + 1 - (intOf i).toNat)
        case atStart => exact ⟨0, Nat.zero_le _, rfl, by rw [HS0.out.1], by rw [HS0.out.2]; exact World.ownsRow_nil _ _ _ _, HRF.out⟩
        case round =>
          obtain ⟨k, hk, rfl, rfl, ho, hbl⟩ := hrel
          have hbg := fld_beg s k
          have hct := fld_cnt s k
          clear c2
          by_cases hle : k ≤ s.size
          · have g1 : (k : Int) ≤ ((s.size : Nat) : Int) := by omega
            have hsz := hbl.size
            have hsp : (∃ b : UInt8, k < s.size ∧ s.data.toList[k]? = some b ∧ ¬ b.toNat = 32 ∧ ∀ w, (Instr.index 9 (.string s) (.int .i64 (k : Int))).run Tryd.prog w = .ok (.int .u8 (b.toNat : Int)) w) ∨ (k = s.size ∨ ∃ b : UInt8, k < s.size ∧ s.data.toList[k]? = some b ∧ b.toNat = 32 ∧ ∀ w, (Instr.index 9 (.string s) (.int .i64 (k : Int))).run Tryd.prog w = .ok (.int .u8 (b.toNat : Int)) w) := by
              rcases Nat.lt_or_ge k s.size with g | g
              · obtain ⟨b, hb, hix⟩ := HBY.out k g
                by_cases h : b.toNat = 32
                · exact .inr (.inr ⟨b, g, hb, h, hix⟩)
                · exact .inl ⟨b, g, hb, h, hix⟩
              · exact .inr (.inl (by omega))
            rcases hsp with ⟨b, hlt, hb, h32, hix⟩ | hsp
            · have HST : Hid (fldK s (k + 1) = fldK s k) := Lib.hid (fld_yes hlt (by
                rw [getD_some hb]
                intro hc
                subst hc
                exact h32 rfl))
              have HS1 : Hid (startI s (k + 1) = ((fldK s k).2 : Int)) := Lib.hid (by unfold startI; rw [HST.out, if_pos (by omega)])
              have f1 : ((k : Int) == ((s.size : Nat) : Int)) = false := by rw [beq_eq_false_iff_ne]; omega
              have f2 : (((b.toNat : Nat) : Int) == 32) = false := by rw [beq_eq_false_iff_ne]; omega
              clear hb h32
              generalize b.toNat = B at *
              by_cases hs : (fldK s k).2 < k
              · have HS2 : Hid (startI s k = ((fldK s k).2 : Int)) := Lib.hid (by unfold startI; rw [if_pos hs])
                rw [HS2.out]
                have f3 : ¬ (((fldK s k).2 : Nat) : Int) < 0 := by omega
                generalize (fldK s k).2 = G at *
                go_wp2
                go_roundw
                case rel => exact ⟨k + 1, by omega, by go_num, by rw [HS1.out], by rw [HST.out]; exact ho, hbl⟩
                case measure => simp [intOf]; omega
              · have HS2 : Hid (startI s k = -1) := Lib.hid (by unfold startI; rw [if_neg hs])
                rw [HS2.out]
                have hG : (fldK s k).2 = k := by omega
                rw [hG] at HS1
                go_wp2
                go_roundw
                case rel => exact ⟨k + 1, by omega, by go_num, by rw [HS1.out], by rw [HST.out]; exact ho, hbl⟩
                case measure => simp [intOf]; omega
            · have HST : Hid (fldK s (k + 1) = (if (fldK s k).2 < k then (fldK s k).1 ++ [s.extract (fldK s k).2 k] else (fldK s k).1, k + 1)) := Lib.hid (fld_no (by
                rcases hsp with h | ⟨b, _, hb, h, _⟩
                · exact .inl (by omega)
                · right
                  rw [getD_some hb]
                  exact UInt8.toNat_inj.1 h))
              have HS1 : Hid (startI s (k + 1) = -1) := Lib.hid (by unfold startI; rw [HST.out, if_neg (by omega)])
              have hcond : (((k : Int) == ((s.size : Nat) : Int)) = true) ∨ ((((k : Int) == ((s.size : Nat) : Int)) = false) ∧ ∀ w, (Instr.index 9 (.string s) (.int .i64 (k : Int))).run Tryd.prog w = .ok (.int .u8 32) w) := by
                rcases hsp with h | ⟨b, g, _, h, hix⟩
                · left; rw [beq_iff_eq]; omega
                · right
                  refine ⟨by rw [beq_eq_false_iff_ne]; omega, fun w => ?_⟩
                  rw [hix, h]
                  rfl
              clear hsp
              by_cases hs : (fldK s k).2 < k
              · have HS2 : Hid (startI s k = ((fldK s k).2 : Int)) := Lib.hid (by unfold startI; rw [if_pos hs])
                rw [HS2.out]
                rw [if_pos hs] at HST
                have f3 : ¬ (((fldK s k).2 : Nat) : Int) < 0 := by omega
                have f4 : (0 : Int) ≤ (((fldK s k).2 : Nat) : Int) := by omega
                have hsl : ∀ w, (Instr.slice 9 (.string s) (some (.int .i64 (((fldK s k).2 : Nat) : Int))) (some (.int .i64 (k : Int))) none).run Tryd.prog w = .ok (.string (s.extract (fldK s k).2 k)) w := fun w => by
                  rw [run_slice_string w 9 s .i64 .i64 _ _ Tryd.underlying9 (by omega) (by omega) (by omega)]
                  simp
                have hpl' : (fldK s k).1.length ≤ 1048576 := by omega
                have hlo := ho.lt
                have HK : Hid (fldK s (k + 1) = ((fldK s k).1 ++ [s.extract (fldK s k).2 k], k + 1)) := Lib.hid HST.out
                clear HST
                generalize (fldK s k).1 = xs at *
                generalize s.extract (fldK s k).2 k = T at *
                generalize (fldK s k).2 = G at *
                rcases hcond with f1 | ⟨f1, hix⟩
                all_goals
                  go_wp2_with (at_builtin; refine wpList_append_s1 rfl _ _ rfl wo.heap.size i0 hi iz0 iz1 iz2 _ xs T rfl wr.heap.size rfl (by simp [go_sem]) (ho.alloc _) hpl' (by simp; omega) ?_)
                  intro v3 w3 ho3 hg3
                  have hz3 := hg3.size
                  simp at hz3
                  have hbw3 : Below wo.heap.size wo w3 := (hbl.alloc hsz (.cells #[.string T] 9)).grown hg3 (by simp; omega) (fun k hk => by have := (hlo k hk).1; omega)
                  have HO3 := Lib.hid ho3
                  clear ho hbl hg3 ho3
                  go_wp2
                  go_roundw
                  case rel => exact ⟨k + 1, by omega, by go_num, by rw [HS1.out], by rw [HK.out]; exact HO3.out, hbw3⟩
                  case measure => simp [intOf]; omega
              · have HS2 : Hid (startI s k = -1) := Lib.hid (by unfold startI; rw [if_neg hs])
                rw [HS2.out]
                rw [if_neg hs] at HST
                rcases hcond with f1 | ⟨f1, hix⟩
                all_goals
                  go_wp2
                  go_roundw
                  case rel => exact ⟨k + 1, by omega, by go_num, by rw [HS1.out], by rw [HST.out]; exact ho, hbl⟩
                  case measure => simp [intOf]; omega
          · have hkk : k = s.size + 1 := by omega
            subst hkk
            have g1 : ¬ ((s.size + 1 : Nat) : Int) ≤ ((s.size : Nat) : Int) := by omega
            have HLL : Hid ((fldK s (s.size + 1)).1 = fldL s) := Lib.hid rfl
            rw [HLL.out] at ho hct
            obtain ⟨A, c, hv⟩ := ho.slice
            subst hv
            have HF := Lib.hid (HFN.out HAL.out)
            by_cases h24 : 24 < (fldL s).length
            · have HU := Lib.hid (fldB_many h24)
              have g2 : (24 : Int) < (((fldL s).length : Nat) : Int) := by omega
              go_wp2
              go_ret2
              exact ⟨.slice none 0 0, (by rw [HU.out]; rfl), fun h2 => (by rw [HU.out] at h2; cases h2), hbl⟩
            · have HU := Lib.hid (HF.out (by omega))
              have g2 : ¬ (24 : Int) < (((fldL s).length : Nat) : Int) := by omega
              go_wp2
              go_ret2
              exact ⟨.slice A (fldL s).length c, (by rw [HU.out]; rfl), fun _ => ho, hbl⟩

end Go.Proofs.YtbennlajjfkdpaaDoor
