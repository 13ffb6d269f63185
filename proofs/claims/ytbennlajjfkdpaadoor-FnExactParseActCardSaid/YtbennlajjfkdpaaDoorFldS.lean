/-
  A line's words: the reference's side.
-/
import Derived.Test.YtbennlajjfkdpaaDoorFld
set_option linter.unusedSimpArgs false
set_option linter.unusedVariables false
namespace Go.Proofs.YtbennlajjfkdpaaDoor
open Go.RowKit

theorem OwnS.made {base : Nat} {w : World} {g : Nat} (hg : g = w.heap.size) (hb : base ≤ w.heap.size) : OwnS base (w.alloc (.cells #[] 9)) (.slice (some ⟨g, 0, none⟩) 0 0) [] := by
  subst hg
  exact World.ownsRow_made _ _ _ hb (by simp) (by simp [maxLen])

set_option maxHeartbeats 16000000 in
set_option maxRecDepth 100000 in
theorem sFld_any (s : ByteArray) (w : World) : Calls Tryd.prog 13 #[.string s] w (RetFl s w) := by
  by_cases h6 : 600 < s.size
  · have HU := Lib.hid (fldB_long h6)
    have e1 : (600 : Int) < ((s.size : Nat) : Int) := by omega
    have hb0 : Below w.heap.size w (w.alloc (.cells #[] 9)) := (Below.refl _ _).alloc (Nat.le_refl _) _
    go_enter Tryd.func13, Tryd.ntmps13
    go_wp2
    go_ret2
    exact ⟨.slice (some ⟨w.heap.size, 0, none⟩) 0 0, (by rw [HU.out]; rfl), fun h2 => (by rw [HU.out] at h2; cases h2), hb0⟩
  · have e1 : ¬ (600 : Int) < ((s.size : Nat) : Int) := by omega
    have HBY : Hid (∀ i : Nat, i < s.size → ∃ b : UInt8, s.data.toList[i]? = some b ∧ ∀ w, (Instr.index 9 (.string s) (.int .i64 (i : Int))).run Tryd.prog w = .ok (.int .u8 (b.toNat : Int)) w) := Lib.hid (fun i hi => byteF_at s i hi)
    have HBD : Hid (∀ b : UInt8, b ∈ s.data.toList → (b.toNat < 32 ∨ 126 < b.toNat) → fldB s = false) := Lib.hid (fun b hb h => fldB_bad hb h)
    have hL : s.data.toList.length = s.size := by simp
    have HFN : Hid ((∀ j (hj : j < s.data.toList.length), 32 ≤ s.data.toList[j].toNat ∧ s.data.toList[j].toNat ≤ 126) → (fldL s).length ≤ 24 → fldB s = true) := Lib.hid (fun h2 h3 => fldB_fine (by omega) h2 h3)
    obtain ⟨i0, hi, iz0, iz1, iz2⟩ := info_parts infoStr
    have HF0 : Hid ((fldK s 0).2 = 0 ∧ (fldK s 0).1 = []) := Lib.hid ⟨rfl, rfl⟩
    have hb0 : Below w.heap.size w (w.alloc (.cells #[] 9)) := (Below.refl _ _).alloc (Nat.le_refl _) _
    have ho0 : OwnS w.heap.size (w.alloc (.cells #[] 9)) (.slice (some ⟨w.heap.size, 0, none⟩) 0 0) [] := OwnS.made rfl (Nat.le_refl _)
    have HO0 := Lib.hid ho0
    have HB0 := Lib.hid hb0
    clear ho0 hb0
    go_enter Tryd.func13, Tryd.ntmps13
    go_wp2
    go_loopw [4, 5, 6] (fun v st i wr => ∃ k : Nat, k ≤ s.size + 1 ∧ i = .int .i64 k ∧ st = .int .i64 ((fldK s k).2 : Nat) ∧ OwnS w.heap.size wr v (fldK s k).1 ∧ Hid (∀ j (hj : j < s.data.toList.length), j < k → 32 ≤ s.data.toList[j].toNat ∧ s.data.toList[j].toNat ≤ 126) ∧ Below w.heap.size w wr) (fun _ _ i _ => s.size + 1 - (intOf i).toNat)
    case atStart => exact ⟨0, Nat.zero_le _, rfl, by rw [HF0.out.1]; rfl, by rw [HF0.out.2]; exact HO0.out, Lib.hid (fun j hj h => by omega), HB0.out⟩
    case round =>
      obtain ⟨k, hk, rfl, rfl, ho, hd, hbl⟩ := hrel
      have hbg := fld_beg s k
      have hct := fld_cnt s k
      clear HO0 HB0 HF0
      by_cases hle : k ≤ s.size
      · have g1 : (k : Int) ≤ ((s.size : Nat) : Int) := by omega
        have hsz := hbl.size
        by_cases hlt : k < s.size
        · obtain ⟨b, hb, hix⟩ := HBY.out k hlt
          have hm : b ∈ s.data.toList := List.mem_of_getElem? hb
          have c2 : (k : Int) < ((s.size : Nat) : Int) := by omega
          have HBB := Lib.hid (HBD.out b hm)
          have HDN : Hid (32 ≤ b.toNat ∧ b.toNat ≤ 126 → ∀ j (hj : j < s.data.toList.length), j < k + 1 → 32 ≤ s.data.toList[j].toNat ∧ s.data.toList[j].toNat ≤ 126) := Lib.hid (fun h57 j hj hjk => by
            rcases Nat.lt_or_ge j k with g | g
            · exact hd.out j hj g
            · have e : j = k := by omega
              subst e
              rw [List.getElem?_eq_getElem hj] at hb
              rw [Option.some.inj hb]; exact h57)
          have HY : Hid (¬ b.toNat = 32 → fldK s (k + 1) = fldK s k) := Lib.hid (fun h => fld_yes hlt (by
            rw [getD_some hb]
            intro hc
            subst hc
            exact h rfl))
          have HN : Hid (b.toNat = 32 → fldK s (k + 1) = (if (fldK s k).2 < k then (fldK s k).1 ++ [s.extract (fldK s k).2 k] else (fldK s k).1, k + 1)) := Lib.hid (fun h => fld_no (.inr (by
            rw [getD_some hb]
            exact UInt8.toNat_inj.1 h)))
          clear hb hm hd
          generalize b.toNat = B at *
          by_cases h32 : B < 32
          · have HU := Lib.hid (HBB.out (.inl h32))
            have d1 : (B : Int) < 32 := by omega
            go_wp2
            go_ret2
            exact ⟨.slice (some ⟨wr.heap.size, 0, none⟩) 0 0, (by rw [HU.out]; rfl), fun h2 => (by rw [HU.out] at h2; cases h2), hbl.alloc hsz _⟩
          · by_cases h126 : 126 < B
            · have HU := Lib.hid (HBB.out (.inr h126))
              have d1 : ¬ (B : Int) < 32 := by omega
              have d2 : (126 : Int) < (B : Int) := by omega
              go_wp2
              go_ret2
              exact ⟨.slice (some ⟨wr.heap.size, 0, none⟩) 0 0, (by rw [HU.out]; rfl), fun h2 => (by rw [HU.out] at h2; cases h2), hbl.alloc hsz _⟩
            · have d1 : ¬ (B : Int) < 32 := by omega
              have d2 : ¬ (126 : Int) < (B : Int) := by omega
              have HD := Lib.hid (HDN.out ⟨by omega, by omega⟩)
              by_cases he : B = 32
              · have HST := Lib.hid (HN.out he)
                have f1 : (((B : Nat) : Int) != 32) = false := by simp [he]
                clear HN HY HBB HDN
                by_cases hs : (fldK s k).2 < k
                · rw [if_pos hs] at HST
                  have f4 : (((fldK s k).2 : Nat) : Int) < (k : Int) := by omega
                  have hsl : ∀ w, (Instr.slice 9 (.string s) (some (.int .i64 (((fldK s k).2 : Nat) : Int))) (some (.int .i64 (k : Int))) none).run Tryd.prog w = .ok (.string (s.extract (fldK s k).2 k)) w := fun w => by
                    rw [run_slice_string w 9 s .i64 .i64 _ _ Tryd.underlying9 (by omega) (by omega) (by omega)]
                    simp
                  have hpl' : (fldK s k).1.length ≤ 1048576 := by omega
                  have hlo := ho.lt
                  have hw1 : IntKind.i64.wrap ((k : Int) + 1) = ((k + 1 : Nat) : Int) := by rw [show (k : Int) + 1 = ((k + 1 : Nat) : Int) by omega]; exact IntWalk.i64_in _ (by omega)
                  have HK : Hid (fldK s (k + 1) = ((fldK s k).1 ++ [s.extract (fldK s k).2 k], k + 1)) := Lib.hid HST.out
                  clear HST
                  generalize (fldK s k).1 = xs at *
                  generalize s.extract (fldK s k).2 k = T at *
                  generalize (fldK s k).2 = G at *
                  go_wp2_with (at_builtin; refine wpList_append_s1 rfl _ _ rfl w.heap.size i0 hi iz0 iz1 iz2 _ xs T rfl wr.heap.size rfl (by simp [go_sem]) (ho.alloc _) hpl' (by simp; omega) ?_)
                  intro v3 w3 ho3 hg3
                  have hz3 := hg3.size
                  simp at hz3
                  have hbw3 : Below w.heap.size w w3 := (hbl.alloc hsz (.cells #[.string T] 9)).grown hg3 (by simp; omega) (fun k hk => by have := (hlo k hk).1; omega)
                  have HO3 := Lib.hid ho3
                  clear ho hbl hg3 ho3
                  go_wp2
                  go_roundw
                  case rel => exact ⟨k + 1, by omega, by go_num, by rw [HK.out]; rfl, by rw [HK.out]; exact HO3.out, HD, hbw3⟩
                  case measure => simp [intOf]; omega
                · rw [if_neg hs] at HST
                  have f4 : ¬ (((fldK s k).2 : Nat) : Int) < (k : Int) := by omega
                  have hw1 : IntKind.i64.wrap ((k : Int) + 1) = ((k + 1 : Nat) : Int) := by rw [show (k : Int) + 1 = ((k + 1 : Nat) : Int) by omega]; exact IntWalk.i64_in _ (by omega)
                  go_wp2
                  go_roundw
                  case rel => exact ⟨k + 1, by omega, by go_num, by rw [HST.out]; rfl, by rw [HST.out]; exact ho, HD, hbl⟩
                  case measure => simp [intOf]; omega
              · have HST := Lib.hid (HY.out he)
                have f1 : (((B : Nat) : Int) != 32) = true := by simp; omega
                clear HN HY HBB HDN
                go_wp2
                go_roundw
                case rel => exact ⟨k + 1, by omega, by go_num, by rw [HST.out], by rw [HST.out]; exact ho, HD, hbl⟩
                case measure => simp [intOf]; omega
        · have hkk : k = s.size := by omega
          subst hkk
          have c2 : ¬ ((s.size : Nat) : Int) < ((s.size : Nat) : Int) := by omega
          have HST : Hid (fldK s (s.size + 1) = (if (fldK s s.size).2 < s.size then (fldK s s.size).1 ++ [s.extract (fldK s s.size).2 s.size] else (fldK s s.size).1, s.size + 1)) := Lib.hid (fld_no (.inl (Nat.le_refl _)))
          have HD : Hid (∀ j (hj : j < s.data.toList.length), j < s.size + 1 → 32 ≤ s.data.toList[j].toNat ∧ s.data.toList[j].toNat ≤ 126) := Lib.hid (fun j hj _ => hd.out j hj (by omega))
          have hw1 : IntKind.i64.wrap ((s.size : Int) + 1) = ((s.size + 1 : Nat) : Int) := by rw [show (s.size : Int) + 1 = ((s.size + 1 : Nat) : Int) by omega]; exact IntWalk.i64_in _ (by omega)
          clear hd
          by_cases hs : (fldK s s.size).2 < s.size
          · rw [if_pos hs] at HST
            have f4 : (((fldK s s.size).2 : Nat) : Int) < (s.size : Int) := by omega
            have hsl : ∀ w, (Instr.slice 9 (.string s) (some (.int .i64 (((fldK s s.size).2 : Nat) : Int))) (some (.int .i64 (s.size : Int))) none).run Tryd.prog w = .ok (.string (s.extract (fldK s s.size).2 s.size)) w := fun w => by
              rw [run_slice_string w 9 s .i64 .i64 _ _ Tryd.underlying9 (by omega) (by omega) (by omega)]
              simp
            have hpl' : (fldK s s.size).1.length ≤ 1048576 := by omega
            have hlo := ho.lt
            have HK : Hid (fldK s (s.size + 1) = ((fldK s s.size).1 ++ [s.extract (fldK s s.size).2 s.size], s.size + 1)) := Lib.hid HST.out
            clear HST
            generalize (fldK s s.size).1 = xs at *
            generalize s.extract (fldK s s.size).2 s.size = T at *
            generalize (fldK s s.size).2 = G at *
            go_wp2_with (at_builtin; refine wpList_append_s1 rfl _ _ rfl w.heap.size i0 hi iz0 iz1 iz2 _ xs T rfl wr.heap.size rfl (by simp [go_sem]) (ho.alloc _) hpl' (by simp; omega) ?_)
            intro v3 w3 ho3 hg3
            have hz3 := hg3.size
            simp at hz3
            have hbw3 : Below w.heap.size w w3 := (hbl.alloc hsz (.cells #[.string T] 9)).grown hg3 (by simp; omega) (fun k hk => by have := (hlo k hk).1; omega)
            have HO3 := Lib.hid ho3
            clear ho hbl hg3 ho3
            go_wp2
            go_roundw
            case rel => exact ⟨s.size + 1, by omega, by go_num, by rw [HK.out]; rfl, by rw [HK.out]; exact HO3.out, HD, hbw3⟩
            case measure => simp [intOf]
          · rw [if_neg hs] at HST
            have f4 : ¬ (((fldK s s.size).2 : Nat) : Int) < (s.size : Int) := by omega
            go_wp2
            go_roundw
            case rel => exact ⟨s.size + 1, by omega, by go_num, by rw [HST.out]; rfl, by rw [HST.out]; exact ho, HD, hbl⟩
            case measure => simp [intOf]
      · have hkk : k = s.size + 1 := by omega
        subst hkk
        have g1 : ¬ ((s.size + 1 : Nat) : Int) ≤ ((s.size : Nat) : Int) := by omega
        have HLL : Hid ((fldK s (s.size + 1)).1 = fldL s) := Lib.hid rfl
        rw [HLL.out] at ho hct
        obtain ⟨A, c, hv⟩ := ho.slice
        subst hv
        have HF := Lib.hid (HFN.out (fun j hj => hd.out j hj (by omega)))
        have hsz := hbl.size
        clear hd
        by_cases h24 : 24 < (fldL s).length
        · have HU := Lib.hid (fldB_many h24)
          have g2 : (24 : Int) < (((fldL s).length : Nat) : Int) := by omega
          go_wp2
          go_ret2
          exact ⟨.slice (some ⟨wr.heap.size, 0, none⟩) 0 0, (by rw [HU.out]; rfl), fun h2 => (by rw [HU.out] at h2; cases h2), hbl.alloc hsz _⟩
        · have HU := Lib.hid (HF.out (by omega))
          have g2 : ¬ (24 : Int) < (((fldL s).length : Nat) : Int) := by omega
          go_wp2
          go_ret2
          exact ⟨.slice A (fldL s).length c, (by rw [HU.out]; rfl), fun _ => ho, hbl⟩

end Go.Proofs.YtbennlajjfkdpaaDoor
