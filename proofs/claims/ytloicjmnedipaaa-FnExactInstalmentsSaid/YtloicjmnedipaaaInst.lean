/-
  Instalments.
-/
import Derived.Test.YtloicjmnedipaaaSmall
import Derived.Test.YtloicjmnedipaaaOwn
set_option linter.unusedSimpArgs false
set_option linter.unusedVariables false
namespace Go.Proofs.Ytloicjmnedipaaa
open Go.RowKit

def partF (total n : Int) (k : Nat) : Int := total / n + if (k : Int) < total % n then 1 else 0
theorem partF_yes {total n : Int} {k : Nat} (h : (k : Int) < total % n) : partF total n k = total / n + 1 := by simp [partF, h]
theorem partF_no {total n : Int} {k : Nat} (h : ¬ (k : Int) < total % n) : partF total n k = total / n := by simp [partF, h]
def instF (total n : Int) (k : Nat) : List Int := (List.range k).map (partF total n)
theorem instF_succ (total n : Int) (k : Nat) : instF total n (k + 1) = instF total n k ++ [partF total n k] := by simp [instF, List.range_succ]
theorem instF_length (total n : Int) (k : Nat) : (instF total n k).length = k := by simp [instF]
def instAll (total n : Int) : List Int := if inB total 0 100000000 && inB n 1 24 then instF total n n.toNat else []

set_option maxHeartbeats 2000000 in
set_option maxRecDepth 100000 in
theorem iInst_any (total n : Int) (w : World) :
    Calls Try.prog 35 #[.int .i64 total, .int .i64 n] w (RetI (instAll total n) w) := by
  cases h1 : inB total 0 100000000
  · have hr : instAll total n = [] := by simp [instAll, h1]
    rw [hr]
    have H1 := Lib.hid h1
    clear h1 hr
    go_enter Try.func35, Try.ntmps35
    go_wp2_with (go_at_call 101; refine (within_any _ _ _ _).mono ?_; rintro e w' ⟨rfl, rfl⟩; rw [H1.out])
    go_ret
    exact ⟨_, rfl, OwnI.nil _ _, Below.refl _ _⟩
  · cases h2 : inB n 1 24
    · have hr : instAll total n = [] := by simp [instAll, h2]
      rw [hr]
      have H1 := Lib.hid h1
      have H2 := Lib.hid h2
      clear h1 h2 hr
      go_enter Try.func35, Try.ntmps35
      go_wp2_with fail
      refine (within_any _ _ _ _).mono ?_
      rintro e w' ⟨rfl, rfl⟩
      rw [H1.out]
      go_wp2_with fail
      refine (within_any _ _ _ _).mono ?_
      rintro e w' ⟨rfl, rfl⟩
      rw [H2.out]
      go_wp2
      go_ret
      exact ⟨_, rfl, OwnI.nil _ _, Below.refl _ _⟩
    · have hr : instAll total n = instF total n n.toNat := by simp [instAll, h1, h2]
      rw [hr]
      obtain ⟨b1, b2⟩ := inB_true.1 h1
      obtain ⟨b3, b4⟩ := inB_true.1 h2
      have H1 := Lib.hid h1
      have H2 := Lib.hid h2
      clear h1 h2 hr
      obtain ⟨i0, hi, hz0, hz1, hz2⟩ := info_parts infoInt
      obtain ⟨m, rfl⟩ := Int.eq_ofNat_of_zero_le (show 0 ≤ n by omega)
      have q1 : 0 ≤ total / (m : Int) := Int.ediv_nonneg b1 (by omega)
      have q2 : total / (m : Int) ≤ 100000000 := Int.le_trans (Int.ediv_le_self _ b1) b2
      have q3 : 0 ≤ total % (m : Int) := Int.emod_nonneg _ (by omega)
      have q4 : total % (m : Int) < m := Int.emod_lt_of_pos _ (by omega)
      have hne : ¬ (m : Int) = 0 := by omega
      go_enter Try.func35, Try.ntmps35
      go_wp2_with fail
      refine (within_any _ _ _ _).mono ?_
      rintro e w' ⟨rfl, rfl⟩
      rw [H1.out]
      go_wp2_with fail
      refine (within_any _ _ _ _).mono ?_
      rintro e w' ⟨rfl, rfl⟩
      rw [H2.out]
      go_wp2
      go_loopw [5, 6] (fun v i wr => ∃ k : Nat, k ≤ m ∧ i = .int .i64 k ∧ OwnI w.heap.size wr v (instF total m k) ∧ Below w.heap.size w wr) (fun _ i _ => m - (intOf i).toNat)
      case atStart => exact ⟨0, Nat.zero_le _, rfl, OwnI.nil _ _, Below.refl _ _⟩
      case round =>
        obtain ⟨k, hk, rfl, hown, hbl⟩ := hrel
        have hsz := hbl.size
        have hlen := instF_length total m k
        by_cases hlt : k < m
        · have HS := Lib.hid (instF_succ total m k)
          have HL := Lib.hid hlen
          clear hlen
          go_wp2_with (at_builtin; refine wpList_append_own _ rfl _ _ 42 rfl w.heap.size 3 i0 (.int .i64 0) 1 8 Try.underlying42 hi hz0 hz1 hz2 rfl (by decide) _ _ _ rfl (World.ownsRow.alloc hown _) ⟨wr.heap.size, 0, none⟩ 1 1 [.int .i64 _] rfl rfl (cell_one_new _ _ _) (by intro u hu; simp at hu; subst hu; rfl) (by rw [HL.out]; unfold maxLen; omega) (by rw [HL.out]; omega) (by simp; omega) ?_)
          all_goals
            intro v' w1 hown1 hg1 _
            have hbl1 : Below w.heap.size w w1 := (hbl.alloc hsz _).grown hg1 (by simp; omega) (fun k hk => (hown.lt k hk).1)
            have HO : OwnI w.heap.size w1 v' (instF total m (k + 1)) := by
              rw [HS.out]
              refine OwnI.snoc ?_
              first
                | (rw [partF_yes (show (k : Int) < total % m by assumption)]; exact hown1)
                | (rw [partF_no (show ¬ (k : Int) < total % m by omega)]; exact hown1)
            clear hown1 hg1 hown hbl
            go_wp2
            go_roundw
            case rel => exact ⟨k + 1, by omega, by go_num, HO, hbl1⟩
            case measure => simp [intOf]; omega
        · have hkm : k = m := by omega
          subst hkm
          have HO := Lib.hid hown
          have HB := Lib.hid hbl
          clear hown hbl hlen
          go_wp2
          go_ret
          exact ⟨_, rfl, by simpa using HO.out, HB.out⟩

set_option maxHeartbeats 2000000 in
set_option maxRecDepth 100000 in
theorem sInst_any (total n : Int) (w : World) :
    Calls Try.prog 34 #[.int .i64 total, .int .i64 n] w (RetI (instAll total n) w) := by
  cases h1 : inB total 0 100000000
  · have hr : instAll total n = [] := by simp [instAll, h1]
    rw [hr]
    have H1 := Lib.hid h1
    clear h1 hr
    go_enter Try.func34, Try.ntmps34
    go_wp2_with (go_at_call 99; refine (l01In_any _ _ _ _).mono ?_; rintro e w' ⟨rfl, rfl⟩; rw [H1.out])
    go_ret
    exact ⟨_, rfl, World.ownsRow_made _ _ _ (by simp) (by simp [maxLen]) (by simp), (Below.refl _ _).alloc (Nat.le_refl _) _⟩
  · cases h2 : inB n 1 24
    · have hr : instAll total n = [] := by simp [instAll, h2]
      rw [hr]
      have H1 := Lib.hid h1
      have H2 := Lib.hid h2
      clear h1 h2 hr
      go_enter Try.func34, Try.ntmps34
      go_wp2_with fail
      refine (l01In_any _ _ _ _).mono ?_
      rintro e w' ⟨rfl, rfl⟩
      rw [H1.out]
      go_wp2_with fail
      refine (l01In_any _ _ _ _).mono ?_
      rintro e w' ⟨rfl, rfl⟩
      rw [H2.out]
      go_wp2
      go_ret
      exact ⟨_, rfl, World.ownsRow_made _ _ _ (by simp) (by simp [maxLen]) (by simp), (Below.refl _ _).alloc (Nat.le_refl _) _⟩
    · have hr : instAll total n = instF total n n.toNat := by simp [instAll, h1, h2]
      rw [hr]
      obtain ⟨b1, b2⟩ := inB_true.1 h1
      obtain ⟨b3, b4⟩ := inB_true.1 h2
      have H1 := Lib.hid h1
      have H2 := Lib.hid h2
      clear h1 h2 hr
      obtain ⟨i0, hi, hz0, hz1, hz2⟩ := info_parts infoInt
      obtain ⟨m, rfl⟩ := Int.eq_ofNat_of_zero_le (show 0 ≤ n by omega)
      have q1 : 0 ≤ total / (m : Int) := Int.ediv_nonneg b1 (by omega)
      have q2 : total / (m : Int) ≤ 100000000 := Int.le_trans (Int.ediv_le_self _ b1) b2
      have q3 : 0 ≤ total % (m : Int) := Int.emod_nonneg _ (by omega)
      have q4 : total % (m : Int) < m := Int.emod_lt_of_pos _ (by omega)
      have hne : ¬ (m : Int) = 0 := by omega
      go_enter Try.func34, Try.ntmps34
      go_wp2_with fail
      refine (l01In_any _ _ _ _).mono ?_
      rintro e w' ⟨rfl, rfl⟩
      rw [H1.out]
      go_wp2_with fail
      refine (l01In_any _ _ _ _).mono ?_
      rintro e w' ⟨rfl, rfl⟩
      rw [H2.out]
      go_wp2
      go_loopw [5, 6] (fun v i wr => ∃ k : Nat, k ≤ m ∧ i = .int .i64 k ∧ OwnI w.heap.size wr v (instF total m k) ∧ Below w.heap.size w wr) (fun _ i _ => m - (intOf i).toNat)
      case atStart => exact ⟨0, Nat.zero_le _, rfl, World.ownsRow_made _ _ _ (by simp) (by simp [maxLen]) (by simp), (Below.refl _ _).alloc (Nat.le_refl _) _⟩
      case round =>
        obtain ⟨k, hk, rfl, hown, hbl⟩ := hrel
        have hsz := hbl.size
        have hlen := instF_length total m k
        by_cases hlt : k < m
        · have HS := Lib.hid (instF_succ total m k)
          have HL := Lib.hid hlen
          clear hlen
          go_wp2_with (at_builtin; refine wpList_append_own _ rfl _ _ 42 rfl w.heap.size 3 i0 (.int .i64 0) 1 8 Try.underlying42 hi hz0 hz1 hz2 rfl (by decide) _ _ _ rfl (World.ownsRow.alloc hown _) ⟨wr.heap.size, 0, none⟩ 1 1 [.int .i64 _] rfl rfl (cell_one_new _ _ _) (by intro u hu; simp at hu; subst hu; rfl) (by rw [HL.out]; unfold maxLen; omega) (by rw [HL.out]; omega) (by simp; omega) ?_)
          all_goals
            intro v' w1 hown1 hg1 _
            have hbl1 : Below w.heap.size w w1 := (hbl.alloc hsz _).grown hg1 (by simp; omega) (fun k hk => (hown.lt k hk).1)
            have HO : OwnI w.heap.size w1 v' (instF total m (k + 1)) := by
              rw [HS.out]
              refine OwnI.snoc ?_
              first
                | (rw [partF_yes (show (k : Int) < total % m by assumption)]; exact hown1)
                | (rw [partF_no (show ¬ (k : Int) < total % m by omega)]; exact hown1)
            clear hown1 hg1 hown hbl
            go_wp2
            go_roundw
            case rel => exact ⟨k + 1, by omega, by go_num, HO, hbl1⟩
            case measure => simp [intOf]; omega
        · have hkm : k = m := by omega
          subst hkm
          have HO := Lib.hid hown
          have HB := Lib.hid hbl
          clear hown hbl hlen
          go_wp2
          go_ret
          exact ⟨_, rfl, by simpa using HO.out, HB.out⟩

end Go.Proofs.Ytloicjmnedipaaa
