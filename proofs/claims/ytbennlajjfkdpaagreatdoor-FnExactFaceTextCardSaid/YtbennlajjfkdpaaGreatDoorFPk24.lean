/- part 24 -/
import Derived.Test.YtbennlajjfkdpaaGreatDoorFPk19
import Derived.Shelf.Abstract
import Derived.BigRegion
set_option linter.unusedSimpArgs false
set_option linter.unusedVariables false
namespace Go.Proofs.YtbennlajjfkdpaaGreatDoor
open Go.RowKit
def CmpAt (f : Nat) (lb : Array Value) (G : List Nat) (c : Nat → Nat → Int) (g : Option Nat) (w : World) : Prop :=
  ∀ (v : World) (d e : Nat), d ∈ G → e ∈ G → w.grownBy v g → Calls Tryz.prog f (#[.int .i64 d, .int .i64 e] ++ lb) v fun en v' => en = .returned (.int .i64 (c d e)) ∧ Below v.heap.size v v'
theorem grown_bel {w v v' : World} {row : Option Nat} (h : w.grownBy v row) (hb : Below v.heap.size v v') : w.grownBy v' row :=
  ⟨hb.os.trans h.os, hb.tape.trans h.tape, hb.output.trans h.output, Nat.le_trans h.size hb.size, fun i hi hne => (hb.block i (Nat.lt_of_lt_of_le hi h.size)).trans (h.block i hi hne)⟩
theorem grown_refl (w : World) (row : Option Nat) : w.grownBy w row := ⟨rfl, rfl, rfl, Nat.le_refl _, fun _ _ _ => rfl⟩
theorem grown_set {w v : World} {g : Nat} (h : w.grownBy v (some g)) (i : Nat) (x : Value) : w.grownBy (v.setCell ⟨g, i, none⟩ x) (some g) :=
  ⟨h.os, h.tape, h.output, by simpa [World.setCell] using h.size, fun j hj hne => (Below.heap_setCell v ⟨g, i, none⟩ x j (fun e => hne (by rw [e]))).trans (h.block j hj hne)⟩
theorem grown_drew {w v : World} {row : Option Nat} (h : w.grownBy v row) : w.grownBy v.drew row := ⟨h.os, h.tape, h.output, h.size, h.block⟩
theorem isoK_mem (lt : Nat → Nat → Bool) (G : List Nat) (e : Nat) : ∀ i, i ≤ G.length → e ∈ isoK lt G i → e ∈ G
  | 0, _, h => by simp [isoK_zero] at h
  | i + 1, hi, h => by
    rw [isoK_succ lt G i (by omega)] at h
    rcases insN_mem h with rfl | h
    · exact List.getElem_mem _
    · exact isoK_mem lt G e i (by omega) h
theorem isoH_one (lt : Nat → Nat → Bool) (G : List Nat) (h : 0 < G.length) : isoH lt G 1 = natI G := by
  have h1 := isoR_end lt G 0 h
  have h2 : posN (lt G[0]) (isoK lt G 0) 0 = 0 := rfl
  rw [h2, isoR_start lt G 0 h, isoH_zero] at h1
  exact h1.symm
set_option maxHeartbeats 4000000 in
set_option maxRecDepth 100000 in
theorem insSort_any (base f g cap : Nat) (lb : Array Value) (G : List Nat) (c : Nat → Nat → Int) (lt : Nat → Nat → Bool) (w : World) (hc : CmpAt f lb G c (some g) w) (hlt : ∀ d e, decide (c d e < 0) = lt d e)
    (ho : OwnI base w (.slice (some ⟨g, 0, none⟩) G.length cap) (natI G)) (h12 : G.length ≤ 12) (ef : Enters Tryz.prog f) :
    Calls Tryz.prog 133 #[.slice (some ⟨g, 0, none⟩) G.length cap, .int .i64 0, .int .i64 G.length, .func (.func f) #[] lb] w
      fun e w' => e = .returned (.tuple #[]) ∧ OwnI base w' (.slice (some ⟨g, 0, none⟩) G.length cap) (natI (isoK lt G G.length)) ∧ w.grownBy w' (some g) := by
  go_enter Tryz.func133, Tryz.ntmps133
  go_wp2
  go_loopw [8] (fun x wr => ∃ i : Nat, 1 ≤ i ∧ (i ≤ G.length ∨ G.length = 0) ∧ x = .int .i64 i ∧ OwnI base wr (.slice (some ⟨g, 0, none⟩) G.length cap) (isoH lt G (min i G.length)) ∧ w.grownBy wr (some g)) (fun x _ => G.length - (intOf x).toNat)
  case atStart =>
    refine ⟨1, Nat.le_refl _, by omega, rfl, ?_, grown_refl _ _⟩
    rcases Nat.eq_zero_or_pos G.length with h0 | h0
    · rw [h0, show min 1 0 = 0 from rfl, isoH_zero]; rw [h0] at ho; exact ho
    · rw [show min 1 G.length = 1 by omega, isoH_one lt G h0]; exact ho
  case round =>
    obtain ⟨i, hi1, hi2, rfl, ho2, hg⟩ := hrel
    have EF := Lib.hid ef
    clear ho ef
    by_cases hin : i < G.length
    · rw [show min i G.length = i by omega, ← isoR_start lt G i hin] at ho2
      have HE := Lib.hid (isoR_end lt G i hin)
      have hgi : G.getD i 0 = G[i] := by simp [List.getD, hin]
      have hgm : G.getD i 0 ∈ G := by rw [hgi]; exact List.getElem_mem hin
      have HKL := Lib.hid (isoK_len lt G i (by omega))
      have HKM := Lib.hid (fun e h => isoK_mem lt G e i (by omega) h)
      rw [← hgi] at HE
      have HRS := Lib.hid (fun p hp => isoR_self lt G i p hin hp)
      have HRB := Lib.hid (fun p hp => isoR_below lt G i p hin hp)
      have HSW := Lib.hid (fun p hp => isoR_swap lt G i p hin hp)
      have HRL := Lib.hid (fun p hp => isoR_len lt G i p hin hp)
      clear hgi
      generalize hD : G.getD i 0 = D at *
      have HDD := Lib.hid hD
      clear hD
      go_wp2
      go_loopw [9] (fun x wr2 => ∃ p : Nat, p ≤ i ∧ x = .int .i64 p ∧ OwnI base wr2 (.slice (some ⟨g, 0, none⟩) G.length cap) (isoR lt G i p) ∧ w.grownBy wr2 (some g) ∧ Hid (posN (lt D) (isoK lt G i) i = posN (lt D) (isoK lt G i) p)) (fun x _ => (intOf x).toNat)
      case atStart => exact ⟨i, Nat.le_refl _, rfl, ho2, hg, Lib.hid rfl⟩
      case round =>
        clear ho2 hg
        obtain ⟨p, hp, rfl, ho2, hg, HP⟩ := hrel
        by_cases hp0 : 0 < p
        · obtain ⟨r, rfl⟩ : ∃ r, p = r + 1 := ⟨p - 1, by omega⟩
          have hri : r < i := by omega
          have xs := ho2.cell (q := r + 1) (by rw [HRL.out _ hp]; omega)
          have xb := ho2.cell (q := r) (by rw [HRL.out _ hp]; omega)
          rw [HRS.out _ hp] at xs
          rw [HRB.out r hri] at xb
          have hem : (isoK lt G i).getD r 0 ∈ G := HKM.out _ (by rw [List.getD, List.getElem?_eq_getElem (by rw [HKL.out]; exact hri)]; exact List.getElem_mem _)
          have HPS : Hid (posN (lt D) (isoK lt G i) (r + 1) = if lt D ((isoK lt G i).getD r 0) then posN (lt D) (isoK lt G i) r else r + 1) := Lib.hid rfl
          have HS := Lib.hid (HSW.out r hri)
          have hl1 := hlt D ((isoK lt G i).getD r 0)
          have hcd := fun v (hv : w.grownBy v (some g)) => hc v D ((isoK lt G i).getD r 0) hgm hem hv
          generalize (isoK lt G i).getD r 0 = e at *
          rw [← hl1] at HPS
          generalize c D e = z at *
          have HC := Lib.hid hcd
          clear hcd hl1 hem
          have hp1 : (0 : Int) < ((r + 1 : Nat) : Int) := by omega
          have hsub : (((r + 1 : Nat) : Int)) - 1 = (r : Int) := by omega
          have ir1 : (0 : Int) ≤ (r : Int) := by omega
          have ir2 : (r : Int) < (G.length : Int) := by omega
          have ir3 : ((r + 1 : Nat) : Int) < (G.length : Int) := by omega
          have ir4 : (0 : Int) ≤ ((r + 1 : Nat) : Int) := by omega
          have hgs := (ho2.lt g rfl).2
          have f0 := ho2.frz r
          have f1 := ho2.frz (r + 1)
          clear hc hlt
          have hef : ∀ (args : Array Value) (w : World), (callFunc f args).run Tryz.prog w = .ok (.enter f args) w := EF.out
          go_wp2_with fail
          (refine wp_region_quietG (by kernel_rfl) (by kernel_rfl) (fun hG => ?_))
          repeat (go_big_quiet_step ((go_at_fn f; exact quietG (HC.out _ (grown_bel hg (Grw.below _))))))
          refine wpQuiet_nil ?_
          clear hG
          rintro w3 ⟨⟨_, hb3⟩, rfl⟩
          have ho3 := ho2.kept hb3
          have hg3 := grown_bel hg hb3
          have g0 := ho3.frz r
          have g1 := ho3.frz (r + 1)
          have ys := ho3.cell (q := r + 1) (by rw [HRL.out _ hp]; omega)
          have yb := ho3.cell (q := r) (by rw [HRL.out _ hp]; omega)
          rw [HRS.out _ hp] at ys
          have yb' : w3.cell? ⟨g, r, none⟩ = some (.int .i64 e) := by
            have := (hb3.cell (p := ⟨g, r, none⟩) hgs).trans xb
            exact this
          clear yb f0 f1 xs xb hg hb3 hef
          by_cases hz : z < 0
          · have e1 : decide (z < 0) = true := by simp [hz]
            have HO := Lib.hid (show OwnI base ((w3.setCell ⟨g, r + 1, none⟩ (.int .i64 e)).setCell ⟨g, r, none⟩ (.int .i64 D)) (.slice (some ⟨g, 0, none⟩) G.length cap) (isoR lt G i r) by
              rw [← HS.out]
              exact (ho3.set_ (r + 1) _).set_ r _)
            have HG := Lib.hid (grown_set (grown_set hg3 (r + 1) (.int .i64 e)) r (.int .i64 D))
            have HP2 : Hid (posN (lt D) (isoK lt G i) i = posN (lt D) (isoK lt G i) r) := Lib.hid (by rw [HP.out, HPS.out, if_pos e1])
            clear ho2 ho3 hg3
            go_wp2_with fail
            go_region
            all_goals go_wp2
            all_goals go_roundw
            case rel => exact ⟨r, by omega, by go_num, HO.out, grown_drew HG.out, HP2⟩
            case measure => simp [intOf]
          · have e1 : decide (z < 0) = false := by simp [hz]
            have HP2 : Hid (posN (lt D) (isoK lt G i) i = r + 1) := Lib.hid (by rw [HP.out, HPS.out, e1]; rfl)
            have HO : Hid (OwnI base w3 (.slice (some ⟨g, 0, none⟩) G.length cap) (isoH lt G (i + 1))) := Lib.hid (by rw [← HE.out, HP2.out]; exact ho3)
            clear ho2 ho3
            go_wp2
            go_roundw
            case rel => exact ⟨i + 1, by omega, by omega, by go_num, by rw [show min (i + 1) G.length = i + 1 by omega]; exact HO.out, hg3⟩
            case measure => simp [intOf]; omega
        · have hp0' : p = 0 := by omega
          subst hp0'
          have HP2 : Hid (posN (lt D) (isoK lt G i) i = 0) := Lib.hid HP.out
          have HO : Hid (OwnI base wr (.slice (some ⟨g, 0, none⟩) G.length cap) (isoH lt G (i + 1))) := Lib.hid (by rw [← HE.out, HP2.out]; exact ho2)
          clear ho2 hc hlt hp0
          go_wp2_with fail
          (refine wp_region_quietG (by kernel_rfl) (by kernel_rfl) (fun hG => ?_))
          repeat (go_big_quiet_step (fail))
          refine wpQuiet_nil ?_
          clear hG
          rintro w3 ⟨⟨_, hb3⟩, rfl⟩
          have ho3 := HO.out.kept hb3
          have hg3 := grown_bel hg hb3
          go_wp2
          go_roundw
          case rel => exact ⟨i + 1, by omega, by omega, by go_num, by rw [show min (i + 1) G.length = i + 1 by omega]; exact ho3, hg3⟩
          case measure => simp [intOf]; omega
    · have HO : Hid (OwnI base wr (.slice (some ⟨g, 0, none⟩) G.length cap) (natI (isoK lt G G.length))) := Lib.hid (by
        rw [show min i G.length = G.length by omega, isoH_all] at ho2; exact ho2)
      clear hc hlt ho2
      go_wp2
      go_end0
      exact ⟨rfl, HO.out, hg⟩
end Go.Proofs.YtbennlajjfkdpaaGreatDoor
