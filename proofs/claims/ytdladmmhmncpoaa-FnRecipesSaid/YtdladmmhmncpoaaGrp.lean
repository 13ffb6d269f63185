/-
  The reference's groups: made, and joined.
-/
import Derived.Test.YtdladmmhmncpoaaMarkI
set_option linter.unusedSimpArgs false
set_option linter.unusedVariables false
namespace Go.Proofs.Ytdladmmhmncpoaa
open Go.RowKit

theorem runI_succ (a : Int) (n : Nat) : runI a (n + 1) = runI a n ++ [a + (n : Int)] := by simp [runI, List.range_succ]

set_option maxHeartbeats 2000000 in
set_option maxRecDepth 100000 in
theorem groups_any (n : Nat) (w : World) (hn : n ≤ 1000000) :
    Calls Try.prog 83 #[.int .i64 (n : Int)] w (RetI (runI 0 n) w) := by
  obtain ⟨i0, hi, hz0, hz1, hz2⟩ := info_parts infoInt
  go_enter Try.func83, Try.ntmps83
  go_wp2
  go_loopw [3, 4] (fun v i wr => ∃ k : Nat, k ≤ n ∧ i = .int .i64 k ∧ OwnI w.heap.size wr v (runI 0 k) ∧ Below w.heap.size w wr) (fun _ i _ => n - (intOf i).toNat)
  case atStart => exact ⟨0, Nat.zero_le _, rfl, World.ownsRow_made _ _ _ (by simp) (by simp [maxLen]) (by simp), (Below.refl _ _).alloc (Nat.le_refl _) _⟩
  case round =>
    obtain ⟨k, hk, rfl, hown, hbl⟩ := hrel
    have hsz := hbl.size
    have hlen := runI_length 0 k
    by_cases hlt : k < n
    · have HS := Lib.hid (runI_succ 0 k)
      have HL := Lib.hid hlen
      clear hlen
      go_wp2_with (at_builtin; refine wpList_append_own _ rfl _ _ 30 rfl w.heap.size 3 i0 (.int .i64 0) 1 8 Try.underlying30 hi hz0 hz1 hz2 rfl (by decide) _ _ _ rfl (World.ownsRow.alloc hown _) ⟨wr.heap.size, 0, none⟩ 1 1 [.int .i64 _] rfl rfl (cell_one_new _ _ _) (by intro u hu; simp at hu; subst hu; rfl) (by rw [HL.out]; unfold maxLen; omega) (by rw [HL.out]; omega) (by simp; omega) ?_)
      intro v' w1 hown1 hg1 _
      have hbl1 : Below w.heap.size w w1 := (hbl.alloc hsz _).grown hg1 (by simp; omega) (fun k hk => (hown.lt k hk).1)
      have HO : OwnI w.heap.size w1 v' (runI 0 (k + 1)) := by
        rw [HS.out]
        refine OwnI.snoc ?_
        rw [Int.zero_add]
        exact hown1
      clear hown1 hg1 hown hbl
      go_wp2
      go_roundw
      case rel => exact ⟨k + 1, by omega, by go_num, HO, hbl1⟩
      case measure => simp [intOf]; omega
    · have hkm : k = n := by omega
      subst hkm
      have HO := Lib.hid hown
      have HB := Lib.hid hbl
      clear hown hbl hlen
      go_wp2
      go_ret
      exact ⟨_, rfl, HO.out, HB.out⟩

/-- All u where v stood, among the first k. -/
def joinK (g : List Int) (u v : Int) (k : Nat) : List Int := (g.take k).map (fun x => if x = v then u else x) ++ g.drop k

theorem joinK_zero (g : List Int) (u v : Int) : joinK g u v 0 = g := by simp [joinK]

theorem joinK_all (g : List Int) (u v : Int) : joinK g u v g.length = g.map (fun x => if x = v then u else x) := by simp [joinK]

theorem joinK_length (g : List Int) (u v : Int) (k : Nat) : (joinK g u v k).length = g.length := by simp [joinK]; omega

theorem joinK_get (g : List Int) (u v : Int) (k : Nat) (h : k < g.length) : (joinK g u v k).getD k 0 = g.getD k 0 := by
  have e : (joinK g u v k)[k]? = g[k]? := by
    unfold joinK
    rw [List.getElem?_append_right (by simp; omega)]
    simp
    rw [Nat.min_eq_left (by omega)]
    simp
  simp [List.getD, e]

theorem joinK_hit (g : List Int) (u v : Int) (k : Nat) (h : k < g.length) (hv : g.getD k 0 = v) : joinK g u v (k + 1) = (joinK g u v k).set k u := by
  have e : g[k] = v := by simpa [List.getD, List.getElem?_eq_getElem h] using hv
  unfold joinK
  rw [List.take_succ_eq_append_getElem h, List.map_append, List.set_append, if_neg (by simp; omega)]
  have hl : (List.map (fun x => if x = v then u else x) (List.take k g)).length = k := by simp; omega
  rw [hl, Nat.sub_self, List.drop_eq_getElem_cons h, List.set_cons_zero]
  simp [e]

theorem joinK_miss (g : List Int) (u v : Int) (k : Nat) (h : k < g.length) (hv : ¬ g.getD k 0 = v) : joinK g u v (k + 1) = joinK g u v k := by
  have e : ¬ g[k] = v := by simpa [List.getD, List.getElem?_eq_getElem h] using hv
  unfold joinK
  rw [List.take_succ_eq_append_getElem h, List.map_append, List.drop_eq_getElem_cons h]
  simp [e]

/-- What l16Join leaves. -/
def joinF (g : List Int) (i j : Nat) : List Int := let u := g.getD i 0; let v := g.getD j 0; if u = v then g else g.map (fun x => if x = v then u else x)

set_option maxHeartbeats 4000000 in
set_option maxRecDepth 100000 in
theorem join_any (base : Nat) (v : Value) (g : List Int) (i j : Nat) (w : World) (h : OwnI base w v g) (hi : i < g.length) (hj : j < g.length) (hle : g.length ≤ 1000000) :
    Calls Try.prog 85 #[v, .int .i64 (i : Int), .int .i64 (j : Int)] w fun e w' => e = .returned (.bool (g.getD i 0 != g.getD j 0)) ∧ OwnI base w' v (joinF g i j) ∧ w.grownBy w' v.ownBlock := by
  rcases hcase : h.2 with ⟨rfl, hn⟩ | ⟨gb, cap, cur, rfl, hbg, hh, hnc, hcm, hsz, hxs⟩
  · exact absurd hn (by omega)
  · clear hcase hh hxs hsz
    have cellOf : ∀ (wr : World) (zs : List Int) (k : Nat), zs.length = g.length → OwnI base wr (.slice (some ⟨gb, 0, none⟩) g.length cap) zs → k < g.length → wr.cell? ⟨gb, k, none⟩ = some (.int .i64 (zs.getD k 0)) := by
      intro wr zs k hz ho hk
      unfold OwnI at ho
      rw [hz] at ho
      rw [ho.cellAt k (by omega), List.getElem?_map, List.getElem?_eq_getElem (by omega)]
      simp [vI, List.getD, List.getElem?_eq_getElem (show k < zs.length by omega)]
    have c1 := cellOf w g i rfl h hi
    have c2 := cellOf w g j rfl h hj
    have i1 : (0 : Int) ≤ (i : Int) := by omega
    have i2 : (i : Int) < (g.length : Int) := by omega
    have j1 : (0 : Int) ≤ (j : Int) := by omega
    have j2 : (j : Int) < (g.length : Int) := by omega
    by_cases huv : g.getD i 0 = g.getD j 0
    · have HF : Hid (joinF g i j = g) := Lib.hid (by unfold joinF; simp only; rw [if_pos huv])
      rw [huv] at c1
      obtain ⟨x, hx⟩ : ∃ x, g.getD j 0 = x := ⟨_, rfl⟩
      have HR : Hid ((g.getD i 0 != g.getD j 0) = false) := Lib.hid (by rw [huv]; simp)
      rw [hx] at c1 c2
      clear cellOf huv hx
      go_enter Try.func85, Try.ntmps85
      go_wp2
      refine wp_loop_rounds 1 ?_
      rw [rounds_succ]
      go_wp2
      all_goals go_ret
      all_goals exact ⟨ret_bool HR.out.symm, by rw [HF.out]; exact h, World.grownBy.refl _ _⟩
    · have HF : Hid (joinF g i j = joinK g (g.getD i 0) (g.getD j 0) g.length) := Lib.hid (by unfold joinF; simp only; rw [if_neg huv, joinK_all])
      have hne : (g.getD i 0 != g.getD j 0) = true := by simpa using huv
      generalize hu : g.getD i 0 = u at *
      generalize hx : g.getD j 0 = x at *
      have HUV := Lib.hid huv
      have HCO := Lib.hid cellOf
      have HU := Lib.hid hu
      have HX := Lib.hid hx
      clear cellOf huv hu hx
      go_enter Try.func85, Try.ntmps85
      go_wp2
      go_loopw [9] (fun n wr => ∃ k : Nat, k ≤ g.length ∧ n = .int .i64 k ∧ OwnI base wr (.slice (some ⟨gb, 0, none⟩) g.length cap) (joinK g u x k) ∧ w.grownBy wr (some gb)) (fun n _ => g.length - (intOf n).toNat)
      case atStart => exact ⟨0, Nat.zero_le _, rfl, by rw [joinK_zero]; exact h, World.grownBy.refl _ _⟩
      case round =>
        obtain ⟨k, hk, rfl, hown, hgr⟩ := hrel
        clear c1 c2
        by_cases hlt : k < g.length
        · have hck := HCO.out wr _ k (joinK_length g u x k) hown hlt
          rw [joinK_get g u x k hlt] at hck
          have k1 : (0 : Int) ≤ (k : Int) := by omega
          have k2 : (k : Int) < (g.length : Int) := by omega
          have hown' : wr.ownsRow base 3 1 (.slice (some ⟨gb, 0, none⟩) g.length cap) g.length ((joinK g u x k).map vI) := by
            have := hown; unfold OwnI at this; rw [joinK_length] at this; exact this
          have hfr := hown'.frozenAt k
          by_cases hy : g.getD k 0 = x
          · have e2 : (g.getD k 0 == x) = true := by simpa using hy
            have hst := (hown'.stored k (.int .i64 u)).1
            have HS : OwnI base (wr.setCell ⟨gb, k, none⟩ (.int .i64 u)) (.slice (some ⟨gb, 0, none⟩) g.length cap) (joinK g u x (k + 1)) := by
              unfold OwnI
              rw [joinK_length, joinK_hit g u x k hlt hy, List.map_set]
              exact hst
            have hgr' := grownBy_set hgr k (.int .i64 u)
            rw [hy] at hck
            have HGR := Lib.hid hgr'
            have HSS := Lib.hid HS
            clear hst hown hown' hgr hgr' HS e2 hy
            go_wp2
            go_roundw
            case rel => exact ⟨k + 1, by omega, by go_num, HSS.out, HGR.out⟩
            case measure => simp [intOf]; omega
          · have e2 : (g.getD k 0 == x) = false := by simpa using hy
            have HM := Lib.hid (joinK_miss g u x k hlt hy)
            have HO := Lib.hid hown
            have HGR := Lib.hid hgr
            generalize g.getD k 0 = y at *
            clear hown hown' hgr hy
            go_wp2
            go_roundw
            case rel => exact ⟨k + 1, by omega, by go_num, by rw [HM.out]; exact HO.out, HGR.out⟩
            case measure => simp [intOf]; omega
        · have hkk : k = g.length := by omega
          subst hkk
          have HO := Lib.hid hown
          have HGR := Lib.hid hgr
          clear hown hgr
          go_wp2
          all_goals go_ret
          all_goals exact ⟨ret_bool (by first | rfl | exact hne.symm | simp), by rw [HF.out]; exact HO.out, HGR.out⟩

end Go.Proofs.Ytdladmmhmncpoaa
