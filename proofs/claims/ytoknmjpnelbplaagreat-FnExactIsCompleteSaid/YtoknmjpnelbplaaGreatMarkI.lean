/-
  Lists of ints: marked with running numbers, and found marked.
-/
import Derived.Test.YtoknmjpnelbplaaGreatEqI
set_option linter.unusedSimpArgs false
set_option linter.unusedVariables false
namespace Go.Proofs.YtoknmjpnelbplaaGreat
open Go.RowKit

/-- n numbers from a on. -/
def runI (a : Int) (n : Nat) : List Int := (List.range n).map fun (i : Nat) => a + (i : Int)

theorem runI_length (a : Int) (n : Nat) : (runI a n).length = n := by simp [runI]

theorem runI_get (a : Int) (n i : Nat) (h : i < n) : (runI a n).getD i 0 = a + i := by simp [runI, List.getD, h]

/-- Of the list the first k are marked. -/
def markI (a : Int) (zs : List Int) (k : Nat) : List Int := runI a k ++ zs.drop k

theorem markI_length (a : Int) (zs : List Int) (k : Nat) (h : k ≤ zs.length) : (markI a zs k).length = zs.length := by simp [markI, runI_length]; omega

theorem markI_zero (a : Int) (zs : List Int) : markI a zs 0 = zs := by simp [markI, runI]

theorem markI_all (a : Int) (zs : List Int) : markI a zs zs.length = runI a zs.length := by simp [markI]

theorem markI_succ (a : Int) (zs : List Int) (k : Nat) (h : k < zs.length) : markI a zs (k + 1) = (markI a zs k).set k (a + k) := by
  unfold markI runI
  rw [List.range_succ, List.map_append, List.set_append]
  simp only [List.map_cons, List.map_nil, List.length_map, List.length_range, Nat.lt_irrefl, if_false, Nat.sub_self, List.append_assoc, List.cons_append, List.nil_append]
  rw [List.drop_eq_getElem_cons h, List.set_cons_zero]

/-- Only what v owns may have turned. -/
def Marks (base : Nat) (v : Value) (w : World) (r : Value) (zs : List Int) (e : Ending) (w' : World) : Prop :=
  e = .returned r ∧ OwnI base w' v zs ∧ w.grownBy w' v.ownBlock

theorem grownBy_trans {a b c : World} {row : Option Nat} (h : a.grownBy b row) (k : b.grownBy c row) : a.grownBy c row := World.grownBy.trans h k

theorem grownBy_set {a w : World} {g : Nat} (h : a.grownBy w (some g)) (j : Nat) (u : Value) : a.grownBy (w.setCell ⟨g, j, none⟩ u) (some g) :=
  ⟨h.os, h.tape, h.output, by simpa [World.setCell] using h.size, fun i hi hne => (Below.heap_setCell w ⟨g, j, none⟩ u i (fun e => hne (by rw [e]))).trans (h.block i hi hne)⟩

set_option maxHeartbeats 2000000 in
theorem markIntS_any (base : Nat) (v : Value) (zs : List Int) (a : Int) (w : World) (h : OwnI base w v zs) (ha : 0 ≤ a) (hb : a + zs.length ≤ 1000000000000) :
    Calls Tryz.prog 54 #[v, .int .i64 a] w (Marks base v w (.int .i64 (a + zs.length)) (runI a zs.length)) := by
  rcases hcase : h.2 with ⟨rfl, hn⟩ | ⟨g, cap, cur, rfl, hbg, hh, hnc, hcm, hsz, hxs⟩
  · have hz : zs = [] := List.eq_nil_of_length_eq_zero hn
    subst hz
    clear hcase hn hb
    go_enter Tryz.func54, Tryz.ntmps54
    go_wp2
    go_loop [1, 5] (fun x i => i = .int .i64 0 ∧ x = .int .i64 a) (fun _ _ => 0)
    case atStart => exact ⟨rfl, rfl⟩
    case round =>
      obtain ⟨rfl, rfl⟩ := hrel
      go_wp2
      go_ret
      exact ⟨by simp, OwnI.nil _ _, World.grownBy.refl _ _⟩
  · clear hcase hh hxs hsz
    have hml : zs.length ≤ 1000000000000 := by omega
    go_enter Tryz.func54, Tryz.ntmps54
    go_wp2
    go_loopw [1, 5] (fun x i wr => ∃ k : Nat, k ≤ zs.length ∧ i = .int .i64 k ∧ x = .int .i64 (a + k) ∧ OwnI base wr (.slice (some ⟨g, 0, none⟩) zs.length cap) (markI a zs k) ∧ w.grownBy wr (some g)) (fun _ i _ => zs.length - (intOf i).toNat)
    case atStart => exact ⟨0, Nat.zero_le _, rfl, by simp, by rw [markI_zero]; exact h, World.grownBy.refl _ _⟩
    case round =>
      obtain ⟨k, hk, rfl, rfl, hown, hgr⟩ := hrel
      have hml2 := markI_length a zs k hk
      by_cases hlt : k < zs.length
      · have hown' : wr.ownsRow base 3 1 (.slice (some ⟨g, 0, none⟩) zs.length cap) zs.length ((markI a zs k).map vI) := by
          have := hown; unfold OwnI at this; rw [hml2] at this; exact this
        have hcell := hown'.cellAt k (by omega)
        have hfr := hown'.frozenAt k
        have hv : ((markI a zs k).map vI)[k]? = some (.int .i64 ((markI a zs k).getD k 0)) := by
          rw [List.getElem?_map, List.getElem?_eq_getElem (by omega)]; simp [vI, List.getD, List.getElem?_eq_getElem (show k < (markI a zs k).length by omega)]
        rw [hv] at hcell
        have hst := hown'.stored k (.int .i64 (a + k))
        have HS : OwnI base (wr.setCell ⟨g, k, none⟩ (.int .i64 (a + k))) (.slice (some ⟨g, 0, none⟩) zs.length cap) (markI a zs (k + 1)) := by
          unfold OwnI
          rw [markI_length a zs (k + 1) (by omega), markI_succ a zs k hlt, List.map_set]
          exact hst.1
        have hgr' := grownBy_set hgr k (.int .i64 (a + k))
        generalize (markI a zs k).getD k 0 = x at hcell
        clear hst hv hown hown' hml2 h
        go_wp2
        go_roundw
        case rel => exact ⟨k + 1, by omega, by go_num, by go_num, HS, hgr'⟩
        case measure => simp [intOf]; omega
      · have hkk : k = zs.length := by omega
        subst hkk
        rw [markI_all] at hown
        clear hml2
        go_wp2
        go_ret
        exact ⟨rfl, hown, hgr⟩

/-- What heldIntS answers. -/
def heldF (zs : List Int) (a : Int) : Int := if zs = runI a zs.length then a + zs.length else -1

theorem runI_take (a : Int) (n k : Nat) (h : k ≤ n) : (runI a n).take k = runI a k := by
  unfold runI
  rw [← List.map_take, List.take_range, Nat.min_eq_left h]

set_option maxHeartbeats 2000000 in
theorem heldIntS_any (v : Value) (zs : List Int) (a : Int) (w : World) (h : RI w v zs) (ha : 0 ≤ a) (hb : a + zs.length ≤ 1000000000000) :
    Calls Tryz.prog 55 #[v, .int .i64 a] w fun e w' => e = .returned (.int .i64 (heldF zs a)) ∧ w = w' := by
  obtain ⟨A, c, rfl, hc, hm, hcell⟩ := h.form
  clear h
  go_enter Tryz.func55, Tryz.ntmps55
  go_wp2
  go_loop [1, 5] (fun x i => ∃ k : Nat, k ≤ zs.length ∧ i = .int .i64 k ∧ x = .int .i64 (a + k) ∧ Hid (zs.take k = runI a k)) (fun _ i => zs.length - (intOf i).toNat)
  case atStart => exact ⟨0, Nat.zero_le _, rfl, by simp, Lib.hid (by simp [runI])⟩
  case round =>
    obtain ⟨k, hk, rfl, rfl, HT⟩ := hrel
    by_cases hlt : k < zs.length
    · obtain ⟨b, off, rfl, hbb, hcl⟩ := hcell (by omega)
      have hck := hcl k hlt
      clear hcl hcell
      have HX := Lib.hid (show zs.getD k 0 = zs[k] by simp [List.getD, List.getElem?_eq_getElem hlt])
      generalize zs.getD k 0 = x at *
      by_cases hxy : x = a + k
      · have e2 : (x != a + (k : Int)) = false := by simp [hxy]
        have HE := Lib.hid hxy
        clear hxy
        go_wp2
        go_round
        case rel =>
          refine ⟨k + 1, by omega, by go_num, by go_num, Lib.hid ?_⟩
          rw [List.take_succ_eq_append_getElem hlt, HT.out, ← HX.out, HE.out]
          simp [runI, List.range_succ]
        case measure => simp [intOf]; omega
      · have e2 : (x != a + (k : Int)) = true := by simp [hxy]
        have HE := Lib.hid hxy
        clear hxy
        go_wp2
        go_ret
        refine ⟨ret_int ?_, rfl⟩
        unfold heldF
        rw [if_neg]
        intro heq
        refine HE.out ?_
        rw [HX.out]
        have h2 := congrArg (fun l => l.getD k 0) heq
        simp only [runI_get a _ k hlt] at h2
        rw [← h2]
        simp [List.getD, List.getElem?_eq_getElem hlt]
    · have hkk : k = zs.length := by omega
      subst hkk
      have h := HT.out
      rw [List.take_length] at h
      have HE := Lib.hid h
      clear h hcell HT
      go_wp2
      go_ret
      exact ⟨ret_int (by unfold heldF; rw [if_pos HE.out]), rfl⟩

theorem held_ok (v : Value) (n : Nat) (a : Int) (w : World) (h : RI w v (runI a n)) (ha : 0 ≤ a) (hb : a + n ≤ 1000000000000) :
    Calls Tryz.prog 55 #[v, .int .i64 a] w fun e w' => e = .returned (.int .i64 (a + n)) ∧ w = w' := by
  refine (heldIntS_any v (runI a n) a w h ha (by rw [runI_length]; exact hb)).mono ?_
  rintro e w' ⟨he, hw⟩
  refine ⟨he.trans (ret_int ?_), hw⟩
  unfold heldF
  rw [runI_length, if_pos rfl]

/-- A mark leaves all blocks below those that are owned. -/
theorem Below.mark {B base : Nat} {a w w' w0 : World} {v : Value} {zs : List Int} (hg : w.grownBy w' v.ownBlock) (ho : OwnI base w0 v zs) (h : Below B a w) (hB : B ≤ base) (hB' : B ≤ w.heap.size) : Below B a w' :=
  h.grown hg hB' (fun k hk => Nat.le_trans hB (ho.lt k hk).1)

end Go.Proofs.YtoknmjpnelbplaaGreat
