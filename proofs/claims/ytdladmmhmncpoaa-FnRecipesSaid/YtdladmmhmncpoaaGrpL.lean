/-
  The law of the groups, walked.
-/
import Derived.Test.YtdladmmhmncpoaaGrpI
import Derived.Test.YtdladmmhmncpoaaMarkR
import Derived.Test.YtdladmmhmncpoaaAvgL
set_option linter.unusedSimpArgs false
set_option linter.unusedVariables false
namespace Go.Proofs.Ytdladmmhmncpoaa
open Go.RowKit

theorem OwnI.far {base : Nat} {w w' : World} {v : Value} {zs : List Int} {row : Option Nat} (h : OwnI base w v zs) (hg : w.grownBy w' row) (hr : ∀ k, row = some k → k < base) : OwnI base w' v zs := by
  refine World.ownsRow.kept h hg ?_
  cases hv : v.ownBlock with
  | none => exact .inl rfl
  | some k =>
    right
    rintro rfl
    have := hr k rfl
    have := (OwnI.lt h k hv).1
    omega

theorem OwnR.lt {base : Nat} {w : World} {v : Value} {l : List Rc} (h : OwnR base w v l) : ∀ k, v.ownBlock = some k → base ≤ k ∧ k < w.heap.size := World.ownsRow.lt h

theorem Below.markR {B base : Nat} {a w w' w0 : World} {v : Value} {l : List Rc} (hg : w.grownBy w' v.ownBlock) (ho : OwnR base w0 v l) (h : Below B a w) (hB : B ≤ base) (hB' : B ≤ w.heap.size) : Below B a w' :=
  h.grown hg hB' (fun k hk => Nat.le_trans hB (ho.lt k hk).1)

theorem groupsS_len (l : List Rc) (lim : Int) : (groupsS l lim).length ≤ 20 := by
  unfold groupsS
  split
  · rename_i h
    rw [Bool.and_eq_true] at h
    have := (recipes_bd h.1).1
    rw [(InR.outer l lim l.length (Nat.le_refl _)).1]
    exact this
  · simp

theorem eqIntS_yes (v u : Value) (zs : List Int) (w : World) (hv : RI w v zs) (hu : RI w u zs) :
    Calls Try.prog 37 #[v, u] w fun e w' => e = .returned (.bool true) ∧ Below w.heap.size w w' :=
  (eqIntS_any v u zs zs w hv hu).mono fun e w' ⟨he, hw⟩ => ⟨he.trans (ret_bool (by simp)), hw⟩

theorem iGroups_at (v : Value) (l : List Rc) (lim : Int) (zs : List Int) (w : World) (h : RR w v l) (hz : Hid (groupsS l lim = zs)) :
    Calls Try.prog 25 #[v, .int .i64 lim] w (RetI zs w) := by
  rw [← hz.out, ← groups_eq]; exact iGroups_any v l lim w h

theorem sGroups_at (v : Value) (l : List Rc) (lim : Int) (zs : List Int) (w : World) (h : RR w v l) (hz : Hid (groupsS l lim = zs)) :
    Calls Try.prog 35 #[v, .int .i64 lim] w (RetI zs w) := by
  rw [← hz.out]; exact sGroups_any v l lim w h

set_option maxHeartbeats 4000000 in
set_option maxRecDepth 100000 in
theorem grpLaw_any (v : Value) (l : List Rc) (lim : Int) (w : World) (h : RR w v l) :
    Calls Try.prog 6 #[v, .int .i64 lim] w fun e w' => e = .returned (.bool true) ∧ Below w.heap.size w w' := by
  by_cases hbig : 1048576 < l.length
  · go_enter Try.func6, Try.ntmps6
    go_wp2_with fail
    refine (szRecipeS_less v l _ h hbig).mono ?_
    rintro e w' ⟨rfl, rfl⟩
    go_wp2
    go_ret
    exact ⟨rfl, Below.refl _ _⟩
  · have hle : l.length ≤ 1048576 := by omega
    have hpos : ¬ (1048576 : Int) - l.length < 0 := by omega
    have hpos2 : (0 : Int) ≤ 1048576 - l.length := by omega
    have hzl := groupsS_len l lim
    obtain ⟨zs, hx⟩ : ∃ zs, groupsS l lim = zs := ⟨_, rfl⟩
    rw [hx] at hzl
    have HX := Lib.hid hx
    clear hx
    go_enter Try.func6, Try.ntmps6
    go_wp2_with fail
    refine (szRecipeS_more v l _ h hle).mono ?_
    rintro e w' ⟨rfl, rfl⟩
    go_wp2_with fail
    refine (toRecipeS_any v l _ h hle).mono ?_
    rintro e w1 ⟨v1, rfl, ho1, hb1⟩; (first | (with_reducible have hcf1 := bcell_drew hb1) | have hcf1 := bcell hb1); obtain ⟨hc1, hf1⟩ := hcf1; have hz1 := hb1.size; (try simp at hz1); (try have hp1_0 : w.heap.size < w1.heap.size := by omega); (try have hp1_1 : w.heap.size + 1 < w1.heap.size := by omega); (try have hp1_2 : w.heap.size + 2 < w1.heap.size := by omega)
    go_wp2_with fail
    refine (sGroups_at _ l lim zs _ ho1.reads HX).mono ?_
    rintro e w2 ⟨v2, rfl, ho2, hb2⟩; (first | (with_reducible have hcf2 := bcell_drew hb2) | have hcf2 := bcell hb2); obtain ⟨hc2, hf2⟩ := hcf2; have hz2 := hb2.size; (try simp at hz2); (try have hp2_0 : w.heap.size < w2.heap.size := by omega); (try have hp2_1 : w.heap.size + 1 < w2.heap.size := by omega); (try have hp2_2 : w.heap.size + 2 < w2.heap.size := by omega)
    go_wp2_with fail
    refine (toRecipeS_any v l _ (h.below (by (repeat (first | exact Below.refl _ _ | assumption | refine Below.drew ?_ | refine below_drewN ?_ _ | refine Below.alloc ?_ (by first | omega | (simp; done) | (simp; omega)) _ | refine Below.setCell ?_ (by first | omega | (simp; done) | (simp; omega)) _ | refine Below.step (by assumption) ?_ (by first | omega | (simp; done) | (simp; omega)) | refine Below.mark (by assumption) (by assumption) ?_ (by first | omega | (simp; done) | (simp; omega)) (by first | omega | (simp; done) | (simp; omega)))))) hle).mono ?_
    rintro e w3 ⟨v3, rfl, ho3, hb3⟩; (first | (with_reducible have hcf3 := bcell_drew hb3) | have hcf3 := bcell hb3); obtain ⟨hc3, hf3⟩ := hcf3; have hz3 := hb3.size; (try simp at hz3); (try have hp3_0 : w.heap.size < w3.heap.size := by omega); (try have hp3_1 : w.heap.size + 1 < w3.heap.size := by omega); (try have hp3_2 : w.heap.size + 2 < w3.heap.size := by omega)
    go_wp2_with fail
    refine (iGroups_at _ l lim zs _ ho3.reads HX).mono ?_
    rintro e w4 ⟨v4, rfl, ho4, hb4⟩; (first | (with_reducible have hcf4 := bcell_drew hb4) | have hcf4 := bcell hb4); obtain ⟨hc4, hf4⟩ := hcf4; have hz4 := hb4.size; (try simp at hz4); (try have hp4_0 : w.heap.size < w4.heap.size := by omega); (try have hp4_1 : w.heap.size + 1 < w4.heap.size := by omega); (try have hp4_2 : w.heap.size + 2 < w4.heap.size := by omega)
    have hb24 : Below w2.heap.size w2 w4 := by (repeat (first | exact Below.refl _ _ | assumption | refine Below.drew ?_ | refine below_drewN ?_ _ | refine Below.alloc ?_ (by first | omega | (simp; done) | (simp; omega)) _ | refine Below.setCell ?_ (by first | omega | (simp; done) | (simp; omega)) _ | refine Below.step (by assumption) ?_ (by first | omega | (simp; done) | (simp; omega)) | refine Below.mark (by assumption) (by assumption) ?_ (by first | omega | (simp; done) | (simp; omega)) (by first | omega | (simp; done) | (simp; omega))))
    go_wp2_with fail
    refine (eqIntS_yes _ _ zs _ ho4.reads (ho2.reads.below hb24)).mono ?_
    rintro e w5 ⟨rfl, hb5⟩; (first | (with_reducible have hcf5 := bcell_drew hb5) | have hcf5 := bcell hb5); obtain ⟨hc5, hf5⟩ := hcf5; have hz5 := hb5.size; (try simp at hz5); (try have hp5_0 : w.heap.size < w5.heap.size := by omega); (try have hp5_1 : w.heap.size + 1 < w5.heap.size := by omega); (try have hp5_2 : w.heap.size + 2 < w5.heap.size := by omega)
    go_wp2_with fail
    refine (toRecipeS_any v l _ (h.below (by (repeat (first | exact Below.refl _ _ | assumption | refine Below.drew ?_ | refine below_drewN ?_ _ | refine Below.alloc ?_ (by first | omega | (simp; done) | (simp; omega)) _ | refine Below.setCell ?_ (by first | omega | (simp; done) | (simp; omega)) _ | refine Below.step (by assumption) ?_ (by first | omega | (simp; done) | (simp; omega)) | refine Below.mark (by assumption) (by assumption) ?_ (by first | omega | (simp; done) | (simp; omega)) (by first | omega | (simp; done) | (simp; omega)))))) hle).mono ?_
    rintro e w6 ⟨v6, rfl, ho6, hb6⟩; (first | (with_reducible have hcf6 := bcell_drew hb6) | have hcf6 := bcell hb6); obtain ⟨hc6, hf6⟩ := hcf6; have hz6 := hb6.size; (try simp at hz6); (try have hp6_0 : w.heap.size < w6.heap.size := by omega); (try have hp6_1 : w.heap.size + 1 < w6.heap.size := by omega); (try have hp6_2 : w.heap.size + 2 < w6.heap.size := by omega)
    have hb36 : Below w3.heap.size w3 w6 := by (repeat (first | exact Below.refl _ _ | assumption | refine Below.drew ?_ | refine below_drewN ?_ _ | refine Below.alloc ?_ (by first | omega | (simp; done) | (simp; omega)) _ | refine Below.setCell ?_ (by first | omega | (simp; done) | (simp; omega)) _ | refine Below.step (by assumption) ?_ (by first | omega | (simp; done) | (simp; omega)) | refine Below.mark (by assumption) (by assumption) ?_ (by first | omega | (simp; done) | (simp; omega)) (by first | omega | (simp; done) | (simp; omega))))
    go_wp2_with fail
    refine (eqRecipeS_any _ _ l _ (ho3.reads.below hb36) ho6.reads).mono ?_
    rintro e w7 ⟨rfl, hb7⟩; (first | (with_reducible have hcf7 := bcell_drew hb7) | have hcf7 := bcell hb7); obtain ⟨hc7, hf7⟩ := hcf7; have hz7 := hb7.size; (try simp at hz7); (try have hp7_0 : w.heap.size < w7.heap.size := by omega); (try have hp7_1 : w.heap.size + 1 < w7.heap.size := by omega); (try have hp7_2 : w.heap.size + 2 < w7.heap.size := by omega)
    clear hb36
    have hb47 : Below w4.heap.size w4 w7 := Below.step hb7 (Below.step hb6 hb5 (by omega)) (by omega)
    have hb37 : Below w3.heap.size w3 w7 := Below.step hb47 hb4 (by omega)
    have hb27 : Below w2.heap.size w2 w7 := Below.step hb37 hb3 (by omega)
    have hb07 : Below w.heap.size w w7 := Below.step hb27 (Below.step hb2 hb1 (by omega)) (by omega)
    have ho37 := ho3.kept hb37
    go_wp2_with fail
    refine (markRecipeS_any _ _ l _ _ ho37 (by omega) (by omega)).mono ?_
    rintro e w8 ⟨rfl, hg8⟩
    have hz8 := hg8.size
    have ho48 := (ho4.kept hb47).far hg8 (fun k hk => (ho3.lt k hk).2)
    have hb28 : Below w2.heap.size w2 w8 := Below.markR hg8 ho37 hb27 (Nat.le_refl _) (by omega)
    have hb08 : Below w.heap.size w w8 := Below.markR hg8 ho37 hb07 (by omega) (by omega)
    have hm1 : ¬ (1 : Int) + 4 * l.length < 0 := by omega
    clear hb1 hc1 hf1 hb3 hc3 hf3 hb4 hc4 hf4 hb5 hc5 hf5 hb6 hc6 hf6 hb7 hc7 hf7 hb24 hb37 hb47 hb27 hb07 ho4 ho6 hb2 hc2 hf2
    go_wp2_with fail
    refine (eqIntS_yes _ _ zs _ ho48.reads (ho2.reads.below hb28)).mono ?_
    rintro e w9 ⟨rfl, hb9⟩; (first | (with_reducible have hcf9 := bcell_drew hb9) | have hcf9 := bcell hb9); obtain ⟨hc9, hf9⟩ := hcf9; have hz9 := hb9.size; (try simp at hz9); (try have hp9_0 : w.heap.size < w9.heap.size := by omega); (try have hp9_1 : w.heap.size + 1 < w9.heap.size := by omega); (try have hp9_2 : w.heap.size + 2 < w9.heap.size := by omega)
    have ho49 := ho48.kept hb9
    go_wp2_with fail
    refine (markIntS_any _ _ _ _ _ ho49 (by omega) (by omega)).mono ?_
    rintro e w10 ⟨rfl, ho10, hg10⟩; have hz10 := hg10.size
    have hb210 : Below w2.heap.size w2 w10 := Below.mark hg10 ho49 (hb28.trans (hb9.mono (by omega))) (by omega) (by omega)
    have hb010 : Below w.heap.size w w10 := Below.mark hg10 ho49 (hb08.trans (hb9.mono (by omega))) (by omega) (by omega)
    clear hb9 hc9 hf9 hb28 hb08 hg10 hg8 ho37
    go_wp2_with fail
    refine (held_ok _ zs.length _ _ ho10.reads (by omega) (by omega)).mono ?_
    rintro e w' ⟨rfl, rfl⟩
    go_wp2_with fail
    refine (toRecipeS_any v l _ (h.below hb010) hle).mono ?_
    rintro e w11 ⟨v11, rfl, ho11, hb11⟩; (first | (with_reducible have hcf11 := bcell_drew hb11) | have hcf11 := bcell hb11); obtain ⟨hc11, hf11⟩ := hcf11; have hz11 := hb11.size; (try simp at hz11); (try have hp11_0 : w.heap.size < w11.heap.size := by omega); (try have hp11_1 : w.heap.size + 1 < w11.heap.size := by omega); (try have hp11_2 : w.heap.size + 2 < w11.heap.size := by omega)
    go_wp2_with fail
    refine (iGroups_at _ l lim zs _ ho11.reads HX).mono ?_
    rintro e w12 ⟨v12, rfl, ho12, hb12⟩; (first | (with_reducible have hcf12 := bcell_drew hb12) | have hcf12 := bcell hb12); obtain ⟨hc12, hf12⟩ := hcf12; have hz12 := hb12.size; (try simp at hz12); (try have hp12_0 : w.heap.size < w12.heap.size := by omega); (try have hp12_1 : w.heap.size + 1 < w12.heap.size := by omega); (try have hp12_2 : w.heap.size + 2 < w12.heap.size := by omega)
    have hb212 : Below w2.heap.size w2 w12 := Below.step hb12 (Below.step hb11 hb210 (by omega)) (by omega)
    go_wp2_with fail
    refine (eqIntS_yes _ _ zs _ ho12.reads (ho2.reads.below hb212)).mono ?_
    rintro e w13 ⟨rfl, hb13⟩; (first | (with_reducible have hcf13 := bcell_drew hb13) | have hcf13 := bcell hb13); obtain ⟨hc13, hf13⟩ := hcf13; have hz13 := hb13.size; (try simp at hz13); (try have hp13_0 : w.heap.size < w13.heap.size := by omega); (try have hp13_1 : w.heap.size + 1 < w13.heap.size := by omega); (try have hp13_2 : w.heap.size + 2 < w13.heap.size := by omega)
    have hb1013 : Below w10.heap.size w10 w13 := Below.step hb13 (Below.step hb12 hb11 (by omega)) (by omega)
    go_wp2_with fail
    refine (held_ok _ zs.length _ _ (ho10.reads.below hb1013) (by omega) (by omega)).mono ?_
    rintro e w' ⟨rfl, rfl⟩
    go_wp2
    go_ret
    exact ⟨rfl, Below.step hb1013 hb010 (by omega)⟩

end Go.Proofs.Ytdladmmhmncpoaa
