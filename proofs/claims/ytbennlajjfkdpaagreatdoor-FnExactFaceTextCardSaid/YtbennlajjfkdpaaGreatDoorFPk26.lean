/- part 26 -/
import Derived.Test.YtbennlajjfkdpaaGreatDoorFPk24
import Derived.Test.YtbennlajjfkdpaaGreatDoorFPk25
set_option linter.unusedSimpArgs false
set_option linter.unusedVariables false
namespace Go.Proofs.YtbennlajjfkdpaaGreatDoor
open Go.RowKit
set_option maxHeartbeats 2000000 in
set_option maxRecDepth 100000 in
theorem insSort_nil (f : Nat) (lb : Array Value) (w : World) :
    Calls Tryz.prog 133 #[.slice none 0 0, .int .i64 0, .int .i64 0, .func (.func f) #[] lb] w
      fun e w' => e = .returned (.tuple #[]) ∧ Below w.heap.size w w' := by
  go_enter Tryz.func133, Tryz.ntmps133
  go_wp2
  refine wp_loop_rounds 1 ?_
  rw [rounds_succ]
  go_wp2
  go_end0
  exact ⟨rfl, by exact bel_⟩
set_option maxHeartbeats 4000000 in
set_option maxRecDepth 100000 in
theorem pdq_any (base f g cap : Nat) (k : Int) (lb : Array Value) (G : List Nat) (c : Nat → Nat → Int) (lt : Nat → Nat → Bool) (w : World) (hc : CmpAt f lb G c (some g) w) (hlt : ∀ d e, decide (c d e < 0) = lt d e)
    (ho : OwnI base w (.slice (some ⟨g, 0, none⟩) G.length cap) (natI G)) (h12 : G.length ≤ 12) (ef : Enters Tryz.prog f) :
    Calls Tryz.prog 127 #[.slice (some ⟨g, 0, none⟩) G.length cap, .int .i64 0, .int .i64 G.length, .int .i64 k, .func (.func f) #[] lb] w
      fun e w' => e = .returned (.tuple #[]) ∧ OwnI base w' (.slice (some ⟨g, 0, none⟩) G.length cap) (natI (isoK lt G G.length)) ∧ w.grownBy w' (some g) := by
  have h1 : (G.length : Int) ≤ 12 := by omega
  go_enter Tryz.func127, Tryz.ntmps127
  go_wp2
  refine wp_loop_rounds 1 ?_
  rw [rounds_succ]
  go_wp2_with fail
  refine (insSort_any base f g cap lb G c lt _ hc hlt ho h12 ef).mono ?_
  rintro e w1 ⟨rfl, ho1, hg1⟩
  go_wp2
  exact bodyPost_ret (v := .tuple #[]) (by simp [results, Tryz.results127, go_sem]) rfl ⟨rfl, ho1, hg1⟩
set_option maxHeartbeats 2000000 in
set_option maxRecDepth 100000 in
theorem sortF_any (base f g cap : Nat) (lb : Array Value) (G : List Nat) (c : Nat → Nat → Int) (lt : Nat → Nat → Bool) (w : World) (hc : CmpAt f lb G c (some g) w) (hlt : ∀ d e, decide (c d e < 0) = lt d e)
    (ho : OwnI base w (.slice (some ⟨g, 0, none⟩) G.length cap) (natI G)) (h12 : G.length ≤ 12) (ef : Enters Tryz.prog f) :
    Calls Tryz.prog 116 #[.slice (some ⟨g, 0, none⟩) G.length cap, .func (.func f) #[] lb] w
      fun e w' => e = .returned (.tuple #[]) ∧ OwnI base w' (.slice (some ⟨g, 0, none⟩) G.length cap) (natI (isoK lt G G.length)) ∧ w.grownBy w' (some g) := by
  have h0 : (0 : Int) ≤ (G.length : Int) := by omega
  have h1 : (G.length : Int) ≤ 12 := by omega
  go_enter Tryz.func116, Tryz.ntmps116
  go_wp2_with (go_at_call 128; refine (len_any _ _ h0 h1).mono ?_; rintro e w' ⟨⟨k, rfl⟩, rfl⟩)
  refine (pdq_any base f g cap _ lb G c lt _ hc hlt ho h12 ef).mono ?_
  rintro e w1 ⟨rfl, ho1, hg1⟩
  go_wp2
  go_end0
  exact ⟨rfl, ho1, hg1⟩
set_option maxHeartbeats 2000000 in
set_option maxRecDepth 100000 in
theorem pdq_nil (f : Nat) (k : Int) (lb : Array Value) (w : World) :
    Calls Tryz.prog 127 #[.slice none 0 0, .int .i64 0, .int .i64 0, .int .i64 k, .func (.func f) #[] lb] w
      fun e w' => e = .returned (.tuple #[]) ∧ Below w.heap.size w w' := by
  go_enter Tryz.func127, Tryz.ntmps127
  go_wp2
  refine wp_loop_rounds 1 ?_
  rw [rounds_succ]
  go_wp2_with fail
  refine (insSort_nil f lb _).mono ?_
  rintro e w1 ⟨rfl, hb1⟩
  go_wp2
  exact bodyPost_ret (v := .tuple #[]) (by simp [results, Tryz.results127, go_sem]) rfl ⟨rfl, hb1⟩
set_option maxHeartbeats 2000000 in
set_option maxRecDepth 100000 in
theorem sortF_nil (f : Nat) (lb : Array Value) (w : World) :
    Calls Tryz.prog 116 #[.slice none 0 0, .func (.func f) #[] lb] w
      fun e w' => e = .returned (.tuple #[]) ∧ Below w.heap.size w w' := by
  go_enter Tryz.func116, Tryz.ntmps116
  go_wp2_with (go_at_call 128; refine (len_any 0 _ (by omega) (by omega)).mono ?_; rintro e w' ⟨⟨k, rfl⟩, rfl⟩)
  refine (pdq_nil f _ lb _).mono ?_
  rintro e w1 ⟨rfl, hb1⟩
  go_wp2
  go_end0
  exact ⟨rfl, hb1⟩
theorem frD_len (ls : List Pr) (k : Nat) : ∀ d, (frD ls k d).length ≤ d
  | 0 => by simp [frD]
  | d + 1 => by
    have := frD_len ls k d
    unfold frD
    split <;> simp <;> omega
set_option maxHeartbeats 4000000 in
set_option maxRecDepth 100000 in
theorem iAround_any (vn vl : Value) (ns ls : List Pr) (k : Nat) (w : World) (hn : RP w vn ns) (hl : RP w vl ls) (hk : k < ns.length) (hwin : WinOk ns ls) :
    Calls Tryz.prog 104 #[.agg #[vn, vl], .int .i64 k] w (RetI (natI (ardS ns ls k (2 * ls.length))) w) := by
  have hm20 := hwin.2.2.1
  obtain ⟨Al, cl, rfl, hcl, hml, _⟩ := hl.formI
  unfold maxLen at hml
  obtain ⟨i0, hi, iz0, iz1, iz2⟩ := info_parts infoInt
  go_enter Tryz.func104, Tryz.ntmps104
  go_wp2
  go_loopw [5, 6] (fun v i wr => ∃ d : Nat, d ≤ 2 * ls.length ∧ i = .int .i64 d ∧ OwnI (w.heap.size + 1 + 1) wr v (natI (frD ls k d)) ∧ Blk wr w.heap.size 31 #[vn, .slice Al ls.length cl] ∧ Blk wr (w.heap.size + 1) 3 #[.int .i64 k] ∧ Below w.heap.size w wr) (fun _ i _ => 2 * ls.length - (intOf i).toNat)
  case atStart => exact ⟨0, Nat.zero_le _, rfl, OwnI.nil _ _, (Blk.newAt rfl).alloc _, Blk.newAt (by simp), by exact bel_⟩
  case round =>
    obtain ⟨d, hd, rfl, ho, hW, hK, hbl⟩ := hrel
    have hsz := hW.lt
    have hsk := hK.lt
    by_cases hlt : d < 2 * ls.length
    · have hlt1 : (d : Int) < 2 * (ls.length : Int) := by omega
      have hlr : RP wr (.slice Al ls.length cl) ls := hl.below hbl
      have kk := hK.cell 0
      simp only [List.getElem?_toArray, List.getElem?_cons_zero] at kk
      obtain ⟨a_0, a_1⟩ := hW.c2
      have HX : Hid (((dFrom ls d) == (k : Int)) = decide (dFrom ls d = k)) := Lib.hid rfl
      go_wp2_with fail
      (refine wp_region_quietG (by kernel_rfl) (by kernel_rfl) (fun hG => ?_))
      repeat (go_big_quiet_step ((go_at_call 45; exact quietG (iFrom_any _ _ ls d _ (RS.grw _ hlr) hlt))))
      (refine wpQuiet_nil ?_); (clear hG); (rintro w3 ⟨⟨_, hb3⟩, rfl⟩); (try dsimp only); (first | (with_reducible have hc3 := bdC hb3) | have hc3 := bcC hb3); (first | (with_reducible have hf3 := bdF hb3) | have hf3 := bcF hb3); have hz3 := hb3.size; (try simp at hz3); (try have hp3_0 := p0_ w w3); (try have hp3_1 := p1_ w w3); (try have hp3_2 := p2_ w w3); (try have hp3_3 := p3_ w w3)
      have hbl3 : Below w.heap.size w w3 := hbl.trans (hb3.mono hbl.size)
      have ho3 := ho.kept hb3
      have hW3 := hW.below hb3 hsz
      have hK3 := hK.below hb3 hsk
      clear hb3 hc3 hf3 hlr ho hW hK hbl a_0 a_1 kk
      by_cases hfr : dFrom ls d = k
      · have e1 : (dFrom ls d == (k : Int)) = true := by simp [hfr]
        have HS : Hid (natI (frD ls k (d + 1)) = natI (frD ls k d) ++ [(d : Int)]) := Lib.hid (by rw [frD_yes hfr]; simp [natI])
        have hle := frD_len ls k d
        have HGL := Lib.hid (natI_length (frD ls k d))
        generalize frD ls k d = G at *
        have hG : G.length ≤ 40 := by omega
        clear hle HX
        go_wp2_with (at_builtin; refine wpList_append_own _ rfl _ _ 42 rfl (w.heap.size + 1 + 1) 3 i0 (.int .i64 0) 1 8 Tryz.underlying42 hi iz0 iz1 iz2 rfl (by decide) _ _ _ rfl (World.ownsRow.alloc ho3 _) ⟨w3.heap.size, 0, none⟩ 1 1 [.int .i64 _] rfl rfl (cell_one_new _ _ _) (by intro u hu; simp at hu; subst hu; rfl) (by rw [HGL.out]; unfold maxLen; omega) (by rw [HGL.out]; omega) (by simp; omega) ?_)
        intro v2 w2 hown2 hg2 hne2
        have hbl2 : Below w.heap.size w w2 := (hbl3.alloc hbl3.size (.cells #[.int .i64 (d : Int)] 3)).grown hg2 (by simp; have := hbl3.size; omega) (fun k hk => by have := (ho3.lt k hk).1; omega)
        have hW2 : Blk w2 w.heap.size 31 #[vn, .slice Al ls.length cl] := (hg2.block _ (by simp; omega) (fun e => by have := (ho3.lt _ e.symm).1; omega)).trans (hW3.alloc _)
        have hK2 : Blk w2 (w.heap.size + 1) 3 #[.int .i64 k] := (hg2.block _ (by simp; omega) (fun e => by have := (ho3.lt _ e.symm).1; omega)).trans (hK3.alloc _)
        have HO := Lib.hid (OwnI.snoc hown2)
        clear hown2 hg2 ho3 hW3 hK3 hbl3 hne2 hfr
        go_wp2
        go_roundw
        case rel => exact ⟨d + 1, by omega, by go_num, by rw [HS.out]; exact HO.out, hW2, hK2, hbl2⟩
        case measure => simp [intOf]; omega
      · have e1 : (dFrom ls d == (k : Int)) = false := by simp [hfr]
        have HS : Hid (frD ls k (d + 1) = frD ls k d) := Lib.hid (frD_no hfr)
        clear hfr HX
        go_wp2
        go_roundw
        case rel => exact ⟨d + 1, by omega, by go_num, by rw [HS.out]; exact ho3, hW3, hK3, hbl3⟩
        case measure => simp [intOf]; omega
    · have hdd : d = 2 * ls.length := by omega
      subst hdd
      obtain ⟨a_0, a_1⟩ := hW.c2
      have hAS := iso_ard ns ls k (2 * ls.length)
      have h12 := frD_le hwin k
      have hmem := frD_lt ls k (2 * ls.length)
      generalize frD ls k (2 * ls.length) = G at *
      rcases hcase : ho.2 with ⟨rfl, e1⟩ | ⟨gb, cap, cur, rfl, hbg, hh, hrest⟩
      · have hG0 : G = [] := by rw [natI_length] at e1; exact List.eq_nil_of_length_eq_zero e1
        have HR : Hid (ardS ns ls k (2 * ls.length) = []) := Lib.hid (by rw [← hAS, hG0]; rfl)
        clear hcase hAS hmem e1 ho
        go_wp2_with fail
        refine (sortF_nil _ _ _).mono ?_
        rintro e w4 ⟨rfl, hb4⟩
        go_wp2
        go_ret
        exact ⟨_, rfl, by rw [HR.out]; exact OwnI.nil _ _, hbl.trans (hb4.mono hbl.size)⟩
      · have hgz := (ho.lt gb rfl).2
        have hgl := natI_length G
        rw [hgl] at ho ⊢
        have hc : CmpAt 117 #[.pointer (some ⟨w.heap.size, 0, none⟩), .pointer (some ⟨w.heap.size + 1, 0, none⟩)] G (cmpD ns ls k) (some gb) wr := by
          intro v d e hd he hgv
          have hbv : Below w.heap.size w v := hbl.grown hgv hbl.size (fun k hk => by cases hk; omega)
          have hWv := hW.grown hgv (by omega)
          have hKv := hK.grown hgv (by omega)
          have kk := hKv.cell 0
          simp only [List.getElem?_toArray, List.getElem?_cons_zero] at kk
          exact cmp_any w.heap.size (w.heap.size + 1) vn (.slice Al ls.length cl) ns ls k d e v hWv kk hKv.lt (hn.below hbv) (hl.below hbv) hk (hmem d hd).1 (hmem e he).1 hwin
        have HC := Lib.hid hc
        have HO := Lib.hid ho
        have HAS := Lib.hid hAS
        clear hc ho hcase hh hrest hgl hmem hAS
        go_wp2_with fail
        refine (sortF_any (w.heap.size + 1 + 1) _ gb cap _ G (cmpD ns ls k) (bfD ns ls k) _ HC.out (cmpD_lt ns ls k) HO.out h12 (enters_of Tryz.func117 (by kernel_rfl) rfl)).mono ?_
        rintro e w4 ⟨rfl, ho4, hg4⟩
        rw [HAS.out] at ho4
        go_wp2
        go_ret
        exact ⟨_, rfl, ho4.mono (by omega), hbl.grown hg4 hbl.size (fun k hk => by cases hk; omega)⟩
end Go.Proofs.YtbennlajjfkdpaaGreatDoor
