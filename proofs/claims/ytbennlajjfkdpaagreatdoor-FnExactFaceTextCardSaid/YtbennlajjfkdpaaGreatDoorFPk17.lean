/- part 17 -/
import Derived.Test.YtbennlajjfkdpaaGreatDoorFPk15
import Derived.Test.YtbennlajjfkdpaaGreatDoorFPk16
set_option linter.unusedSimpArgs false
set_option linter.unusedVariables false
namespace Go.Proofs.YtbennlajjfkdpaaGreatDoor
open Go.RowKit
def posN (bf : Nat → Bool) (G : List Nat) : Nat → Nat
  | 0 => 0
  | a + 1 => if bf (G.getD a 0) then posN bf G a else a + 1
def insN (bf : Nat → Bool) (d : Nat) (G : List Nat) : List Nat := G.take (posN bf G G.length) ++ d :: G.drop (posN bf G G.length)
theorem posN_le (bf : Nat → Bool) (G : List Nat) : ∀ a, posN bf G a ≤ a
  | 0 => Nat.le_refl _
  | a + 1 => by
    unfold posN
    split
    · exact Nat.le_succ_of_le (posN_le bf G a)
    · exact Nat.le_refl _
theorem insN_length (bf : Nat → Bool) (d : Nat) (G : List Nat) : (insN bf d G).length = G.length + 1 := by
  have := posN_le bf G G.length
  simp [insN]; omega
theorem insN_mem {bf : Nat → Bool} {d e : Nat} {G : List Nat} (h : e ∈ insN bf d G) : e = d ∨ e ∈ G := by
  unfold insN at h
  rw [List.mem_append, List.mem_cons] at h
  rcases h with h | h | h
  · exact .inr (List.mem_of_mem_take h)
  · exact .inl h
  · exact .inr (List.mem_of_mem_drop h)
def bfD (ns ls : List Pr) (k : Nat) (d e : Nat) : Bool :=
  befB (ndI ns k).1 (ndI ns k).2 (ndI ns (dTo ls d)).1 (ndI ns (dTo ls d)).2 (ndI ns (dTo ls e)).1 (ndI ns (dTo ls e)).2
def ardS (ns ls : List Pr) (k : Nat) : Nat → List Nat
  | 0 => []
  | d + 1 => if dFrom ls d = k then insN (bfD ns ls k d) d (ardS ns ls k d) else ardS ns ls k d
theorem ardS_no {ns ls : List Pr} {k d : Nat} (h : ¬ dFrom ls d = k) : ardS ns ls k (d + 1) = ardS ns ls k d := by simp [ardS, h]
theorem ardS_yes {ns ls : List Pr} {k d : Nat} (h : dFrom ls d = k) : ardS ns ls k (d + 1) = insN (bfD ns ls k d) d (ardS ns ls k d) := by simp [ardS, h]
theorem ardS_lt (ns ls : List Pr) (k : Nat) : ∀ d e, e ∈ ardS ns ls k d → e < d
  | 0, e, h => by simp [ardS] at h
  | d + 1, e, h => by
    unfold ardS at h
    split at h
    · rcases insN_mem h with rfl | h
      · omega
      · have := ardS_lt ns ls k d e h; omega
    · have := ardS_lt ns ls k d e h; omega
theorem ardS_len (ns ls : List Pr) (k : Nat) : ∀ d, (ardS ns ls k d).length ≤ d
  | 0 => by simp [ardS]
  | d + 1 => by
    unfold ardS
    split
    · rw [insN_length]; have := ardS_len ns ls k d; omega
    · have := ardS_len ns ls k d; omega
def natI (G : List Nat) : List Int := G.map fun (d : Nat) => (d : Int)
theorem natI_length (G : List Nat) : (natI G).length = G.length := by simp [natI]
theorem OwnI.made {base : Nat} {w : World} {g : Nat} (hg : g = w.heap.size) (hb : base ≤ w.heap.size) : OwnI base (w.alloc (.cells #[] 3)) (.slice (some ⟨g, 0, none⟩) 0 0) [] := by
  subst hg
  exact World.ownsRow_made _ _ _ hb (by simp) (by simp [maxLen])
theorem OwnI.form {base : Nat} {w : World} {v : Value} {zs : List Int} (h : OwnI base w v zs) : ∃ A c, v = .slice A zs.length c := by
  rcases h.2 with ⟨rfl, hn⟩ | ⟨g, cap, cur, rfl, _⟩
  · exact ⟨none, 0, by rw [hn]⟩
  · exact ⟨_, _, rfl⟩
def gapI (G : List Nat) (at' : Nat) (y : Int) : List Int := natI (G.take at') ++ y :: natI (G.drop at')
theorem gapI_length (G : List Nat) (a : Nat) (y : Int) (h : a ≤ G.length) : (gapI G a y).length = G.length + 1 := by
  simp [gapI, natI]; omega
theorem gapI_full (G : List Nat) (y : Int) : gapI G G.length y = natI G ++ [y] := by simp [gapI, natI]
theorem gapI_get (G : List Nat) (a : Nat) (y : Int) (h : a < G.length) : (gapI G (a + 1) y).getD a 0 = ((G.getD a 0 : Nat) : Int) := by
  unfold gapI natI
  rw [List.getD, List.getElem?_append_left (by simp; omega)]
  simp [List.getElem?_take, h]
theorem gapI_move (G : List Nat) (a : Nat) (y : Int) (h : a < G.length) : (gapI G (a + 1) y).set (a + 1) ((G.getD a 0 : Nat) : Int) = gapI G a ((G.getD a 0 : Nat) : Int) := by
  unfold gapI natI
  rw [List.set_append, if_neg (by simp; omega)]
  have e : (List.map (fun (d : Nat) => (d : Int)) (G.take (a + 1))).length = a + 1 := by simp; omega
  rw [e, Nat.sub_self, List.set_cons_zero, List.take_succ_eq_append_getElem h, List.map_append, List.append_assoc]
  simp [List.getD, h]
  rw [List.drop_eq_getElem_cons (i := a) (by simpa using h)]
  simp
theorem gapI_put (G : List Nat) (a : Nat) (y : Int) (d : Nat) (h : a ≤ G.length) : (gapI G a y).set a (d : Int) = natI (G.take a ++ d :: G.drop a) := by
  unfold gapI natI
  rw [List.set_append, if_neg (by simp; omega)]
  have e : (List.map (fun (d : Nat) => (d : Int)) (G.take a)).length = a := by simp; omega
  rw [e, Nat.sub_self, List.set_cons_zero, List.map_append, List.map_cons]
theorem dTo_nat {ns ls : List Pr} (hld : ∀ j : Nat, j < ls.length → leadB ns (ndI ls j) = true) {d : Nat} (hd : d < 2 * ls.length) : ∃ t : Nat, dTo ls d = (t : Int) ∧ t < ns.length := by
  obtain ⟨h1, h2, h3, _⟩ := leadB_iff.1 (hld (d / 2) (by omega))
  unfold dTo
  split
  · exact ⟨(ndI ls (d / 2 : Nat)).1.toNat, by omega, by omega⟩
  · exact ⟨(ndI ls (d / 2 : Nat)).2.toNat, by omega, by omega⟩
theorem sBefore_at (a b c : Pr) (x : Bool) (w : World) (h : befB a.1 a.2 b.1 b.2 c.1 c.2 = x) :
    Calls Tryz.prog 126 #[.agg #[.int .i64 a.1, .int .i64 a.2], .agg #[.int .i64 b.1, .int .i64 b.2], .agg #[.int .i64 c.1, .int .i64 c.2]] w
      fun e w' => e = .returned (.bool x) ∧ Below w.heap.size w w' := by
  subst h; exact sBefore_any _ _ _ _ _ _ w
set_option maxHeartbeats 8000000 in
set_option maxRecDepth 100000 in
theorem sAround_any (vn vl : Value) (ns ls : List Pr) (k : Nat) (w : World) (hn : RP w vn ns) (hl : RP w vl ls) (hk : k < ns.length) (hm : ls.length ≤ 20) (hn12 : ns.length ≤ 12) (hld : ∀ j : Nat, j < ls.length → leadB ns (ndI ls j) = true) :
    Calls Tryz.prog 115 #[.agg #[vn, vl], .int .i64 k] w (RetI (natI (ardS ns ls k (2 * ls.length))) w) := by
  obtain ⟨An, cn, rfl, hcn, hmn, hcelln⟩ := hn.formI
  obtain ⟨Al, cl, rfl, hcl, hml, _⟩ := hl.formI
  unfold maxLen at hmn hml
  obtain ⟨bn, offn, rfl, hbn, hcc⟩ := hcelln (by omega)
  obtain ⟨i0, hi, iz0, iz1, iz2⟩ := info_parts infoInt
  have HLD := Lib.hid hld
  clear hld hcelln
  go_enter Tryz.func115, Tryz.ntmps115
  go_wp2
  go_loopw [5, 6] (fun v i wr => ∃ d : Nat, d ≤ 2 * ls.length ∧ i = .int .i64 d ∧ OwnI (w.heap.size + 1) wr v (natI (ardS ns ls k d)) ∧ Blk wr w.heap.size 31 #[.slice (some ⟨bn, offn, none⟩) ns.length cn, .slice Al ls.length cl] ∧ Below w.heap.size w wr) (fun _ i _ => 2 * ls.length - (intOf i).toNat)
  case atStart => exact ⟨0, Nat.zero_le _, rfl, OwnI.made (by simp) (by simp), (Blk.newAt rfl).alloc _, by exact bel_⟩
  case round =>
    obtain ⟨d, hd, rfl, ho, hW, hbl⟩ := hrel
    have hsz := hW.lt
    obtain ⟨a_0, a_1⟩ := hW.c2
    by_cases hlt : d < 2 * ls.length
    · have hlt1 : (d : Int) < 2 * (ls.length : Int) := by omega
      go_wp2_with fail
      refine (sEnds_any _ _ ls d _ (hl.below (by exact bel_)) hlt).mono ?_
      rintro e w1 ⟨rfl, hb1⟩; (first | (with_reducible have hc1 := bdC hb1) | have hc1 := bcC hb1); (first | (with_reducible have hf1 := bdF hb1) | have hf1 := bcF hb1); have hz1 := hb1.size; (try simp at hz1); (try have hp1_0 := p0_ w w1); (try have hp1_1 := p1_ w w1); (try have hp1_2 := p2_ w w1); (try have hp1_3 := p3_ w w1)
      have ho1 := ho.kept hb1
      have hW1 := hW.below hb1 hsz
      have hbw1 : Below w.heap.size w w1 := by exact bel_
      clear hb1 hc1 hf1 ho hW hbl a_0 a_1
      by_cases hfr : dFrom ls d = k
      · have e1 : (dFrom ls d != (k : Int)) = false := by simp [hfr]
        have HS := Lib.hid (ardS_yes (ns := ns) hfr)
        have hle := ardS_len ns ls k d
        have HLT := Lib.hid (ardS_lt ns ls k d)
        generalize ardS ns ls k d = G at *
        have hgl := natI_length G
        have hG : G.length ≤ 40 := by omega
        obtain ⟨t, ht, htn⟩ := dTo_nat HLD.out hlt
        rw [ht, hfr]
        have HFR := Lib.hid hfr
        have HTT := Lib.hid ht
        have HGL := Lib.hid hgl
        obtain ⟨k0, k1⟩ := hcc k hk
        obtain ⟨t0, t1⟩ := hcc t htn
        clear hfr ht hgl hle
        have hsz1 := hbw1.size
        have hz1 : w.heap.size < w1.heap.size := hW1.lt
        have hlen := ho1.form
        obtain ⟨A1, c1, hv1⟩ := hlen
        subst hv1
        obtain ⟨a_0, a_1⟩ := hW1.c2
        go_wp2_with (at_builtin; refine wpList_append_own _ rfl _ _ 42 rfl (w.heap.size + 1) 3 i0 (.int .i64 0) 1 8 Tryz.underlying42 hi iz0 iz1 iz2 rfl (by decide) _ _ _ rfl (World.ownsRow.alloc ho1 _) ⟨w1.heap.size, 0, none⟩ 1 1 [.int .i64 _] rfl rfl (cell_one_new _ _ _) (by intro u hu; simp at hu; subst hu; rfl) (by rw [HGL.out]; unfold maxLen; omega) (by rw [HGL.out]; omega) (by simp; omega) ?_)
        intro v2 w2 hown2 hg2 hne2
        have hbl2 : Below w.heap.size w w2 := (hbw1.alloc (by omega) _).grown hg2 (by simp; omega) (fun k hk => by have := (ho1.lt k hk).1; omega)
        have hW2 : Blk w2 w.heap.size 31 #[.slice (some ⟨bn, offn, none⟩) ns.length cn, .slice Al ls.length cl] := (hg2.block _ (by simp; omega) (fun e => by have := (ho1.lt _ e.symm).1; omega)).trans (hW1.alloc _)
        have HO : OwnI (w.heap.size + 1) w2 v2 (gapI G G.length (d : Int)) := by
          rw [gapI_full]
          exact OwnI.snoc hown2
        clear hown2 hg2 ho1 hW1 hbw1 a_0 a_1 hsz1 hz1 hsz
        rcases hcase : HO.2 with ⟨e0, _⟩ | ⟨gb, cap, cur, rfl, hbg, hh, hrest⟩
        · exact absurd e0 hne2
        have hgz : gb < w2.heap.size := (HO.lt gb rfl).2
        have hne : ¬ gb = w.heap.size := by omega
        clear hcase hh hrest cur hne2
        rw [gapI_length G G.length _ (Nat.le_refl _)] at HO ⊢
        rw [HGL.out]
        go_wp2
        go_loopw [9] (fun x wr => ∃ p : Nat, p ≤ G.length ∧ x = .int .i64 p ∧ (∃ y, OwnI (w.heap.size + 1) wr (.slice (some ⟨gb, 0, none⟩) (G.length + 1) cap) (gapI G p y)) ∧ Hid (posN (bfD ns ls k d) G G.length = posN (bfD ns ls k d) G p) ∧ Blk wr w.heap.size 31 #[.slice (some ⟨bn, offn, none⟩) ns.length cn, .slice Al ls.length cl] ∧ Below w.heap.size w wr ∧ gb < wr.heap.size) (fun x _ => (intOf x).toNat)
        case atStart => exact ⟨G.length, Nat.le_refl _, rfl, ⟨_, HO⟩, Lib.hid rfl, hW2, hbl2, hgz⟩
        case round =>
          obtain ⟨p, hp, rfl, ⟨y, hoy⟩, HP, hW, hbl, hgw⟩ := hrel
          clear HO hW2 hbl2 hgz
          have hsz := hW.lt
          have hgl2 := gapI_length G p y hp
          obtain ⟨a_0, a_1⟩ := hW.c2
          by_cases hp0 : 0 < p
          · obtain ⟨r, rfl⟩ : ∃ r, p = r + 1 := ⟨p - 1, by omega⟩
            have hr : r < G.length := by omega
            have xr := hoy.cell (q := r) (by omega)
            rw [gapI_get G r y hr] at xr
            have he : G.getD r 0 < d := HLT.out _ (by rw [List.getD, List.getElem?_eq_getElem hr]; exact List.getElem_mem hr)
            have HMV := Lib.hid (gapI_move G r y hr)
            have HPS : Hid (posN (bfD ns ls k d) G (r + 1) = if bfD ns ls k d (G.getD r 0) then posN (bfD ns ls k d) G r else r + 1) := Lib.hid rfl
            generalize hev : G.getD r 0 = e at *
            have HEV := Lib.hid hev
            clear hev
            obtain ⟨t2, ht2, ht2n⟩ := dTo_nat HLD.out (show e < 2 * ls.length by omega)
            have HTT2 := Lib.hid ht2
            obtain ⟨s0, s1⟩ := hcc t2 ht2n
            obtain ⟨x, hx⟩ : ∃ x, befB (ndI ns k).1 (ndI ns k).2 (ndI ns t).1 (ndI ns t).2 (ndI ns t2).1 (ndI ns t2).2 = x := ⟨_, rfl⟩
            have HX : Hid (bfD ns ls k d e = x) := Lib.hid (by unfold bfD; rw [HTT.out, HTT2.out]; exact hx)
            have hlr : RP wr (.slice Al ls.length cl) ls := hl.below hbl
            have hsub : (((r + 1 : Nat) : Int)) - 1 = (r : Int) := by omega
            have hp1 : (0 : Int) < ((r + 1 : Nat) : Int) := by omega
            have hi1 : (0 : Int) ≤ (r : Int) := by omega
            have hi2 : (r : Int) < ((G.length + 1 : Nat) : Int) := by omega
            go_wp2_with fail
            (refine wp_region_quietG (by kernel_rfl) (by kernel_rfl) (fun hG => ?_))
            repeat (go_big_quiet_step ((go_at_call 36; exact quietG (sEnds_any _ _ ls e _ (RS.grw _ hlr) (by omega)))))
            (refine wpQuiet_nil ?_); (clear hG); (rintro w3 ⟨⟨_, hb3⟩, rfl⟩); (try dsimp only); (first | (with_reducible have hc3 := bdC hb3) | have hc3 := bcC hb3); (first | (with_reducible have hf3 := bdF hb3) | have hf3 := bcF hb3); have hz3 := hb3.size; (try simp at hz3); (try have hp3_0 := p0_ w w3); (try have hp3_1 := p1_ w w3); (try have hp3_2 := p2_ w w3); (try have hp3_3 := p3_ w w3)
            have hW3 := hW.below hb3 hsz
            have ho3 := hoy.kept hb3
            have hbl3 : Below w.heap.size w w3 := by exact bel_
            have hgw3 : gb < w3.heap.size := by omega
            have hz3 : w.heap.size < w3.heap.size := hW3.lt
            have hbn3 : bn < w3.heap.size := by omega
            have c0 := (hbl3.cell (p := ⟨bn, offn + k * 2, none⟩) hbn).trans k0
            have c1' := (hbl3.cell (p := ⟨bn, offn + k * 2 + 1, none⟩) hbn).trans k1
            have c2 := (hbl3.cell (p := ⟨bn, offn + t * 2, none⟩) hbn).trans t0
            have c3 := (hbl3.cell (p := ⟨bn, offn + t * 2 + 1, none⟩) hbn).trans t1
            have c4 := (hbl3.cell (p := ⟨bn, offn + t2 * 2, none⟩) hbn).trans s0
            have c5 := (hbl3.cell (p := ⟨bn, offn + t2 * 2 + 1, none⟩) hbn).trans s1
            have ik1 : (0 : Int) ≤ (k : Int) := by omega
            have ik2 : (k : Int) < (ns.length : Int) := by omega
            have it1 : (0 : Int) ≤ (t : Int) := by omega
            have it2 : (t : Int) < (ns.length : Int) := by omega
            have is1 : (0 : Int) ≤ (t2 : Int) := by omega
            have is2 : (t2 : Int) < (ns.length : Int) := by omega
            clear hb3 hc3 hf3 hp3_0 hp3_1 hW hoy hbl a_0 a_1 xr hlr
            obtain ⟨a_0, a_1⟩ := hW3.c2
            rw [HTT2.out]
            go_wp2_with fail
            (refine wp_region_quietG (by kernel_rfl) (by kernel_rfl) (fun hG => ?_))
            repeat (go_big_quiet_step ((go_at_call 126; exact quietG (sBefore_at (ndI ns k) (ndI ns t) (ndI ns t2) _ _ hx))))
            (refine wpQuiet_nil ?_); (clear hG); (rintro w4 ⟨⟨_, hb4⟩, rfl⟩); (try dsimp only); (first | (with_reducible have hc4 := bdC hb4) | have hc4 := bcC hb4); (first | (with_reducible have hf4 := bdF hb4) | have hf4 := bcF hb4); have hz4 := hb4.size; (try simp at hz4); (try have hp4_0 := p0_ w w4); (try have hp4_1 := p1_ w w4); (try have hp4_2 := p2_ w w4); (try have hp4_3 := p3_ w w4)
            have hW := hW3.below hb4 hz3
            have hoy := ho3.kept hb4
            have hbl : Below w.heap.size w w4 := by exact bel_
            have hgw4 : gb < w4.heap.size := by omega
            clear hb4 hc4 hf4 hz4 hW3 ho3 hbl3 a_0 a_1 c0 c1' c2 c3 c4 c5 hz3
            obtain ⟨a_0, a_1⟩ := hW.c2
            cases x
            · have HP2 : Hid (posN (bfD ns ls k d) G G.length = r + 1) := Lib.hid (by rw [HP.out, HPS.out, HX.out]; rfl)
              have xp := hoy.cell (q := r + 1) (by omega)
              obtain ⟨z, hz⟩ : ∃ z, w4.cell? ⟨gb, r + 1, none⟩ = some z := ⟨_, xp⟩
              have fp := hoy.frz (r + 1)
              have HO2 : Hid (OwnI (w.heap.size + 1) (w4.setCell ⟨gb, r + 1, none⟩ (.int .i64 (d : Int))) (.slice (some ⟨gb, 0, none⟩) (G.length + 1) cap) (natI (ardS ns ls k (d + 1)))) := Lib.hid (by
                rw [HS.out]
                unfold insN
                rw [HP2.out, ← gapI_put G (r + 1) y d (by omega)]
                exact hoy.set_ (r + 1) (d : Int))
              have HB2 := Lib.hid (hbl.setCell (p := ⟨gb, r + 1, none⟩) (show w.heap.size ≤ gb by omega) (.int .i64 (d : Int)))
              have HW2 := Lib.hid (hW.far (p := ⟨gb, r + 1, none⟩) (Ne.symm hne) (.int .i64 (d : Int)))
              clear xp hoy hbl hW a_0 a_1
              go_wp2
              go_roundw
              case rel => exact ⟨d + 1, by omega, by go_num, HO2.out, HW2.out, HB2.out⟩
              case measure => simp [intOf]; omega
            · have HP2 : Hid (posN (bfD ns ls k d) G G.length = posN (bfD ns ls k d) G r) := Lib.hid (by rw [HP.out, HPS.out, HX.out]; rfl)
              have xp := hoy.cell (q := r + 1) (by omega)
              obtain ⟨z, hz⟩ : ∃ z, w4.cell? ⟨gb, r + 1, none⟩ = some z := ⟨_, xp⟩
              have fp := hoy.frz (r + 1)
              have xr := hoy.cell (q := r) (by omega)
              rw [gapI_get G r y hr, HEV.out] at xr
              have HO2 : Hid (OwnI (w.heap.size + 1) (w4.setCell ⟨gb, r + 1, none⟩ (.int .i64 (e : Int))) (.slice (some ⟨gb, 0, none⟩) (G.length + 1) cap) (gapI G r (e : Int))) := Lib.hid (by
                rw [← HMV.out]
                exact hoy.set_ (r + 1) (e : Int))
              have HB2 := Lib.hid (hbl.setCell (p := ⟨gb, r + 1, none⟩) (show w.heap.size ≤ gb by omega) (.int .i64 (e : Int)))
              have HW2 := Lib.hid (hW.far (p := ⟨gb, r + 1, none⟩) (Ne.symm hne) (.int .i64 (e : Int)))
              have hrl : (r : Int) < (G.length : Int) + 1 := by omega
              have hrl2 : (r : Int) + 1 < (G.length : Int) + 1 := by omega
              clear xp hoy hbl hW a_0 a_1
              go_wp2
              go_roundw
              case rel => exact ⟨r, by omega, by go_num, ⟨_, HO2.out⟩, HP2, HW2.out, HB2.out, by simpa using hgw4⟩
              case measure => simp [intOf]
          · have hp0' : p = 0 := by omega
            subst hp0'
            have HP2 : Hid (posN (bfD ns ls k d) G G.length = 0) := Lib.hid HP.out
            clear hp0
            have xp := hoy.cell (q := 0) (by omega)
            obtain ⟨z, hz⟩ : ∃ z, wr.cell? ⟨gb, 0, none⟩ = some z := ⟨_, xp⟩
            have fp := hoy.frz 0
            have HO2 : Hid (OwnI (w.heap.size + 1) (wr.setCell ⟨gb, 0, none⟩ (.int .i64 (d : Int))) (.slice (some ⟨gb, 0, none⟩) (G.length + 1) cap) (natI (ardS ns ls k (d + 1)))) := Lib.hid (by
              rw [HS.out]
              unfold insN
              rw [HP2.out, ← gapI_put G 0 y d (by omega)]
              exact hoy.set_ 0 (d : Int))
            have HB2 := Lib.hid (hbl.setCell (p := ⟨gb, 0, none⟩) (show w.heap.size ≤ gb by omega) (.int .i64 (d : Int)))
            have HW2 := Lib.hid (hW.far (p := ⟨gb, 0, none⟩) (Ne.symm hne) (.int .i64 (d : Int)))
            clear xp hoy hbl hW a_0 a_1
            go_wp2
            go_roundw
            case rel => exact ⟨d + 1, by omega, by go_num, HO2.out, HW2.out, HB2.out⟩
            case measure => simp [intOf]; omega
      · have e1 : (dFrom ls d != (k : Int)) = true := by simp [hfr]
        have HS : Hid (ardS ns ls k (d + 1) = ardS ns ls k d) := Lib.hid (ardS_no hfr)
        clear hfr
        go_wp2
        go_roundw
        case rel => exact ⟨d + 1, by omega, by go_num, by rw [HS.out]; exact ho1, hW1, hbw1⟩
        case measure => simp [intOf]; omega
    · have hdd : d = 2 * ls.length := by omega
      subst hdd
      go_wp2
      go_ret
      exact ⟨_, rfl, ho.mono (by omega), hbl⟩
end Go.Proofs.YtbennlajjfkdpaaGreatDoor
