/- part 44 -/
import Derived.Test.YtoknmjpnelbplaaGreatLPk25
set_option linter.unusedSimpArgs false
set_option linter.unusedVariables false
namespace Go.Proofs.YtoknmjpnelbplaaGreat
open Go.RowKit
noncomputable def doStepB (D : Dr) (kd a b : Int) : Bool := okD D && (decide (D.ss.length < 40) && stepB D.nn D.nl kd a b)
noncomputable def doStepD (D : Dr) (kd a b : Int) : Dr := if doStepB D kd a b = true then ⟨D.fn, D.fl, stepN D.nn D.nl kd a b, stepL D.nn D.nl kd a b, D.ss ++ [⟨kd, a, b, D.nn, D.nl⟩]⟩ else D
theorem doStep_no {D : Dr} {kd a b : Int} (h : doStepB D kd a b = false) : doStepD D kd a b = D := by unfold doStepD; rw [h]; rfl
theorem doStep_yes {D : Dr} {kd a b : Int} (h : doStepB D kd a b = true) : doStepD D kd a b = ⟨D.fn, D.fl, stepN D.nn D.nl kd a b, stepL D.nn D.nl kd a b, D.ss ++ [⟨kd, a, b, D.nn, D.nl⟩]⟩ := by unfold doStepD; rw [h]; rfl
theorem cntS_append : ∀ l m : List Sp, cntS (l ++ m) = cntS l + cntS m
  | [], m => by simp [cntS]
  | s :: r, m => by simp only [List.cons_append, cntS, cntS_append r m]; omega
theorem doStep_cnt (D : Dr) (kd a b : Int) (h : DrLe D) : cntD (doStepD D kd a b) ≤ 20000000 := by
  by_cases hc : doStepB D kd a b = true
  · rw [doStep_yes hc]
    have e : cntD (⟨D.fn, D.fl, stepN D.nn D.nl kd a b, stepL D.nn D.nl kd a b, D.ss ++ [⟨kd, a, b, D.nn, D.nl⟩]⟩ : Dr) = 2 * D.fn.length + 2 * D.fl.length + 2 * (stepN D.nn D.nl kd a b).length + 2 * (stepL D.nn D.nl kd a b).length + cntS (D.ss ++ [⟨kd, a, b, D.nn, D.nl⟩]) := rfl
    have e2 : cntS ([⟨kd, a, b, D.nn, D.nl⟩] : List Sp) = 3 + 2 * D.nn.length + 2 * D.nl.length + 0 := rfl
    rw [cntS_append, e2] at e
    have := step_len D.nn D.nl kd a b
    have := cntS_eq D.ss
    have := h.fn
    have := h.fl
    have := h.nn
    have := h.nl
    have := h.ss
    have := h.sum
    omega
  · rw [doStep_no (by simpa using hc)]
    exact h.cnt
theorem OwnD.pushNow {base : Nat} {w w' : World} {a b c d e e' c' d' : Value} {D : Dr} {fs : List SF} {N L : List Pr} {x y z : Int} (h : OwnD base w a b c d e D fs) (hw : OwnW base w c' d' N L) (hf : ∀ k, blksW c' d' k → ¬ blksD a b c d e fs k)
    (hr : w'.ownsRow base 126 5 e' (fs.length + 1) ((fs ++ [((⟨x, y, z, D.nn, D.nl⟩, c, d) : SF)]).flatMap sfc)) (hg : w.grownBy w' e.ownBlock) (hv : e'.ownBlock = e.ownBlock ∨ e'.ownBlock = some w.heap.size) :
    OwnD base w' a b c' d' e' ⟨D.fn, D.fl, N, L, D.ss ++ [⟨x, y, z, D.nn, D.nl⟩]⟩ (fs ++ [(⟨x, y, z, D.nn, D.nl⟩, c, d)]) := by
  have ht : Turns (fun b => e.ownBlock = some b) w w' := Turns.ofGrown hg (fun k hk => hk)
  refine ⟨h.first.turned ht (fun k hk e1 => h.f_s k hk (.inl e1)), hw.turned ht (fun k hk e1 => hf k hk (.inr (.inr (.inl e1)))),
    h.ss.snoc hr hg hv h.now (fun k hk e1 => h.n_s k hk (.inl e1)) (fun j hj k hk hk' => h.n_s k hk (.inr ⟨j, hj, hk'⟩)), by rw [List.map_append, h.map]; rfl, fun k hk hk' => hf k hk' (.inl hk), fun k hk hk' => ?_, fun k hk hk' => ?_⟩
  · rcases blksT_snoc hv hk' with h1 | h1 | h1
    · exact h.f_s k hk h1
    · have := (h.first.lt k hk).2; omega
    · exact h.f_n k hk h1
  · rcases blksT_snoc hv hk' with h1 | h1 | h1
    · exact hf k hk (.inr (.inr h1))
    · have := (hw.lt k hk).2; omega
    · exact hf k hk (.inr (.inl h1))
theorem step_append_step {P : Program} {w : World} {ops : Array Oper} {o : Oper} {a : Act} {K : Act → World → Prop} {Q : Exit → Act → World → Prop} {E : Prop} (hgd : o.guard = none) (s x : Operand) (t : TypeId)
    (ho : o.op = .call { callee := .builtin .append, args := #[s, x], argTypes := #[t, t] })
    (base : Nat) (e : TypeId) (i : TypeInfo) (ht : P.underlying t = some (.slice e)) (hi : P.info? e = some i) (hz : i.zero = some (.agg #[.int .i64 0, .int .i64 0, .int .i64 0, .slice none 0 0, .slice none 0 0])) (hsize : i.size = 5) (hby : i.bytes = 72)
    (v : Value) (fs : List SF) (f : SF) (ad : Addr) (c : Nat) (hs : a.eval s = v) (hx : a.eval x = .slice (some ad) 1 c) (hown : w.ownsRow base e 5 v fs.length (fs.flatMap sfc)) (hn : ∀ (j : Nat) (u : Value), (sfc f)[j]? = some u → w.cell? (ad.add j) = some u)
    (hone : ∀ u ∈ sfc f, u.oneCell' = true) (hlen : fs.length ≤ 1048576) (hbase : base ≤ w.heap.size)
    (h : ∀ A c' w', w'.ownsRow base e 5 (.slice A (fs.length + 1) c') (fs.length + 1) ((fs ++ [f]).flatMap sfc) → w.grownBy w' v.ownBlock → ((Value.slice A (fs.length + 1) c').ownBlock = v.ownBlock ∨ (Value.slice A (fs.length + 1) c').ownBlock = some w.heap.size) → K (a.put o.dst (.slice A (fs.length + 1) c')) w') :
    if Region.wanted o (yielded ops a.tmps) = true then Oper.wp P o a w K Q else E := by
  have hw : Region.wanted o (yielded ops a.tmps) = true := by simp [Region.wanted, hgd]
  rw [if_pos hw]
  obtain ⟨A, c', w', hrun, h2, h3, h4⟩ := run_append_step (ty := o.type) (c := c) ht hi hz hsize hby hown hn hone hlen hbase
  unfold Oper.wp execOp
  simp only [ho, resolve, invoke, builtin, Sem.run_bind, Sem.run_pure, Result.andThen_ok, List.map_toArray, List.map_cons, List.map_nil, hs, hx, hrun]
  exact h A c' w' h2 h3 h4
set_option maxHeartbeats 16000000 in
set_option maxRecDepth 100000 in
theorem iDoStep_at (v0 v1 v2 v3 v4 : Value) (D : Dr) (kd a b : Int) (w : World) (h : RD w v0 v1 v2 v3 v4 D) (hle : DrLe D) :
    Calls Tryz.prog 97 #[.agg #[v0, v1, v2, v3, v4], .int .i64 kd, .int .i64 a, .int .i64 b] w (RetDB (doStepD D kd a b) (doStepB D kd a b) w) := by
  obtain ⟨r, hr⟩ : ∃ r, okD D = r := ⟨_, rfl⟩
  have HR := Lib.hid hr
  have HLE := Lib.hid hle
  obtain ⟨B4, d4, ev4, _⟩ := h.ss
  subst ev4
  obtain ⟨i0, hi, iz0, iz1, iz2⟩ := info_parts infoStep
  obtain ⟨E, hE⟩ : ∃ E, doStepD D kd a b = E := ⟨_, rfl⟩
  obtain ⟨bb, hbb⟩ : ∃ bb, doStepB D kd a b = bb := ⟨_, rfl⟩
  rw [hE, hbb]
  have HE := Lib.hid hE
  have HBB := Lib.hid hbb
  clear hle hE hbb
  go_enter Tryz.func97, Tryz.ntmps97
  go_wp2_with fail
  refine (iCopyD_any _ _ _ _ _ D _ (h.below (by exact bel_)) HLE.out).mono ?_
  rintro e w1 ⟨A0, c0, A1, c1, A2, c2, A3, c3, A4, c4, fs, rfl, ho1, hb1⟩
  have hz1 := hb1.size
  simp at hz1
  have hX1 : Blk w1 w.heap.size 41 #[v0, v1, v2, v3, (.slice B4 D.ss.length d4)] := Blk.below ((Blk.newAt rfl).alloc _) hb1 sz_
  have hR1 : Blk w1 (w.heap.size + 1) 41 #[.slice none 0 0, .slice none 0 0, .slice none 0 0, .slice none 0 0, .slice none 0 0] := Blk.below (Blk.newAt (by simp)) hb1 sz_
  have hbw1 : Below w.heap.size w w1 := by exact bel_
  have hO1 : OwnD (w.heap.size + 1 + 1) w1 (.slice A0 D.fn.length c0) (.slice A1 D.fl.length c1) (.slice A2 D.nn.length c2) (.slice A3 D.nl.length c3) (.slice A4 D.ss.length c4) D fs := by simpa using ho1
  have HS2 := Lib.hid (OutSt.start hO1 (Nat.le_refl _) hX1 hR1 hbw1)
  obtain ⟨x_0, x_1, x_2, x_3, x_4⟩ := hX1.c5
  have hX1l := hX1.lt
  clear ho1 hb1 hO1
  go_wp2_with fail
  obtain ⟨w2, hw2⟩ : ∃ w2, w2 = w1.alloc (.cells #[.slice A0 D.fn.length c0, .slice A1 D.fl.length c1, .slice A2 D.nn.length c2, .slice A3 D.nl.length c3, .slice A4 D.ss.length c4] 41) := ⟨_, rfl⟩
  rw [← hw2] at HS2 ⊢
  generalize w1.heap.size = Z at *
  clear hw2 hX1 hR1 hbw1 x_0 x_1 x_2 x_3 x_4 hX1l hz1
  refine (iDok_at _ _ _ _ _ D r _ (h.below HS2.out.blw) HR).mono ?_
  rintro e w3 ⟨rfl, hb3⟩
  have HS3 := Lib.hid (HS2.out.below hb3)
  clear hb3 HS2
  have hX3 := HS3.out.X
  have hZ3 := HS3.out.Z_
  have hR3 := HS3.out.R
  obtain ⟨x_0, x_1, x_2, x_3, x_4⟩ := hX3.c5
  cases r
  · have hno : doStepB D kd a b = false := by unfold doStepB; rw [hr]; rfl
    have hu : D = E := by rw [← HE.out]; exact (doStep_no hno).symm
    have hv : false = bb := by rw [← HBB.out]; exact hno.symm
    subst hu
    subst hv
    have HF := HS3
    clear HS3 HE HBB hno
    clear hr
    obtain ⟨_, _, hR, hZ, hZl, _, _⟩ := HF.out
    obtain ⟨z_0, z_1, z_2, z_3, z_4⟩ := hZ.c5
    obtain ⟨r_0, r_1, r_2, r_3, r_4, r_f0, r_f1, r_f2, r_f3, r_f4⟩ := hR.b5
    have hRlt := hR.lt
    have HFF := Lib.hid (fun u0 u1 u2 u3 u4 => HF.out.fin u0 u1 u2 u3 u4)
    clear hR hZ HF
    go_wp2
    exact bodyPost_ret (v := .tuple #[.agg #[.slice A0 D.fn.length c0, .slice A1 D.fl.length c1, .slice A2 D.nn.length c2, .slice A3 D.nl.length c3, .slice A4 D.ss.length c4], .bool false]) (by simp [results, Tryz.results97, go_sem, r_0, r_1, r_2, r_3, r_4, hRlt]) rfl ⟨_, _, _, _, _, _, _, _, _, _, _, rfl, (HFF.out _ _ _ _ _).1, (HFF.out _ _ _ _ _).2⟩
  · by_cases h40 : ¬ D.ss.length < 40
    · have hno : doStepB D kd a b = false := by unfold doStepB; rw [hr, decide_eq_false h40]; rfl
      have hn40 : D.ss.length = 40 := by
        have h41 : D.ss.length ≤ 40 := by
          unfold okD at hr
          simp only [Bool.and_eq_true, decide_eq_true_eq] at hr
          exact hr.2.1
        omega
      have hu : D = E := by rw [← HE.out]; exact (doStep_no hno).symm
      have hv : false = bb := by rw [← HBB.out]; exact hno.symm
      subst hu
      subst hv
      have HF := HS3
      clear HS3 HE HBB hno
      clear hr h40
      obtain ⟨_, _, hR, hZ, hZl, _, _⟩ := HF.out
      obtain ⟨z_0, z_1, z_2, z_3, z_4⟩ := hZ.c5
      obtain ⟨r_0, r_1, r_2, r_3, r_4, r_f0, r_f1, r_f2, r_f3, r_f4⟩ := hR.b5
      have hRlt := hR.lt
      have HFF := Lib.hid (fun u0 u1 u2 u3 u4 => HF.out.fin u0 u1 u2 u3 u4)
      clear hR hZ HF
      go_wp2
      exact bodyPost_ret (v := .tuple #[.agg #[.slice A0 D.fn.length c0, .slice A1 D.fl.length c1, .slice A2 D.nn.length c2, .slice A3 D.nl.length c3, .slice A4 D.ss.length c4], .bool false]) (by simp [results, Tryz.results97, go_sem, r_0, r_1, r_2, r_3, r_4, hRlt, hn40]) rfl ⟨_, _, _, _, _, _, _, _, _, _, _, rfl, (HFF.out _ _ _ _ _).1, (HFF.out _ _ _ _ _).2⟩
    · have h40' : D.ss.length < 40 := by omega
      have g1 : ¬ (40 : Int) ≤ (D.ss.length : Int) := by omega
      have g2 : ((D.ss.length : Int) == 40) = false := beq_eq_false_iff_ne.2 (by omega)
      obtain ⟨N, hN⟩ : ∃ N, stepN D.nn D.nl kd a b = N := ⟨_, rfl⟩
      obtain ⟨L, hL⟩ : ∃ L, stepL D.nn D.nl kd a b = L := ⟨_, rfl⟩
      obtain ⟨sb, hsb⟩ : ∃ sb, stepB D.nn D.nl kd a b = sb := ⟨_, rfl⟩
      have H1 := Lib.hid hN
      have H2 := Lib.hid hL
      have H3 := Lib.hid hsb
      have hX3l := hX3.lt
      have HZL3 := hZ3.lt
      have hnn := (h.below HS3.out.blw).nn
      have hnl := (h.below HS3.out.blw).nl
      clear h40
      have HOK := Lib.hid hr
      clear hr hN hL hsb
      go_wp2_with fail
      refine (iStep_at _ _ D.nn D.nl N L kd a b sb _ hnn hnl HLE.out.nn HLE.out.nl H1 H2 H3).mono ?_
      rintro e w4 ⟨An, cn, Al, cl, rfl, ho4, hb4⟩
      have hlt3 := HS3.out.own.lt
      have HS4 := HS3.out.below hb4
      have hR4l := HS4.R.lt
      have hbase : w.heap.size + 1 + 1 ≤ w3.heap.size := by have := hR3.lt; omega
      have hlt4 := ho4.lt
      have hm := congrArg List.length HS4.own.map
      simp at hm
      have hzl := HS4.lt
      obtain ⟨w5, hw5⟩ : ∃ w5, w5 = w4.alloc (.cells #[.slice An N.length cn, .slice Al L.length cl] 38) := ⟨_, rfl⟩
      have hb5 : Below w4.heap.size w4 w5 := hw5 ▸ (Below.refl _ _).alloc (Nat.le_refl _) _
      have hT5 : Blk w5 w4.heap.size 38 #[.slice An N.length cn, .slice Al L.length cl] := hw5 ▸ Blk.newAt rfl
      have HS5 := Lib.hid (HS4.below hb5)
      have ho5 := Lib.hid ((ho4.kept hb5).mono hbase)
      have hs45 : w3.heap.size ≤ w4.heap.size := hb4.size
      have HFR : Hid (∀ k, blksW (.slice An N.length cn) (.slice Al L.length cl) k → ¬ blksD (.slice A0 D.fn.length c0) (.slice A1 D.fl.length c1) (.slice A2 D.nn.length c2) (.slice A3 D.nl.length c3) (.slice A4 D.ss.length c4) fs k) := Lib.hid (fun k hk hk' => by have := (hlt4 k hk).1; have := (hlt3 k hk').2; omega)
      have HL4 : Hid (∀ k, blksW (.slice An N.length cn) (.slice Al L.length cl) k → k < w4.heap.size) := Lib.hid (fun k hk => (hlt4 k hk).2)
      have hZ5 := HS5.out.Z_.lt
      have HTZ0 : Hid (¬ w4.heap.size = Z) := Lib.hid (by have := HS4.Z_.lt; omega)
      have HZN0 : Hid (blksW (.slice An N.length cn) (.slice Al L.length cl) Z → False) := Lib.hid (fun hz => by have := (hlt4 _ hz).1; have := HZL3; omega)
      have HLO : Hid (∀ k, blksD (.slice A0 D.fn.length c0) (.slice A1 D.fl.length c1) (.slice A2 D.nn.length c2) (.slice A3 D.nl.length c3) (.slice A4 D.ss.length c4) fs k → k < w4.heap.size) := Lib.hid (fun k hk => by have := (hlt3 k hk).2; omega)
      clear ho4 hb4 hlt3 hlt4 HS4 HS3 hX3 hZ3 hR3 hX3l hnn hnl x_0 x_1 x_2 x_3 x_4 hR4l
      go_upto_region 5 with (fail)
      rw [← hw5]
      generalize w4.heap.size = T at *
      clear hw5 hb5
      cases sb
      · have hno : doStepB D kd a b = false := by unfold doStepB; rw [H3.out, Bool.and_false, Bool.and_false]
        have hu : D = E := by rw [← HE.out]; exact (doStep_no hno).symm
        have hv : false = bb := by rw [← HBB.out]; exact hno.symm
        subst hu
        subst hv
        have HF := HS5
        clear HS5 HE HBB hno
        clear HOK H1 H2 H3 hT5 ho5 HFR HL4 hbase hm hs45
        obtain ⟨_, _, hR, hZ, hZl, _, _⟩ := HF.out
        obtain ⟨z_0, z_1, z_2, z_3, z_4⟩ := hZ.c5
        obtain ⟨r_0, r_1, r_2, r_3, r_4, r_f0, r_f1, r_f2, r_f3, r_f4⟩ := hR.b5
        have hRlt := hR.lt
        have HFF := Lib.hid (fun u0 u1 u2 u3 u4 => HF.out.fin u0 u1 u2 u3 u4)
        clear hR hZ HF
        go_wp2
        exact bodyPost_ret (v := .tuple #[.agg #[.slice A0 D.fn.length c0, .slice A1 D.fl.length c1, .slice A2 D.nn.length c2, .slice A3 D.nl.length c3, .slice A4 D.ss.length c4], .bool false]) (by simp [results, Tryz.results97, go_sem, r_0, r_1, r_2, r_3, r_4, hRlt]) rfl ⟨_, _, _, _, _, _, _, _, _, _, _, rfl, (HFF.out _ _ _ _ _).1, (HFF.out _ _ _ _ _).2⟩
      · have hyes : doStepB D kd a b = true := by unfold doStepB; rw [HOK.out, H3.out, decide_eq_true h40']; rfl
        have hu : E = ⟨D.fn, D.fl, N, L, D.ss ++ [⟨kd, a, b, D.nn, D.nl⟩]⟩ := by rw [← HE.out, doStep_yes hyes, H1.out, H2.out]
        have hv : true = bb := by rw [← HBB.out]; exact hyes.symm
        subst hu
        subst hv
        clear HE HBB hyes HOK H1 H2 H3
        have hZ5b := HS5.out.Z_
        have hX5b := HS5.out.X
        obtain ⟨z_0, z_1, z_2, z_3, z_4, z_f0, z_f1, z_f2, z_f3, z_f4⟩ := hZ5b.b5
        obtain ⟨x_0, x_1, x_2, x_3, x_4⟩ := hX5b.c5
        obtain ⟨t_0, t_1⟩ := hT5.c2
        have hX5l := hX5b.lt
        have hT5l := hT5.lt
        have hfs20 : fs.length ≤ 1048576 := by omega
        have HM := Lib.hid hm
        clear hm
        have HTZ : Hid (¬ T = Z) := HTZ0
        have HZN : Hid (blksW (.slice An N.length cn) (.slice Al L.length cl) Z → False) := HZN0
        have HFZ : Hid (blksW (.slice A2 D.nn.length c2) (.slice A3 D.nl.length c3) Z → False) := Lib.hid (fun hz => HS5.out.far (.inr (.inl hz)))
        have hrow := HS5.out.own.alloc (.cells #[.int .i64 kd, .int .i64 a, .int .i64 b, .slice A2 D.nn.length c2, .slice A3 D.nl.length c3] 126)
        have hwn := ho5.out.alloc' (.cells #[.int .i64 kd, .int .i64 a, .int .i64 b, .slice A2 D.nn.length c2, .slice A3 D.nl.length c3] 126)
        have HROW := Lib.hid hrow
        have HWN := Lib.hid hwn
        have HX6 := Lib.hid (HS5.out.X.alloc (.cells #[.int .i64 kd, .int .i64 a, .int .i64 b, .slice A2 D.nn.length c2, .slice A3 D.nl.length c3] 126))
        have HR6 := Lib.hid (HS5.out.R.alloc (.cells #[.int .i64 kd, .int .i64 a, .int .i64 b, .slice A2 D.nn.length c2, .slice A3 D.nl.length c3] 126))
        have HZ6 := Lib.hid (hZ5b.alloc (.cells #[.int .i64 kd, .int .i64 a, .int .i64 b, .slice A2 D.nn.length c2, .slice A3 D.nl.length c3] 126))
        have HT6 := Lib.hid (hT5.alloc (.cells #[.int .i64 kd, .int .i64 a, .int .i64 b, .slice A2 D.nn.length c2, .slice A3 D.nl.length c3] 126))
        have HBW6 := Lib.hid (HS5.out.blw.alloc HS5.out.blw.size (.cells #[.int .i64 kd, .int .i64 a, .int .i64 b, .slice A2 D.nn.length c2, .slice A3 D.nl.length c3] 126))
        have HLT : Hid (∀ k, (Value.slice A4 D.ss.length c4).ownBlock = some k → w.heap.size + 1 + 1 ≤ k ∧ k ≠ Z ∧ k < T) := Lib.hid (fun k hk => ⟨(HS5.out.own.lt k (.inr (.inr (.inl hk)))).1, fun e => HS5.out.far (e ▸ .inr (.inr (.inl hk))), HLO.out k (.inr (.inr (.inl hk)))⟩)
        have HLIT : Hid (∀ (j : Nat) (u : Value), (sfc ((⟨kd, a, b, D.nn, D.nl⟩, .slice A2 D.nn.length c2, .slice A3 D.nl.length c3) : SF))[j]? = some u → (w5.alloc (.cells #[.int .i64 kd, .int .i64 a, .int .i64 b, .slice A2 D.nn.length c2, .slice A3 D.nl.length c3] 126)).cell? ((⟨w5.heap.size, 0, none⟩ : Addr).add j) = some u) := Lib.hid (lit_step rfl rfl)
        have hb20 : w.heap.size + 1 + 1 ≤ (w5.alloc (.cells #[.int .i64 kd, .int .i64 a, .int .i64 b, .slice A2 D.nn.length c2, .slice A3 D.nl.length c3] 126)).heap.size := by simp; omega
        have HRW : Hid (World.ownsRow (w5.alloc (.cells #[.int .i64 kd, .int .i64 a, .int .i64 b, .slice A2 D.nn.length c2, .slice A3 D.nl.length c3] 126)) (w.heap.size + 1 + 1) 126 5 (.slice A4 D.ss.length c4) fs.length (fs.flatMap sfc)) := Lib.hid HROW.out.ss.row
        clear hrow hwn hX5b
        go_wp2_with (at_builtin; refine wpList_append_step rfl _ _ _ rfl (w.heap.size + 1 + 1) 126 i0 Tryz.underlying39 hi iz0 iz1 iz2 (.slice A4 D.ss.length c4) fs (⟨kd, a, b, D.nn, D.nl⟩, .slice A2 D.nn.length c2, .slice A3 D.nl.length c3) ⟨w5.heap.size, 0, none⟩ 1 rfl rfl HRW.out HLIT.out (sfc_one _ _ _ _ _ _ _ rfl rfl) hfs20 hb20 ?_)
        intro A5 c5 w6 hr6 hg6 ha6
        have hs6 := hg6.size
        simp at hs6
        have hO6 := HROW.out.pushNow HWN.out HFR.out (by rw [List.flatMap_append]; simpa using hr6) hg6 (by simpa using ha6)
        have hX6 := HX6.out.grownR hg6 (fun k hk e => by have := (HLT.out k hk).1; omega)
        have hR6 := HR6.out.grownR hg6 (fun k hk e => by have := (HLT.out k hk).1; omega)
        have hZ6 := HZ6.out.grownR hg6 (fun k hk e => (HLT.out k hk).2.1 e)
        have hT6 := HT6.out.grownR hg6 (fun k hk e => by have := (HLT.out k hk).2.2; omega)
        have hb6 := HBW6.out.grown hg6 HBW6.out.size (fun k hk => by have := (HLT.out k hk).1; omega)
        have hv6 : (Value.slice A5 (fs.length + 1) c5).ownBlock = (Value.slice A4 D.ss.length c4).ownBlock ∨ (Value.slice A5 (fs.length + 1) c5).ownBlock = some (w5.heap.size + 1) := by simpa using ha6
        have hZfar : ¬ blksD (.slice A0 D.fn.length c0) (.slice A1 D.fl.length c1) (.slice An N.length cn) (.slice Al L.length cl) (.slice A5 (fs.length + 1) c5) (fs ++ [(⟨kd, a, b, D.nn, D.nl⟩, .slice A2 D.nn.length c2, .slice A3 D.nl.length c3)]) Z := by
          rintro (hz | hz | hz)
          · exact HS5.out.far (.inl hz)
          · have := HZN.out hz; exact this
          · rcases blksT_snoc hv6 hz with h1 | h1 | h1
            · exact HS5.out.far (.inr (.inr h1))
            · omega
            · exact HFZ.out h1
        have nX : w.heap.size ≠ Z := by omega
        have nR : w.heap.size + 1 ≠ Z := by omega
        have nB : w.heap.size ≤ Z := by omega
        obtain ⟨w7, hw7⟩ : ∃ w7, w7 = ((w6.setCell ⟨Z, 4, none⟩ (.slice A5 (fs.length + 1) c5)).setCell ⟨Z, 2, none⟩ (.slice An N.length cn)).setCell ⟨Z, 3, none⟩ (.slice Al L.length cl) := ⟨_, rfl⟩
        have HF : Hid (OutSt w v0 v1 v2 v3 (.slice B4 D.ss.length d4) Z (.slice A0 D.fn.length c0) (.slice A1 D.fl.length c1) (.slice An N.length cn) (.slice Al L.length cl) (.slice A5 (fs.length + 1) c5) ⟨D.fn, D.fl, N, L, D.ss ++ [⟨kd, a, b, D.nn, D.nl⟩]⟩ (fs ++ [(⟨kd, a, b, D.nn, D.nl⟩, .slice A2 D.nn.length c2, .slice A3 D.nl.length c3)]) w7) := Lib.hid
          (hw7 ▸ ⟨((hO6.setFar (p := ⟨Z, 4, none⟩) hZfar _).setFar (p := ⟨Z, 2, none⟩) hZfar _).setFar (p := ⟨Z, 3, none⟩) hZfar _, ((hX6.far (p := ⟨Z, 4, none⟩) nX _).far (p := ⟨Z, 2, none⟩) nX _).far (p := ⟨Z, 3, none⟩) nX _,
            ((hR6.far (p := ⟨Z, 4, none⟩) nR _).far (p := ⟨Z, 2, none⟩) nR _).far (p := ⟨Z, 3, none⟩) nR _, ((hZ6.set_ 4 _).set_ 2 _).set_ 3 _, hzl, hZfar, ((hb6.setCell (p := ⟨Z, 4, none⟩) nB _).setCell (p := ⟨Z, 2, none⟩) nB _).setCell (p := ⟨Z, 3, none⟩) nB _⟩)
        clear z_0 z_1 z_2 z_3 z_4 z_f0 z_f1 z_f2 z_f3 z_f4 t_0 t_1 x_0 x_1 x_2 x_3 x_4
        obtain ⟨z_0, z_1, z_2, z_3, z_4, z_f0, z_f1, z_f2, z_f3, z_f4⟩ := hZ6.b5
        obtain ⟨t_0, t_1⟩ := hT6.c2
        have hZ6l := hZ6.lt
        have hT6l := hT6.lt
        have nTZ : ¬ T = Z := HTZ.out
        have nTZ' : ¬ Z = T := fun e => HTZ.out e.symm
        clear hO6 hX6 hR6 hZ6 hT6 hb6 hZfar
        go_upto_region 9 with (fail)
        rw [← hw7]
        clear hw7 z_0 z_1 z_2 z_3 z_4 z_f0 z_f1 z_f2 z_f3 z_f4 t_0 t_1
        have hlen : (D.ss ++ [(⟨kd, a, b, D.nn, D.nl⟩ : Sp)]).length = fs.length + 1 := by have := HM.out; simp; omega
        have HLEN := Lib.hid hlen
        obtain ⟨_, _, hR, hZ, hZl, _, _⟩ := HF.out
        obtain ⟨z_0, z_1, z_2, z_3, z_4⟩ := hZ.c5
        obtain ⟨r_0, r_1, r_2, r_3, r_4, r_f0, r_f1, r_f2, r_f3, r_f4⟩ := hR.b5
        have hRlt := hR.lt
        have HFF := Lib.hid (fun u0 u1 u2 u3 u4 => HF.out.fin u0 u1 u2 u3 u4)
        clear hR hZ HF hlen
        go_wp2
        exact bodyPost_ret (v := .tuple #[.agg #[.slice A0 D.fn.length c0, .slice A1 D.fl.length c1, .slice An N.length cn, .slice Al L.length cl, .slice A5 (fs.length + 1) c5], .bool true]) (by simp [results, Tryz.results97, go_sem, r_0, r_1, r_2, r_3, r_4, hRlt]) rfl
          ⟨A0, c0, A1, c1, An, cn, Al, cl, A5, c5, fs ++ [(⟨kd, a, b, D.nn, D.nl⟩, .slice A2 D.nn.length c2, .slice A3 D.nl.length c3)], by simp only [HLEN.out], by simp only [HLEN.out]; exact (HFF.out _ _ _ _ _).1, (HFF.out _ _ _ _ _).2⟩
set_option maxHeartbeats 16000000 in
set_option maxRecDepth 100000 in
theorem sDoStep_at (v0 v1 v2 v3 v4 : Value) (D : Dr) (kd a b : Int) (w : World) (h : RD w v0 v1 v2 v3 v4 D) (hle : DrLe D) :
    Calls Tryz.prog 96 #[.agg #[v0, v1, v2, v3, v4], .int .i64 kd, .int .i64 a, .int .i64 b] w (RetDB (doStepD D kd a b) (doStepB D kd a b) w) := by
  obtain ⟨r, hr⟩ : ∃ r, okD D = r := ⟨_, rfl⟩
  have HR := Lib.hid hr
  have HLE := Lib.hid hle
  obtain ⟨B4, d4, ev4, _⟩ := h.ss
  subst ev4
  obtain ⟨i0, hi, iz0, iz1, iz2⟩ := info_parts infoStep
  obtain ⟨E, hE⟩ : ∃ E, doStepD D kd a b = E := ⟨_, rfl⟩
  obtain ⟨bb, hbb⟩ : ∃ bb, doStepB D kd a b = bb := ⟨_, rfl⟩
  rw [hE, hbb]
  have HE := Lib.hid hE
  have HBB := Lib.hid hbb
  clear hle hE hbb
  go_enter Tryz.func96, Tryz.ntmps96
  go_wp2_with fail
  refine (sCopyD_any _ _ _ _ _ D _ (h.below (by exact bel_)) HLE.out).mono ?_
  rintro e w1 ⟨A0, c0, A1, c1, A2, c2, A3, c3, A4, c4, fs, rfl, ho1, hb1⟩
  have hz1 := hb1.size
  simp at hz1
  have hX1 : Blk w1 w.heap.size 41 #[v0, v1, v2, v3, (.slice B4 D.ss.length d4)] := Blk.below ((Blk.newAt rfl).alloc _) hb1 sz_
  have hR1 : Blk w1 (w.heap.size + 1) 41 #[.slice none 0 0, .slice none 0 0, .slice none 0 0, .slice none 0 0, .slice none 0 0] := Blk.below (Blk.newAt (by simp)) hb1 sz_
  have hbw1 : Below w.heap.size w w1 := by exact bel_
  have hO1 : OwnD (w.heap.size + 1 + 1) w1 (.slice A0 D.fn.length c0) (.slice A1 D.fl.length c1) (.slice A2 D.nn.length c2) (.slice A3 D.nl.length c3) (.slice A4 D.ss.length c4) D fs := by simpa using ho1
  have HS2 := Lib.hid (OutSt.start hO1 (Nat.le_refl _) hX1 hR1 hbw1)
  obtain ⟨x_0, x_1, x_2, x_3, x_4⟩ := hX1.c5
  have hX1l := hX1.lt
  clear ho1 hb1 hO1
  go_wp2_with fail
  obtain ⟨w2, hw2⟩ : ∃ w2, w2 = w1.alloc (.cells #[.slice A0 D.fn.length c0, .slice A1 D.fl.length c1, .slice A2 D.nn.length c2, .slice A3 D.nl.length c3, .slice A4 D.ss.length c4] 41) := ⟨_, rfl⟩
  rw [← hw2] at HS2 ⊢
  generalize w1.heap.size = Z at *
  clear hw2 hX1 hR1 hbw1 x_0 x_1 x_2 x_3 x_4 hX1l hz1
  refine (sDok_at _ _ _ _ _ D r _ (h.below HS2.out.blw) HR).mono ?_
  rintro e w3 ⟨rfl, hb3⟩
  have HS3 := Lib.hid (HS2.out.below hb3)
  clear hb3 HS2
  have hX3 := HS3.out.X
  have hZ3 := HS3.out.Z_
  have hR3 := HS3.out.R
  obtain ⟨x_0, x_1, x_2, x_3, x_4⟩ := hX3.c5
  cases r
  · have hno : doStepB D kd a b = false := by unfold doStepB; rw [hr]; rfl
    have hu : D = E := by rw [← HE.out]; exact (doStep_no hno).symm
    have hv : false = bb := by rw [← HBB.out]; exact hno.symm
    subst hu
    subst hv
    have HF := HS3
    clear HS3 HE HBB hno
    clear hr
    obtain ⟨_, _, hR, hZ, hZl, _, _⟩ := HF.out
    obtain ⟨z_0, z_1, z_2, z_3, z_4⟩ := hZ.c5
    obtain ⟨r_0, r_1, r_2, r_3, r_4, r_f0, r_f1, r_f2, r_f3, r_f4⟩ := hR.b5
    have hRlt := hR.lt
    have HFF := Lib.hid (fun u0 u1 u2 u3 u4 => HF.out.fin u0 u1 u2 u3 u4)
    clear hR hZ HF
    go_wp2
    exact bodyPost_ret (v := .tuple #[.agg #[.slice A0 D.fn.length c0, .slice A1 D.fl.length c1, .slice A2 D.nn.length c2, .slice A3 D.nl.length c3, .slice A4 D.ss.length c4], .bool false]) (by simp [results, Tryz.results96, go_sem, r_0, r_1, r_2, r_3, r_4, hRlt]) rfl ⟨_, _, _, _, _, _, _, _, _, _, _, rfl, (HFF.out _ _ _ _ _).1, (HFF.out _ _ _ _ _).2⟩
  · by_cases h40 : ¬ D.ss.length < 40
    · have hno : doStepB D kd a b = false := by unfold doStepB; rw [hr, decide_eq_false h40]; rfl
      have hn40 : D.ss.length = 40 := by
        have h41 : D.ss.length ≤ 40 := by
          unfold okD at hr
          simp only [Bool.and_eq_true, decide_eq_true_eq] at hr
          exact hr.2.1
        omega
      have hu : D = E := by rw [← HE.out]; exact (doStep_no hno).symm
      have hv : false = bb := by rw [← HBB.out]; exact hno.symm
      subst hu
      subst hv
      have HF := HS3
      clear HS3 HE HBB hno
      clear hr h40
      obtain ⟨_, _, hR, hZ, hZl, _, _⟩ := HF.out
      obtain ⟨z_0, z_1, z_2, z_3, z_4⟩ := hZ.c5
      obtain ⟨r_0, r_1, r_2, r_3, r_4, r_f0, r_f1, r_f2, r_f3, r_f4⟩ := hR.b5
      have hRlt := hR.lt
      have HFF := Lib.hid (fun u0 u1 u2 u3 u4 => HF.out.fin u0 u1 u2 u3 u4)
      clear hR hZ HF
      go_wp2
      exact bodyPost_ret (v := .tuple #[.agg #[.slice A0 D.fn.length c0, .slice A1 D.fl.length c1, .slice A2 D.nn.length c2, .slice A3 D.nl.length c3, .slice A4 D.ss.length c4], .bool false]) (by simp [results, Tryz.results96, go_sem, r_0, r_1, r_2, r_3, r_4, hRlt, hn40]) rfl ⟨_, _, _, _, _, _, _, _, _, _, _, rfl, (HFF.out _ _ _ _ _).1, (HFF.out _ _ _ _ _).2⟩
    · have h40' : D.ss.length < 40 := by omega
      have g1 : ¬ (40 : Int) ≤ (D.ss.length : Int) := by omega
      have g2 : ((D.ss.length : Int) == 40) = false := beq_eq_false_iff_ne.2 (by omega)
      obtain ⟨N, hN⟩ : ∃ N, stepN D.nn D.nl kd a b = N := ⟨_, rfl⟩
      obtain ⟨L, hL⟩ : ∃ L, stepL D.nn D.nl kd a b = L := ⟨_, rfl⟩
      obtain ⟨sb, hsb⟩ : ∃ sb, stepB D.nn D.nl kd a b = sb := ⟨_, rfl⟩
      have H1 := Lib.hid hN
      have H2 := Lib.hid hL
      have H3 := Lib.hid hsb
      have hX3l := hX3.lt
      have HZL3 := hZ3.lt
      have hnn := (h.below HS3.out.blw).nn
      have hnl := (h.below HS3.out.blw).nl
      clear h40
      have HOK := Lib.hid hr
      clear hr hN hL hsb
      go_wp2_with fail
      refine (sStep_at _ _ D.nn D.nl N L kd a b sb _ hnn hnl HLE.out.nn HLE.out.nl H1 H2 H3).mono ?_
      rintro e w4 ⟨An, cn, Al, cl, rfl, ho4, hb4⟩
      have hlt3 := HS3.out.own.lt
      have HS4 := HS3.out.below hb4
      have hR4l := HS4.R.lt
      have hbase : w.heap.size + 1 + 1 ≤ w3.heap.size := by have := hR3.lt; omega
      have hlt4 := ho4.lt
      have hm := congrArg List.length HS4.own.map
      simp at hm
      have hzl := HS4.lt
      obtain ⟨w5, hw5⟩ : ∃ w5, w5 = w4.alloc (.cells #[.slice An N.length cn, .slice Al L.length cl] 38) := ⟨_, rfl⟩
      have hb5 : Below w4.heap.size w4 w5 := hw5 ▸ (Below.refl _ _).alloc (Nat.le_refl _) _
      have hT5 : Blk w5 w4.heap.size 38 #[.slice An N.length cn, .slice Al L.length cl] := hw5 ▸ Blk.newAt rfl
      have HS5 := Lib.hid (HS4.below hb5)
      have ho5 := Lib.hid ((ho4.kept hb5).mono hbase)
      have hs45 : w3.heap.size ≤ w4.heap.size := hb4.size
      have HFR : Hid (∀ k, blksW (.slice An N.length cn) (.slice Al L.length cl) k → ¬ blksD (.slice A0 D.fn.length c0) (.slice A1 D.fl.length c1) (.slice A2 D.nn.length c2) (.slice A3 D.nl.length c3) (.slice A4 D.ss.length c4) fs k) := Lib.hid (fun k hk hk' => by have := (hlt4 k hk).1; have := (hlt3 k hk').2; omega)
      have HL4 : Hid (∀ k, blksW (.slice An N.length cn) (.slice Al L.length cl) k → k < w4.heap.size) := Lib.hid (fun k hk => (hlt4 k hk).2)
      have hZ5 := HS5.out.Z_.lt
      have HTZ0 : Hid (¬ w4.heap.size = Z) := Lib.hid (by have := HS4.Z_.lt; omega)
      have HZN0 : Hid (blksW (.slice An N.length cn) (.slice Al L.length cl) Z → False) := Lib.hid (fun hz => by have := (hlt4 _ hz).1; have := HZL3; omega)
      have HLO : Hid (∀ k, blksD (.slice A0 D.fn.length c0) (.slice A1 D.fl.length c1) (.slice A2 D.nn.length c2) (.slice A3 D.nl.length c3) (.slice A4 D.ss.length c4) fs k → k < w4.heap.size) := Lib.hid (fun k hk => by have := (hlt3 k hk).2; omega)
      clear ho4 hb4 hlt3 hlt4 HS4 HS3 hX3 hZ3 hR3 hX3l hnn hnl x_0 x_1 x_2 x_3 x_4 hR4l
      go_upto_region 5 with (fail)
      rw [← hw5]
      generalize w4.heap.size = T at *
      clear hw5 hb5
      cases sb
      · have hno : doStepB D kd a b = false := by unfold doStepB; rw [H3.out, Bool.and_false, Bool.and_false]
        have hu : D = E := by rw [← HE.out]; exact (doStep_no hno).symm
        have hv : false = bb := by rw [← HBB.out]; exact hno.symm
        subst hu
        subst hv
        have HF := HS5
        clear HS5 HE HBB hno
        clear HOK H1 H2 H3 hT5 ho5 HFR HL4 hbase hm hs45
        obtain ⟨_, _, hR, hZ, hZl, _, _⟩ := HF.out
        obtain ⟨z_0, z_1, z_2, z_3, z_4⟩ := hZ.c5
        obtain ⟨r_0, r_1, r_2, r_3, r_4, r_f0, r_f1, r_f2, r_f3, r_f4⟩ := hR.b5
        have hRlt := hR.lt
        have HFF := Lib.hid (fun u0 u1 u2 u3 u4 => HF.out.fin u0 u1 u2 u3 u4)
        clear hR hZ HF
        go_wp2
        exact bodyPost_ret (v := .tuple #[.agg #[.slice A0 D.fn.length c0, .slice A1 D.fl.length c1, .slice A2 D.nn.length c2, .slice A3 D.nl.length c3, .slice A4 D.ss.length c4], .bool false]) (by simp [results, Tryz.results96, go_sem, r_0, r_1, r_2, r_3, r_4, hRlt]) rfl ⟨_, _, _, _, _, _, _, _, _, _, _, rfl, (HFF.out _ _ _ _ _).1, (HFF.out _ _ _ _ _).2⟩
      · have hyes : doStepB D kd a b = true := by unfold doStepB; rw [HOK.out, H3.out, decide_eq_true h40']; rfl
        have hu : E = ⟨D.fn, D.fl, N, L, D.ss ++ [⟨kd, a, b, D.nn, D.nl⟩]⟩ := by rw [← HE.out, doStep_yes hyes, H1.out, H2.out]
        have hv : true = bb := by rw [← HBB.out]; exact hyes.symm
        subst hu
        subst hv
        clear HE HBB hyes HOK H1 H2 H3
        have hZ5b := HS5.out.Z_
        have hX5b := HS5.out.X
        obtain ⟨z_0, z_1, z_2, z_3, z_4, z_f0, z_f1, z_f2, z_f3, z_f4⟩ := hZ5b.b5
        obtain ⟨x_0, x_1, x_2, x_3, x_4⟩ := hX5b.c5
        obtain ⟨t_0, t_1⟩ := hT5.c2
        have hX5l := hX5b.lt
        have hT5l := hT5.lt
        have hfs20 : fs.length ≤ 1048576 := by omega
        have HM := Lib.hid hm
        clear hm
        have HTZ : Hid (¬ T = Z) := HTZ0
        have HZN : Hid (blksW (.slice An N.length cn) (.slice Al L.length cl) Z → False) := HZN0
        go_upto_region 7 with (fail)
        have hnn5 := (h.below HS5.out.blw).nn
        have hnl5 := (h.below HS5.out.blw).nl
        have hbw5 : Below w5.heap.size w5 w5.drew := (Below.refl _ _).drew
        have HS6 := Lib.hid (HS5.out.below hbw5)
        have HWN5 := Lib.hid (ho5.out.kept hbw5)
        have HTD := Lib.hid (hT5.drew)
        have hnn6 := hnn5.below hbw5
        have hnl6 := hnl5.below hbw5
        clear hnn5 hnl5 hbw5 HS5 ho5 hX5b
        have hlt5 := HS6.out.own.lt
        refine region_D (n := 12) (S := fun w' => w'.cell? ⟨w.heap.size, 2, none⟩ = some v2 ∧ w'.cell? ⟨w.heap.size, 3, none⟩ = some v3 ∧ w'.cell? ⟨Z, 4, none⟩ = some (.slice A4 D.ss.length c4)) (by kernel_rfl) ⟨x_2, x_3, z_4⟩ (fun hS => ?_)
        (refine D_take (i := 0) (v := ?_) rfl rfl (by kernel_rfl) (by kernel_rfl) (by kernel_rfl) (by kernel_rfl) (fun _ _ _ h => h) (Or.inl ⟨by rfl, ?_⟩) (by assumption) ?_); rotate_left; (focus (intro w' hSw; (try dsimp only at hSw); go_simp; (try with_reducible rfl))); (try simp only [Act.put, List.setIfInBounds_toArray, List.set_cons_zero, List.set_cons_succ])
        (refine D_take (i := 1) (v := ?_) rfl rfl (by kernel_rfl) (by kernel_rfl) (by kernel_rfl) (by kernel_rfl) (fun _ _ _ h => h) (Or.inl ⟨by rfl, ?_⟩) (by assumption) ?_); rotate_left; (focus (intro w' hSw; (try dsimp only at hSw); go_simp; (try with_reducible rfl))); (try simp only [Act.put, List.setIfInBounds_toArray, List.set_cons_zero, List.set_cons_succ])
        (refine D_take (i := 2) (v := ?_) rfl rfl (by kernel_rfl) (by kernel_rfl) (by kernel_rfl) (by kernel_rfl) (fun _ _ _ h => h) (Or.inl ⟨by rfl, ?_⟩) (by assumption) ?_); rotate_left; (focus (intro w' hSw; (try dsimp only at hSw); go_simp; (try with_reducible rfl))); (try simp only [Act.put, List.setIfInBounds_toArray, List.set_cons_zero, List.set_cons_succ])
        (refine D_take (i := 3) (v := ?_) rfl rfl (by kernel_rfl) (by kernel_rfl) (by kernel_rfl) (by kernel_rfl) (fun _ _ _ h => h) (Or.inl ⟨by rfl, ?_⟩) (by assumption) ?_); rotate_left; (focus (intro w' hSw; (try dsimp only at hSw); go_simp; (try with_reducible rfl))); (try simp only [Act.put, List.setIfInBounds_toArray, List.set_cons_zero, List.set_cons_succ])
        (refine D_take (i := 4) (v := ?_) rfl rfl (by kernel_rfl) (by kernel_rfl) (by kernel_rfl) (by kernel_rfl) (fun _ _ _ h => h) (Or.inl ⟨by rfl, ?_⟩) (by assumption) ?_); rotate_left; (focus (intro w' hSw; (try dsimp only at hSw); go_simp; (try with_reducible rfl))); (try simp only [Act.put, List.setIfInBounds_toArray, List.set_cons_zero, List.set_cons_succ])
        (refine D_take (i := 5) (v := ?_) rfl rfl (by kernel_rfl) (by kernel_rfl) (by kernel_rfl) (by kernel_rfl) (fun _ _ _ h => h) (Or.inl ⟨by rfl, ?_⟩) (by assumption) ?_); rotate_left; (focus (intro w' hSw; (try dsimp only at hSw); go_simp; (try with_reducible rfl))); (try simp only [Act.put, List.setIfInBounds_toArray, List.set_cons_zero, List.set_cons_succ])
        (refine D_take (i := 6) (v := ?_) rfl rfl (by kernel_rfl) (by kernel_rfl) (by kernel_rfl) (by kernel_rfl) (fun _ _ _ h => h) (Or.inl ⟨by rfl, ?_⟩) (by assumption) ?_); rotate_left; (focus (intro w' hSw; (try dsimp only at hSw); go_simp; (try with_reducible rfl))); (try simp only [Act.put, List.setIfInBounds_toArray, List.set_cons_zero, List.set_cons_succ])
        (refine D_step (i := 7) rfl (by kernel_rfl) (fun K hK => ?_)); (rw [if_pos (by rfl)])
        go_simp
        go_at_call 84
        refine (sCopy_any _ _ D.nn D.nl _ hnn6 hnl6 HLE.out.nn HLE.out.nl).mono ?_
        rintro e wa ⟨Bn, dn, Bl, dl, rfl, hoa, hba⟩
        have HSA := Lib.hid (HS6.out.below hba)
        have HWNA := Lib.hid (HWN5.out.kept hba)
        have HTA := Lib.hid (HTD.out.below hba (by simpa using hT5l))
        have hlta := hoa.lt
        have hsa := hba.size
        simp at hsa hlta hlt5
        have HFRA : Hid (∀ k, blksW (.slice Bn D.nn.length dn) (.slice Bl D.nl.length dl) k → w5.heap.size ≤ k ∧ k < wa.heap.size) := Lib.hid (fun k hk => hlta k hk)
        have HLT5 : Hid (∀ k, blksD (.slice A0 D.fn.length c0) (.slice A1 D.fl.length c1) (.slice A2 D.nn.length c2) (.slice A3 D.nl.length c3) (.slice A4 D.ss.length c4) fs k → k < w5.heap.size) := Lib.hid (fun k hk => (hlt5 k hk).2)
        have hbase5 : w.heap.size + 1 + 1 ≤ w5.heap.size := by omega
        have HWB := Lib.hid (hoa.mono (show w.heap.size + 1 + 1 ≤ w5.drew.heap.size by simpa using hbase5))
        clear hlta hlt5 hoa hba HS6 HWN5 HTD hnn6 hnl6
        go_wp2_with fail
        refine hK _ _ (fun _ => ⟨HSA.out.X.cell 2, HSA.out.X.cell 3, HSA.out.Z_.cell 4⟩) (fun hS' => ?_)
        have hS2 := hS' (by decide)
        clear hK K hS hS' x_0 x_1 x_2 x_3 x_4 z_0 z_1 z_2 z_3 z_4 z_f0 z_f1 z_f2 z_f3 z_f4 t_0 t_1 hX5l hZ5 hZ5b hT5
        (try simp only [Act.put, List.setIfInBounds_toArray, List.set_cons_zero, List.set_cons_succ])
        (refine D_take (i := 8) (v := ?_) rfl rfl (by kernel_rfl) (by kernel_rfl) (by kernel_rfl) (by kernel_rfl) (fun _ _ _ h => h) (Or.inl ⟨by rfl, ?_⟩) (by assumption) ?_); rotate_left; (focus (intro w' hSw; (try dsimp only at hSw); go_simp; (try with_reducible rfl))); (try simp only [Act.put, List.setIfInBounds_toArray, List.set_cons_zero, List.set_cons_succ])
        (refine D_step (i := 9) rfl (by kernel_rfl) (fun K hK => ?_)); (rw [if_pos (by rfl)])
        go_simp
        have HROW := Lib.hid (HSA.out.own.alloc (.cells #[.int .i64 kd, .int .i64 a, .int .i64 b, .slice Bn D.nn.length dn, .slice Bl D.nl.length dl] 126))
        have HWN := Lib.hid (HWNA.out.alloc' (.cells #[.int .i64 kd, .int .i64 a, .int .i64 b, .slice Bn D.nn.length dn, .slice Bl D.nl.length dl] 126))
        have HWF := Lib.hid (HWB.out.alloc' (.cells #[.int .i64 kd, .int .i64 a, .int .i64 b, .slice Bn D.nn.length dn, .slice Bl D.nl.length dl] 126))
        have HX6 := Lib.hid (HSA.out.X.alloc (.cells #[.int .i64 kd, .int .i64 a, .int .i64 b, .slice Bn D.nn.length dn, .slice Bl D.nl.length dl] 126))
        have HR6 := Lib.hid (HSA.out.R.alloc (.cells #[.int .i64 kd, .int .i64 a, .int .i64 b, .slice Bn D.nn.length dn, .slice Bl D.nl.length dl] 126))
        have HZ6 := Lib.hid (HSA.out.Z_.alloc (.cells #[.int .i64 kd, .int .i64 a, .int .i64 b, .slice Bn D.nn.length dn, .slice Bl D.nl.length dl] 126))
        have HT6 := Lib.hid (HTA.out.alloc (.cells #[.int .i64 kd, .int .i64 a, .int .i64 b, .slice Bn D.nn.length dn, .slice Bl D.nl.length dl] 126))
        have HBW6 := Lib.hid (HSA.out.blw.alloc HSA.out.blw.size (.cells #[.int .i64 kd, .int .i64 a, .int .i64 b, .slice Bn D.nn.length dn, .slice Bl D.nl.length dl] 126))
        have HLT : Hid (∀ k, (Value.slice A4 D.ss.length c4).ownBlock = some k → w.heap.size + 1 + 1 ≤ k ∧ k ≠ Z ∧ k < T) := Lib.hid (fun k hk => ⟨(HSA.out.own.lt k (.inr (.inr (.inl hk)))).1, fun e => HSA.out.far (e ▸ .inr (.inr (.inl hk))), HLO.out k (.inr (.inr (.inl hk)))⟩)
        have HLIT : Hid (∀ (j : Nat) (u : Value), (sfc ((⟨kd, a, b, D.nn, D.nl⟩, .slice Bn D.nn.length dn, .slice Bl D.nl.length dl) : SF))[j]? = some u → (wa.alloc (.cells #[.int .i64 kd, .int .i64 a, .int .i64 b, .slice Bn D.nn.length dn, .slice Bl D.nl.length dl] 126)).cell? ((⟨wa.heap.size, 0, none⟩ : Addr).add j) = some u) := Lib.hid (lit_step rfl rfl)
        have hb20 : w.heap.size + 1 + 1 ≤ (wa.alloc (.cells #[.int .i64 kd, .int .i64 a, .int .i64 b, .slice Bn D.nn.length dn, .slice Bl D.nl.length dl] 126)).heap.size := by simp; omega
        have HRW : Hid (World.ownsRow (wa.alloc (.cells #[.int .i64 kd, .int .i64 a, .int .i64 b, .slice Bn D.nn.length dn, .slice Bl D.nl.length dl] 126)) (w.heap.size + 1 + 1) 126 5 (.slice A4 D.ss.length c4) fs.length (fs.flatMap sfc)) := Lib.hid HROW.out.ss.row
        refine hK _ _ (fun _ => ⟨HX6.out.cell 2, HX6.out.cell 3, HZ6.out.cell 4⟩) (fun hS' => ?_)
        have hS3 := hS' (by decide)
        clear hK K hS2 hS'
        (try simp only [Act.put, List.setIfInBounds_toArray, List.set_cons_zero, List.set_cons_succ])
        (refine D_step (i := 10) rfl (by kernel_rfl) (fun K hK => ?_))
        refine step_append_step rfl _ _ _ rfl (w.heap.size + 1 + 1) 126 i0 Tryz.underlying39 hi iz0 iz1 iz2 (.slice A4 D.ss.length c4) fs (⟨kd, a, b, D.nn, D.nl⟩, .slice Bn D.nn.length dn, .slice Bl D.nl.length dl) ⟨wa.heap.size, 0, none⟩ 1 rfl rfl HRW.out HLIT.out (sfc_one _ _ _ _ _ _ _ rfl rfl) hfs20 hb20 ?_
        intro A5 c5 w6 hr6 hg6 ha6
        have hs6 := hg6.size
        simp at hs6
        have hv6 : (Value.slice A5 (fs.length + 1) c5).ownBlock = (Value.slice A4 D.ss.length c4).ownBlock ∨ (Value.slice A5 (fs.length + 1) c5).ownBlock = some (wa.heap.size + 1) := by simpa using ha6
        have hT6t : Turns (fun b => (Value.slice A4 D.ss.length c4).ownBlock = some b) _ w6 := Turns.ofGrown hg6 (fun k hk => hk)
        have hN6 := HWN.out.turned hT6t (fun k hk e1 => HFR.out k hk (.inr (.inr (.inl e1))))
        have hO6 := (HROW.out.snoc (f := (⟨kd, a, b, D.nn, D.nl⟩, .slice Bn D.nn.length dn, .slice Bl D.nl.length dl)) (by rw [List.flatMap_append]; simpa using hr6) hg6 (by simpa using ha6) HWF.out (fun k hk hk' => by have := (HFRA.out k hk).1; have := HLT5.out k hk'; omega)).newNow hN6 (Nat.le_refl _) (fun k hk hk' => by
          have hkT := HL4.out k hk
          rcases blksD_snoc hv6 hk' with h1 | h1 | h1
          · exact HFR.out k hk h1
          · omega
          · have := (HFRA.out k h1).1; omega)
        have hX6 := HX6.out.grownR hg6 (fun k hk e => by have := (HLT.out k hk).1; omega)
        have hR6 := HR6.out.grownR hg6 (fun k hk e => by have := (HLT.out k hk).1; omega)
        have hZ6 := HZ6.out.grownR hg6 (fun k hk e => (HLT.out k hk).2.1 e)
        have hT6 := HT6.out.grownR hg6 (fun k hk e => by have := (HLT.out k hk).2.2; omega)
        have hb6 := HBW6.out.grown hg6 HBW6.out.size (fun k hk => by have := (HLT.out k hk).1; omega)
        have HS5 := HSA
        have hZlt := HSA.out.Z_.lt
        have HFZ : Hid (blksW (.slice Bn D.nn.length dn) (.slice Bl D.nl.length dl) Z → False) := Lib.hid (fun hz => by have := (HFRA.out _ hz).1; omega)
        refine hK _ _ (fun _ => ⟨hX6.cell 2, hX6.cell 3, hZ6.cell 4⟩) (fun hS' => ?_)
        have hS4 := hS' (by decide)
        clear hK K hS3 hS'
        (try simp only [Act.put, List.setIfInBounds_toArray, List.set_cons_zero, List.set_cons_succ])
        (refine D_take (i := 11) (v := ?_) rfl rfl (by kernel_rfl) (by kernel_rfl) (by kernel_rfl) (by kernel_rfl) (fun _ _ _ h => h) (Or.inl ⟨by rfl, ?_⟩) (by assumption) ?_); rotate_left; (focus (intro w' hSw; (try dsimp only at hSw); go_simp; (try with_reducible rfl))); (try simp only [Act.put, List.setIfInBounds_toArray, List.set_cons_zero, List.set_cons_succ])
        have hZfar : ¬ blksD (.slice A0 D.fn.length c0) (.slice A1 D.fl.length c1) (.slice An N.length cn) (.slice Al L.length cl) (.slice A5 (fs.length + 1) c5) (fs ++ [(⟨kd, a, b, D.nn, D.nl⟩, .slice Bn D.nn.length dn, .slice Bl D.nl.length dl)]) Z := by
          rintro (hz | hz | hz)
          · exact HS5.out.far (.inl hz)
          · have := HZN.out hz; exact this
          · rcases blksT_snoc hv6 hz with h1 | h1 | h1
            · exact HS5.out.far (.inr (.inr h1))
            · omega
            · exact HFZ.out h1
        have nX : w.heap.size ≠ Z := by omega
        have nR : w.heap.size + 1 ≠ Z := by omega
        have nB : w.heap.size ≤ Z := by omega
        obtain ⟨w7, hw7⟩ : ∃ w7, w7 = ((w6.setCell ⟨Z, 4, none⟩ (.slice A5 (fs.length + 1) c5)).setCell ⟨Z, 2, none⟩ (.slice An N.length cn)).setCell ⟨Z, 3, none⟩ (.slice Al L.length cl) := ⟨_, rfl⟩
        have HF : Hid (OutSt w v0 v1 v2 v3 (.slice B4 D.ss.length d4) Z (.slice A0 D.fn.length c0) (.slice A1 D.fl.length c1) (.slice An N.length cn) (.slice Al L.length cl) (.slice A5 (fs.length + 1) c5) ⟨D.fn, D.fl, N, L, D.ss ++ [⟨kd, a, b, D.nn, D.nl⟩]⟩ (fs ++ [(⟨kd, a, b, D.nn, D.nl⟩, .slice Bn D.nn.length dn, .slice Bl D.nl.length dl)]) w7) := Lib.hid
          (hw7 ▸ ⟨((hO6.setFar (p := ⟨Z, 4, none⟩) hZfar _).setFar (p := ⟨Z, 2, none⟩) hZfar _).setFar (p := ⟨Z, 3, none⟩) hZfar _, ((hX6.far (p := ⟨Z, 4, none⟩) nX _).far (p := ⟨Z, 2, none⟩) nX _).far (p := ⟨Z, 3, none⟩) nX _,
            ((hR6.far (p := ⟨Z, 4, none⟩) nR _).far (p := ⟨Z, 2, none⟩) nR _).far (p := ⟨Z, 3, none⟩) nR _, ((hZ6.set_ 4 _).set_ 2 _).set_ 3 _, hzl, hZfar, ((hb6.setCell (p := ⟨Z, 4, none⟩) nB _).setCell (p := ⟨Z, 2, none⟩) nB _).setCell (p := ⟨Z, 3, none⟩) nB _⟩)
        obtain ⟨z_0, z_1, z_2, z_3, z_4, z_f0, z_f1, z_f2, z_f3, z_f4⟩ := hZ6.b5
        obtain ⟨t_0, t_1⟩ := hT6.c2
        have hZ6l := hZ6.lt
        have hT6l := hT6.lt
        have nTZ : ¬ T = Z := HTZ.out
        have nTZ' : ¬ Z = T := fun e => HTZ.out e.symm
        clear hO6 hX6 hR6 hZ6 hT6 hb6 hZfar
        (refine D_step (i := 12) rfl (by kernel_rfl) (fun K hK => ?_)); (rw [if_pos (by rfl)])
        go_simp
        refine hK _ _ (fun h => absurd rfl h) (fun _ => ?_)
        clear hK K
        (try simp only [Act.put, List.setIfInBounds_toArray, List.set_cons_zero, List.set_cons_succ])
        refine D_done (by kernel_rfl) ?_ _
        go_upto_region 9 with (fail)
        rw [← hw7]
        clear hw7 z_0 z_1 z_2 z_3 z_4 z_f0 z_f1 z_f2 z_f3 z_f4 t_0 t_1
        have hlen : (D.ss ++ [(⟨kd, a, b, D.nn, D.nl⟩ : Sp)]).length = fs.length + 1 := by have := HM.out; simp; omega
        have HLEN := Lib.hid hlen
        obtain ⟨_, _, hR, hZ, hZl, _, _⟩ := HF.out
        obtain ⟨z_0, z_1, z_2, z_3, z_4⟩ := hZ.c5
        obtain ⟨r_0, r_1, r_2, r_3, r_4, r_f0, r_f1, r_f2, r_f3, r_f4⟩ := hR.b5
        have hRlt := hR.lt
        have HFF := Lib.hid (fun u0 u1 u2 u3 u4 => HF.out.fin u0 u1 u2 u3 u4)
        clear hR hZ HF hlen
        go_wp2
        exact bodyPost_ret (v := .tuple #[.agg #[.slice A0 D.fn.length c0, .slice A1 D.fl.length c1, .slice An N.length cn, .slice Al L.length cl, .slice A5 (fs.length + 1) c5], .bool true]) (by simp [results, Tryz.results96, go_sem, r_0, r_1, r_2, r_3, r_4, hRlt]) rfl
          ⟨A0, c0, A1, c1, An, cn, Al, cl, A5, c5, fs ++ [(⟨kd, a, b, D.nn, D.nl⟩, .slice Bn D.nn.length dn, .slice Bl D.nl.length dl)], by simp only [HLEN.out], by simp only [HLEN.out]; exact (HFF.out _ _ _ _ _).1, (HFF.out _ _ _ _ _).2⟩
end Go.Proofs.YtoknmjpnelbplaaGreat
