/-
  A drawn window: the walk.
-/
import Derived.Test.YtnpdincjekelaaaWdraw
import Derived.Deep.RegionHeld3
import Derived.Test.YtnpdincjekelaaaLastE
set_option linter.unusedSimpArgs false
set_option linter.unusedVariables false
namespace Go.Proofs.Ytnpdincjekelaaa
open Go.RowKit

attribute [local go_sem ↓] run_eqNode run_neNode run_mn2 run_mx2

theorem CurOk.below {W0 w w' : World} {v : Value} {g : Nat} (h : CurOk W0 v g w) (hb : Below w.heap.size w w') : CurOk W0 v g w' := by
  obtain ⟨hg, hbl, i, s, hi, hB⟩ := h
  exact ⟨hg, hbl.trans (hb.mono hbl.size), i, s, hi, hB.below hb hB.lt⟩

theorem grown_below {a w w' : World} {row : Option Nat} (h : a.grownBy w row) (hb : Below w.heap.size w w') : a.grownBy w' row :=
  grownBy_trans h ⟨hb.os, hb.tape, hb.output, hb.size, fun i hi _ => hb.block i hi⟩

/-- A window under way: in a box of its own, the cursor beside it. -/
structure WSt (W0 : World) (v : Value) (g : Nat) (w : World) (X : Nat) (wr : World) (An : Option Addr) (cn : Nat) (Al : Option Addr) (cl : Nat) (ns ls : List Pr) : Prop where
  win : WinOk ns ls
  own : OwnW (w.heap.size + 1) wr (.slice An ns.length cn) (.slice Al ls.length cl) ns ls
  box : Blk wr X 27 #[.slice An ns.length cn, .slice Al ls.length cl]
  res : Blk wr w.heap.size 27 #[.slice none 0 0, .slice none 0 0]
  ne : ∀ b, blksW (.slice An ns.length cn) (.slice Al ls.length cl) b → ¬ b = X
  cur : CurOk W0 v g wr
  gr : w.grownBy wr (some g)
  hX : w.heap.size < X
  hg : g < w.heap.size

section
variable {W0 : World} {v : Value} {g : Nat} {w : World} {X : Nat} {wr w' : World} {An : Option Addr} {cn : Nat} {Al : Option Addr} {cl : Nat} {ns ls : List Pr}

theorem WSt.drawn (h : WSt W0 v g w X wr An cn Al cl ns ls) (hc : CurOk W0 v g w') (hg : wr.grownBy w' (some g)) : WSt W0 v g w X w' An cn Al cl ns ls :=
  ⟨h.win, h.own.far hg (fun k hk => by cases hk; have := h.hg; omega), h.box.grown hg (by have := h.hg; have := h.hX; omega), h.res.grown hg (by have := h.hg; omega), h.ne, hc, grownBy_trans h.gr hg, h.hX, h.hg⟩

theorem WSt.below (h : WSt W0 v g w X wr An cn Al cl ns ls) (hb : Below wr.heap.size wr w') : WSt W0 v g w X w' An cn Al cl ns ls :=
  ⟨h.win, h.own.kept hb, h.box.below hb h.box.lt, h.res.below hb h.res.lt, h.ne, h.cur.below hb, grown_below h.gr hb, h.hX, h.hg⟩

theorem WSt.alloc (h : WSt W0 v g w X wr An cn Al cl ns ls) (o : Obj) : WSt W0 v g w X (wr.alloc o) An cn Al cl ns ls :=
  h.below (Below.alloc (Below.refl _ _) (Nat.le_refl _) o)

theorem WSt.drew (h : WSt W0 v g w X wr An cn Al cl ns ls) : WSt W0 v g w X wr.drew An cn Al cl ns ls := h.below (Below.drew (Below.refl _ _))

theorem WSt.row (h : WSt W0 v g w X wr An cn Al cl ns ls) {row : Option Nat} (hg : wr.grownBy w' row) (hr : ∀ k, row = some k → X < k ∧ ¬ blksW (.slice An ns.length cn) (.slice Al ls.length cl) k) : WSt W0 v g w X w' An cn Al cl ns ls := by
  have hX := h.hX
  have hgw := h.hg
  obtain ⟨hg0, hbl, i, s, hi, hB⟩ := h.cur
  have hs := h.gr.size
  refine ⟨h.win, h.own.apart hg (fun k hk e => (hr k e).2 hk), Blk.grownR h.box hg (fun k e => by have := (hr k e).1; omega), Blk.grownR h.res hg (fun k e => by have := (hr k e).1; omega), h.ne,
    ⟨hg0, hbl.grown hg hbl.size (fun k e => by have := (hr k e).1; omega), i, s, hi, Blk.grownR hB hg (fun k e => by have := (hr k e).1; omega)⟩,
    ⟨hg.os.trans h.gr.os, hg.tape.trans h.gr.tape, hg.output.trans h.gr.output, Nat.le_trans hs hg.size, fun i hi hne => (hg.block i (by omega) (fun e => by have := (hr i e.symm).1; omega)).trans (h.gr.block i hi hne)⟩, hX, hgw⟩

theorem WSt.put (h : WSt W0 v g w X wr An cn Al cl ns ls) {An' : Option Addr} {cn' : Nat} {Al' : Option Addr} {cl' n m base : Nat} {ns' ls' : List Pr} (hw : WinOk ns' ls') (hn : n = ns'.length) (hm : m = ls'.length)
    (ho : OwnW base wr (.slice An' n cn') (.slice Al' m cl') ns' ls') (hb : X < base) :
    WSt W0 v g w X ((wr.setCell ⟨X, 0, none⟩ (.slice An' n cn')).setCell ⟨X, 1, none⟩ (.slice Al' m cl')) An' cn' Al' cl' ns' ls' := by
  subst hn hm
  have hX := h.hX
  have hg := h.hg
  have hlt := ho.lt
  have hne : ∀ b, blksW (.slice An' ns'.length cn') (.slice Al' ls'.length cl') b → ¬ b = X := fun b hb' e => by have := (hlt b hb').1; omega
  have ho' := ho.mono (show w.heap.size + 1 ≤ base by omega)
  refine ⟨hw, (ho'.setFar (p := ⟨X, 0, none⟩) (fun k => hne _ k rfl) _).setFar (p := ⟨X, 1, none⟩) (fun k => hne _ k rfl) _, (h.box.set_ 0 _).set_ 1 _,
    (h.res.far (p := ⟨X, 0, none⟩) (by show w.heap.size ≠ X; omega) _).far (p := ⟨X, 1, none⟩) (by show w.heap.size ≠ X; omega) _, hne,
    (h.cur.far (p := ⟨X, 0, none⟩) (by show g < X; omega) _).far (p := ⟨X, 1, none⟩) (by show g < X; omega) _,
    only_far (p := ⟨X, 1, none⟩) (only_far (p := ⟨X, 0, none⟩) h.gr (by show w.heap.size ≤ X; omega) _) (by show w.heap.size ≤ X; omega) _, h.hX, h.hg⟩
end

def DrawnW (W0 : World) (v : Value) (g : Nat) (w : World) (e : Ending) (w' : World) : Prop :=
  ∃ ns ls An cn Al cl, e = .returned (.agg #[.slice An ns.length cn, .slice Al ls.length cl]) ∧ WinOk ns ls ∧ OwnW (w.heap.size + 1) w' (.slice An ns.length cn) (.slice Al ls.length cl) ns ls ∧ CurOk W0 v g w' ∧ w.grownBy w' (some g)

set_option maxHeartbeats 8000000 in
set_option maxRecDepth 100000 in
theorem drawWindow_any (W0 : World) (v : Value) (zs : List Int) (g : Nat) (w : World) (h : RB W0 v zs) (hle : zs.length ≤ 1048576) (hc : CurOk W0 v g w) :
    Calls Try.prog 45 #[.pointer (some ⟨g, 0, none⟩)] w (DrawnW W0 v g w) := by
  have hgl := hc.lt
  obtain ⟨i0, hi, iz0, iz1, iz2⟩ := info_parts infoNode
  have HC := Lib.hid hc
  have HRB := Lib.hid h
  clear h hc
  go_enter Try.func45, Try.ntmps45
  go_wp2_with fail
  refine (below_any W0 v zs g 5 _ HRB.out hle (by omega) (HC.out.alloc _)).mono ?_
  rintro e w1 ⟨x, rfl, x0, x1, hc1, hg1⟩
  have hz1 := hg1.size
  simp at hz1
  have hR1 : Blk w1 w.heap.size 27 #[.slice none 0 0, .slice none 0 0] := (Blk.new w _ _).grown hg1 (by omega)
  have hG1 := grownBy_trans (only_alloc (World.grownBy.refl w (some g)) (.cells #[.slice none 0 0, .slice none 0 0] 27)) hg1
  clear hg1
  go_wp2_with fail
  refine (sShape_any x _).mono ?_
  rintro e w2 ⟨An, cn, Al, cl, rfl, ho2, hb2⟩
  have hz2 := hb2.size
  have hlt2 := ho2.lt
  have hwn := winB_true.1 (shape_ok x)
  have hR2 := hR1.below hb2 hR1.lt
  have hC2 := hc1.below hb2
  have hG2 := grown_below hG1 hb2
  generalize shapeN x = ns at *
  generalize shapeL x = ls at *
  have HST : Hid (WSt W0 v g w w2.heap.size (w2.alloc (.cells #[.slice An ns.length cn, .slice Al ls.length cl] 27)) An cn Al cl ns ls) := Lib.hid
    ⟨hwn, (ho2.mono (by omega)).alloc _, Blk.newAt rfl, hR2.alloc _, fun b hb e => by have := (hlt2 b hb).2; omega, hC2.alloc _, only_alloc hG2 _, by omega, hgl⟩
  clear hwn hR2 hC2 hG2 hR1 hc1 hG1 hb2 ho2 hlt2
  go_wp2_with fail
  refine (below_any W0 v zs g 4 _ HRB.out hle (by omega) HST.out.cur).mono ?_
  rintro e w3 ⟨k, rfl, k0, k1, hc3, hg3⟩
  have hst := HST.out.drawn hc3 hg3
  clear HST hc3 hg3
  obtain ⟨X, hX⟩ : ∃ X, X = w2.heap.size := ⟨_, rfl⟩
  rw [← hX] at hst ⊢
  clear hX
  obtain ⟨kn, rfl⟩ : ∃ kn : Nat, k = (kn : Int) := ⟨k.toNat, by omega⟩
  go_wp2
  go_loopw [4] (fun i wr => ∃ (kn : Nat) (An : Option Addr) (cn : Nat) (Al : Option Addr) (cl : Nat) (ns ls : List Pr), i = .int .i64 kn ∧ kn ≤ 4 ∧ WSt W0 v g w X wr An cn Al cl ns ls) (fun i _ => (intOf i).toNat)
  case atStart => exact ⟨kn, An, cn, Al, cl, ns, ls, rfl, by omega, hst⟩
  case round =>
    clear hst
    obtain ⟨kn, An, cn, Al, cl, ns, ls, rfl, hk4, hst⟩ := hrel
    have HST := Lib.hid hst
    clear hst
    by_cases hk0 : kn = 0
    · subst hk0
      have hw12 := HST.out.win.2.1
      have hw1 := HST.out.win.1
      have hw20 := HST.out.win.2.2.1
      go_wp2_with fail
      refine (once_any W0 v zs g 4 _ HRB.out hle (by omega) HST.out.cur).mono ?_
      rintro e w4 ⟨bb, rfl, hc4, hg4⟩
      have HST4 := Lib.hid (HST.out.drawn hc4 hg4)
      clear HST hc4 hg4
      cases bb
      · -- as it is
        have hbxq := HST4.out.box
        have hrsq := HST4.out.res
        (have x_0 := hbxq.cell 0); (have x_1 := hbxq.cell 1); simp only [List.getElem?_toArray, List.getElem?_cons_succ, List.getElem?_cons_zero] at x_0 x_1; (have x_f0 := hbxq.frozen 0); (have x_f1 := hbxq.frozen 1)
        (have r_0 := hrsq.cell 0); (have r_1 := hrsq.cell 1); simp only [List.getElem?_toArray, List.getElem?_cons_succ, List.getElem?_cons_zero] at r_0 r_1; (have r_f0 := hrsq.frozen 0); (have r_f1 := hrsq.frozen 1)
        have hneq : ¬ X = w.heap.size := by have := HST4.out.hX; omega
        have hXlq : X < _ := hbxq.lt
        have hRlq : w.heap.size < _ := hrsq.lt
        have HO := Lib.hid ((HST4.out.own.setLow (p := ⟨w.heap.size, 0, none⟩) (show w.heap.size < w.heap.size + 1 by omega) (.slice An ns.length cn)).setLow (p := ⟨w.heap.size, 1, none⟩) (show w.heap.size < w.heap.size + 1 by omega) (.slice Al ls.length cl))
        have HCC := Lib.hid ((HST4.out.cur.far (p := ⟨w.heap.size, 0, none⟩) HST4.out.hg (.slice An ns.length cn)).far (p := ⟨w.heap.size, 1, none⟩) HST4.out.hg (.slice Al ls.length cl))
        have HG := Lib.hid (only_far (p := ⟨w.heap.size, 1, none⟩) (only_far (p := ⟨w.heap.size, 0, none⟩) HST4.out.gr (Nat.le_refl _) (.slice An ns.length cn)) (Nat.le_refl _) (.slice Al ls.length cl))
        have HW := Lib.hid HST4.out.win
        clear hbxq hrsq
        go_wp2
        exact bodyPost_ret (v := .agg #[(.slice An ns.length cn), (.slice Al ls.length cl)]) (by simp [results, Try.results45, go_sem, r_0, r_1, x_0, x_1]) rfl ⟨ns, ls, An, cn, Al, cl, rfl, HW.out, HO.out, HCC.out, HG.out⟩
      · have hbx := HST4.out.box
        have hXl := hbx.lt
        have hXw := HST4.out.hX
        have hgw := HST4.out.hg
        have hltX := HST4.out.own.lt
        (have x_0 := hbx.cell 0); (have x_1 := hbx.cell 1); simp only [List.getElem?_toArray, List.getElem?_cons_succ, List.getElem?_cons_zero] at x_0 x_1
        go_wp2_with fail
        refine (sCopy_any _ _ ns ls _ HST4.out.own.1.reads HST4.out.own.2.1.reads (by omega) (by omega)).mono ?_
        rintro e w5 ⟨An5, cn5, Al5, cl5, rfl, ho5, hb5⟩
        have hz5 := hb5.size
        have hlt5 := ho5.lt
        have HST5 := Lib.hid ((HST4.out.below hb5).alloc (.cells #[.slice An5 ns.length cn5, .slice Al5 ls.length cl5] 27))
        have HY5 : Hid (Blk (w5.alloc (.cells #[.slice An5 ns.length cn5, .slice Al5 ls.length cl5] 27)) w5.heap.size 27 #[.slice An5 ns.length cn5, .slice Al5 ls.length cl5]) := Lib.hid (Blk.newAt rfl)
        have HO5 := Lib.hid (ho5.alloc (.cells #[.slice An5 ns.length cn5, .slice Al5 ls.length cl5] 27))
        clear ho5 hb5 HST4 hbx x_0 x_1
        go_wp2_with fail
        obtain ⟨v5, hv5⟩ : ∃ v5, v5 = w5.alloc (.cells #[.slice An5 ns.length cn5, .slice Al5 ls.length cl5] 27) := ⟨_, rfl⟩
        have hs5 : v5.heap.size = w5.heap.size + 1 := by rw [hv5]; simp
        rw [← hv5] at HST5 HY5 HO5 ⊢
        clear hv5
        obtain ⟨Y, hY⟩ : ∃ Y, Y = w5.heap.size := ⟨_, rfl⟩
        rw [← hY] at HY5 hs5 ⊢
        have hY4 : w4.heap.size ≤ Y := by omega
        have hltY : ∀ b, blksW (.slice An5 ns.length cn5) (.slice Al5 ls.length cl5) b → w4.heap.size ≤ b ∧ b < Y := fun b hb => by have := hlt5 b hb; omega
        clear hlt5 hY hz5
        have hY0 := HY5.out.cell 0
        have hY1 := HY5.out.cell 1
        refine region_D (n := 7) (S := fun w' => w'.cell? ⟨Y, 0, none⟩ = some (.slice An5 ns.length cn5)) (by kernel_rfl) hY0 (fun hS => ?_)
        (refine D_take (i := 0) (v := ?_) rfl rfl (by kernel_rfl) (by kernel_rfl) (by kernel_rfl) (by kernel_rfl) (fun _ _ _ h => h) (Or.inl ⟨by rfl, ?_⟩) (by assumption) ?_); rotate_left; (focus (intro w' hSw; (try dsimp only at hSw); go_simp; (try with_reducible rfl))); (try simp only [Act.put, List.setIfInBounds_toArray, List.set_cons_zero, List.set_cons_succ])
        (refine D_take (i := 1) (v := ?_) rfl rfl (by kernel_rfl) (by kernel_rfl) (by kernel_rfl) (by kernel_rfl) (fun _ _ _ h => h) (Or.inl ⟨by rfl, ?_⟩) (by assumption) ?_); rotate_left; (focus (intro w' hSw; (try dsimp only at hSw); go_simp; (try with_reducible rfl))); (try simp only [Act.put, List.setIfInBounds_toArray, List.set_cons_zero, List.set_cons_succ])
        (refine D_take (i := 2) (v := ?_) rfl rfl (by kernel_rfl) (by kernel_rfl) (by kernel_rfl) (by kernel_rfl) (fun _ _ _ h => h) (Or.inl ⟨by rfl, ?_⟩) (by assumption) ?_); rotate_left; (focus (intro w' hSw; (try dsimp only at hSw); go_simp; (try with_reducible rfl))); (try simp only [Act.put, List.setIfInBounds_toArray, List.set_cons_zero, List.set_cons_succ])
        (refine D_step (i := 3) rfl (by kernel_rfl) (fun K hK => ?_)); (rw [if_pos (by rfl)])
        go_simp
        go_at_call 86
        refine (node_any W0 v zs g _ HRB.out hle HST5.out.drew.cur).mono ?_
        rintro e w6 ⟨nx, ny, rfl, hc6, hg6⟩
        have hz6 := hg6.size
        simp at hz6
        have HST6 := Lib.hid (HST5.out.drew.drawn hc6 hg6)
        have HY6 := Lib.hid (HY5.out.drew.grown hg6 (by omega))
        have HO6 := Lib.hid (OwnW.far (w := v5.drew) HO5.out hg6 (fun k hk => by cases hk; omega))
        clear hc6 hg6 HST5 HY5 HO5 hY0 hY1
        go_wp2_with fail
        refine hK _ _ (fun _ => HY6.out.cell 0) (fun hS' => ?_)
        clear hK K hS hS'
        (try simp only [Act.put, List.setIfInBounds_toArray, List.set_cons_zero, List.set_cons_succ])
        (refine D_step (i := 4) rfl (by kernel_rfl) (fun K hK => ?_)); (rw [if_pos (by rfl)])
        go_simp
        refine hK _ _ (fun _ => (HY6.out.alloc _).cell 0) (fun hS' => ?_)
        clear hK K hS'
        (try simp only [Act.put, List.setIfInBounds_toArray, List.set_cons_zero, List.set_cons_succ])
        (refine D_step (i := 5) rfl (by kernel_rfl) (fun K hK => ?_))
        have hw6l : Y < w6.heap.size := by omega
        refine step_append_pairs rfl _ _ _ rfl w4.heap.size 76 i0 Try.underlying24 hi iz0 iz1 iz2 (.slice An5 ns.length cn5) _ ns [(nx, ny)] rfl rfl (HO6.out.1.alloc _) (RP_lit (by simp) rfl rfl rfl (by simp [maxLen])) (by simp; omega) (by simp; omega) ?_
        intro A7 c7 w7 ho7 hg7 ha7
        have hz7 := hg7.size
        simp at hz7
        rw [show (ns ++ [(nx, ny)]).length = ns.length + 1 by simp] at ho7 ha7
        obtain ⟨N7, hN7⟩ : ∃ N7, N7 = ns ++ [(nx, ny)] := ⟨_, rfl⟩
        have hlN : N7.length = ns.length + 1 := by rw [hN7]; simp
        rw [← hN7] at ho7
        clear hN7
        have HLN := Lib.hid hlN
        clear hlN
        have HST7 := Lib.hid ((HST6.out.alloc (.cells #[.int .i64 nx, .int .i64 ny] 76)).row hg7 (fun k hk => ⟨by have := (hltY k (.inl hk)).1; omega, fun hb => by have := (hltY k (.inl hk)).1; have := (hltX k hb).2; omega⟩))
        have HY7 := Lib.hid (Blk.grownR (HY6.out.alloc (.cells #[.int .i64 nx, .int .i64 ny] 76)) hg7 (fun k hk => by have := (hltY k (.inl hk)).2; omega))
        have HL7 := Lib.hid ((HO6.out.2.1.alloc (.cells #[.int .i64 nx, .int .i64 ny] 76)).apart hg7 (fun k hk hk2 => HO6.out.2.2 k hk2 hk))
        have hd7 : ∀ k, (Value.slice A7 (ns.length + 1) c7).ownBlock = some k → (Value.slice Al5 ls.length cl5).ownBlock = some k → False := fun k hk hk2 => by
          have hlt := hltY k (.inr hk2)
          rcases ha7 with ha | ha
          · exact HO6.out.2.2 k (ha.symm.trans hk) hk2
          · rw [ha] at hk; cases hk; simp at hlt; omega
        have hY7 : ∀ k, blksW (.slice A7 (ns.length + 1) c7) (.slice Al5 ls.length cl5) k → ¬ k = Y := by
          rintro k (hk | hk) e
          · rcases ha7 with ha | ha
            · have := (hltY k (.inl (ha.symm.trans hk))).2; omega
            · rw [ha] at hk; cases hk; simp at e; omega
          · have := (hltY k (.inr hk)).2; omega
        have HO7 : Hid (OwnW w4.heap.size w7 (.slice A7 (ns.length + 1) c7) (.slice Al5 ls.length cl5) N7 ls) := Lib.hid ⟨ho7, HL7.out, hd7⟩
        clear hg7 ha7 ho7 HL7 hd7 HST6 HY6 HO6
        refine hK _ _ (fun _ => HY7.out.cell 0) (fun hS' => ?_)
        have hS7 := hS' (by decide)
        clear hK K hS'
        (try simp only [Act.put, List.setIfInBounds_toArray, List.set_cons_zero, List.set_cons_succ])
        (refine D_take (i := 6) (v := ?_) rfl rfl (by kernel_rfl) (by kernel_rfl) (by kernel_rfl) (by kernel_rfl) (fun _ _ _ h => h) (Or.inl ⟨by rfl, ?_⟩) (by assumption) ?_); rotate_left; (focus (intro w' hSw; (try dsimp only at hSw); go_simp; (try with_reducible rfl))); (try simp only [Act.put, List.setIfInBounds_toArray, List.set_cons_zero, List.set_cons_succ])
        clear hS7
        have hby := HY7.out
        (have y_0 := hby.cell 0); (have y_1 := hby.cell 1); simp only [List.getElem?_toArray, List.getElem?_cons_succ, List.getElem?_cons_zero] at y_0 y_1; (have y_f0 := hby.frozen 0); (have y_f1 := hby.frozen 1)
        (refine D_step (i := 7) rfl (by kernel_rfl) (fun K hK => ?_)); (rw [if_pos (by rfl)])
        go_simp
        have HST8 := Lib.hid (HST7.out.row (set_grown w7 ⟨Y, 0, none⟩ (.slice A7 (ns.length + 1) c7)) (fun k hk => by
          have hk' : Y = k := Option.some.inj hk
          subst hk'
          exact ⟨by omega, fun hb => by have := (hltX _ hb).2; omega⟩))
        have HY8 : Hid (Blk (w7.setCell ⟨Y, 0, none⟩ (.slice A7 (ns.length + 1) c7)) Y 27 #[.slice A7 (ns.length + 1) c7, .slice Al5 ls.length cl5]) := Lib.hid (HY7.out.set_ 0 _)
        have HO8 := Lib.hid (HO7.out.setFar (p := ⟨Y, 0, none⟩) (fun hb => hY7 _ hb rfl) (.slice A7 (ns.length + 1) c7))
        clear HST7 HY7 HO7 hby
        refine hK _ _ (fun h => absurd rfl h) (fun _ => ?_)
        clear hK K
        (try simp only [Act.put, List.setIfInBounds_toArray, List.set_cons_zero, List.set_cons_succ])
        refine D_done (by kernel_rfl) ?_ _
        obtain ⟨w8, hw8⟩ : ∃ w8, w8 = w7.setCell ⟨Y, 0, none⟩ (.slice A7 (ns.length + 1) c7) := ⟨_, rfl⟩
        rw [← hw8] at HST8 HY8 HO8 ⊢
        clear hw8 y_0 y_1 y_f0 y_f1
        obtain ⟨bw, hbw⟩ : ∃ bw, winB N7 ls = bw := ⟨_, rfl⟩
        have HBW := Lib.hid hbw
        clear hbw
        have hby := HY8.out
        (have y_0 := hby.cell 0); (have y_1 := hby.cell 1); simp only [List.getElem?_toArray, List.getElem?_cons_succ, List.getElem?_cons_zero] at y_0 y_1
        have hYl : Y < w8.heap.size := hby.lt
        go_wp2_with fail
        refine (sWinOk_at _ _ N7 ls bw _ HO8.out.1.reads HO8.out.2.1.reads HBW.out).mono ?_
        rintro e w9 ⟨rfl, hb9⟩
        have HST9 := Lib.hid (HST8.out.below hb9)
        have HY9 := Lib.hid (hby.below hb9 hYl)
        have HO9 := Lib.hid (HO8.out.kept hb9)
        clear hb9 HST8 HY8 HO8 hby y_0 y_1 hYl
        cases bw
        · -- it is not taken
          have hbxq := HST9.out.box
          have hrsq := HST9.out.res
          (have x_0 := hbxq.cell 0); (have x_1 := hbxq.cell 1); simp only [List.getElem?_toArray, List.getElem?_cons_succ, List.getElem?_cons_zero] at x_0 x_1; (have x_f0 := hbxq.frozen 0); (have x_f1 := hbxq.frozen 1)
          (have r_0 := hrsq.cell 0); (have r_1 := hrsq.cell 1); simp only [List.getElem?_toArray, List.getElem?_cons_succ, List.getElem?_cons_zero] at r_0 r_1; (have r_f0 := hrsq.frozen 0); (have r_f1 := hrsq.frozen 1)
          have hneq : ¬ X = w.heap.size := by have := HST9.out.hX; omega
          have hXlq : X < _ := hbxq.lt
          have hRlq : w.heap.size < _ := hrsq.lt
          have HO := Lib.hid ((HST9.out.own.setLow (p := ⟨w.heap.size, 0, none⟩) (show w.heap.size < w.heap.size + 1 by omega) (.slice An ns.length cn)).setLow (p := ⟨w.heap.size, 1, none⟩) (show w.heap.size < w.heap.size + 1 by omega) (.slice Al ls.length cl))
          have HCC := Lib.hid ((HST9.out.cur.far (p := ⟨w.heap.size, 0, none⟩) HST9.out.hg (.slice An ns.length cn)).far (p := ⟨w.heap.size, 1, none⟩) HST9.out.hg (.slice Al ls.length cl))
          have HG := Lib.hid (only_far (p := ⟨w.heap.size, 1, none⟩) (only_far (p := ⟨w.heap.size, 0, none⟩) HST9.out.gr (Nat.le_refl _) (.slice An ns.length cn)) (Nat.le_refl _) (.slice Al ls.length cl))
          have HW := Lib.hid HST9.out.win
          clear hbxq hrsq
          go_wp2
          exact bodyPost_ret (v := .agg #[(.slice An ns.length cn), (.slice Al ls.length cl)]) (by simp [results, Try.results45, go_sem, r_0, r_1, x_0, x_1]) rfl ⟨ns, ls, An, cn, Al, cl, rfl, HW.out, HO.out, HCC.out, HG.out⟩
        · have hby := HY9.out
          (have y_0 := hby.cell 0); (have y_1 := hby.cell 1); simp only [List.getElem?_toArray, List.getElem?_cons_succ, List.getElem?_cons_zero] at y_0 y_1
          have hYl : Y < w9.heap.size := hby.lt
          have hbx := HST9.out.box
          (have x_0 := hbx.cell 0); (have x_1 := hbx.cell 1); simp only [List.getElem?_toArray, List.getElem?_cons_succ, List.getElem?_cons_zero] at x_0 x_1; (have x_f0 := hbx.frozen 0); (have x_f1 := hbx.frozen 1)
          have hXl9 : X < w9.heap.size := hbx.lt
          have hnp : (0 : Int) < (ns.length : Int) := by omega
          have hYg : ¬ Y = g := by omega
          go_wp2_with fail
          have hS0 : w9.drew.cell? ⟨X, 0, none⟩ = some (.slice An ns.length cn) ∧ w9.drew.cell? ⟨Y, 0, none⟩ = some (.slice A7 (ns.length + 1) c7) ∧ w9.drew.cell? ⟨Y, 1, none⟩ = some (.slice Al5 ls.length cl5) := ⟨x_0, y_0, y_1⟩
          refine region_E (n := 13) (S := fun w' => w'.cell? ⟨X, 0, none⟩ = some (.slice An ns.length cn) ∧ w'.cell? ⟨Y, 0, none⟩ = some (.slice A7 (ns.length + 1) c7) ∧ w'.cell? ⟨Y, 1, none⟩ = some (.slice Al5 ls.length cl5)) (by kernel_rfl) hS0 (fun hS => ?_)
          (refine E_take (i := 0) (v := ?_) rfl rfl (by kernel_rfl) (by kernel_rfl) (by kernel_rfl) (by kernel_rfl) (by kernel_rfl) (fun _ _ _ h => h) (Or.inl ⟨by rfl, ?_⟩) (by assumption) ?_); rotate_left; (focus (intro w' hSw; (try dsimp only at hSw); go_simp; (try with_reducible rfl))); (try simp only [Act.put, List.setIfInBounds_toArray, List.set_cons_zero, List.set_cons_succ])
          (refine E_take (i := 1) (v := ?_) rfl rfl (by kernel_rfl) (by kernel_rfl) (by kernel_rfl) (by kernel_rfl) (by kernel_rfl) (fun _ _ _ h => h) (Or.inl ⟨by rfl, ?_⟩) (by assumption) ?_); rotate_left; (focus (intro w' hSw; (try dsimp only at hSw); go_simp; (try with_reducible rfl))); (try simp only [Act.put, List.setIfInBounds_toArray, List.set_cons_zero, List.set_cons_succ])
          (refine E_take (i := 2) (v := ?_) rfl rfl (by kernel_rfl) (by kernel_rfl) (by kernel_rfl) (by kernel_rfl) (by kernel_rfl) (fun _ _ _ h => h) (Or.inl ⟨by rfl, ?_⟩) (by assumption) ?_); rotate_left; (focus (intro w' hSw; (try dsimp only at hSw); go_simp; (try with_reducible rfl))); (try simp only [Act.put, List.setIfInBounds_toArray, List.set_cons_zero, List.set_cons_succ])
          (refine E_take (i := 3) (v := ?_) rfl rfl (by kernel_rfl) (by kernel_rfl) (by kernel_rfl) (by kernel_rfl) (by kernel_rfl) (fun _ _ _ h => h) (Or.inl ⟨by rfl, ?_⟩) (by assumption) ?_); rotate_left; (focus (intro w' hSw; (try dsimp only at hSw); go_simp; (try with_reducible rfl))); (try simp only [Act.put, List.setIfInBounds_toArray, List.set_cons_zero, List.set_cons_succ])
          (refine E_take (i := 4) (v := ?_) rfl rfl (by kernel_rfl) (by kernel_rfl) (by kernel_rfl) (by kernel_rfl) (by kernel_rfl) (fun _ _ _ h => h) (Or.inl ⟨by rfl, ?_⟩) (by assumption) ?_); rotate_left; (focus (intro w' hSw; (try dsimp only at hSw); go_simp; (try with_reducible rfl))); (try simp only [Act.put, List.setIfInBounds_toArray, List.set_cons_zero, List.set_cons_succ])
          (refine E_take (i := 6) (v := ?_) rfl rfl (by kernel_rfl) (by kernel_rfl) (by kernel_rfl) (by kernel_rfl) (by kernel_rfl) (fun _ _ _ h => h) (Or.inl ⟨by rfl, ?_⟩) (by assumption) ?_); rotate_left; (focus (intro w' hSw; (try dsimp only at hSw); go_simp; (try with_reducible rfl))); (try simp only [Act.put, List.setIfInBounds_toArray, List.set_cons_zero, List.set_cons_succ])
          (refine E_take (i := 7) (v := ?_) rfl rfl (by kernel_rfl) (by kernel_rfl) (by kernel_rfl) (by kernel_rfl) (by kernel_rfl) (fun _ _ _ h => h) (Or.inl ⟨by rfl, ?_⟩) (by assumption) ?_); rotate_left; (focus (intro w' hSw; (try dsimp only at hSw); go_simp; (try with_reducible rfl))); (try simp only [Act.put, List.setIfInBounds_toArray, List.set_cons_zero, List.set_cons_succ])
          (refine E_take (i := 8) (v := ?_) rfl rfl (by kernel_rfl) (by kernel_rfl) (by kernel_rfl) (by kernel_rfl) (by kernel_rfl) (fun _ _ _ h => h) (Or.inl ⟨by rfl, ?_⟩) (by assumption) ?_); rotate_left; (focus (intro w' hSw; (try dsimp only at hSw); go_simp; (try with_reducible rfl))); (try simp only [Act.put, List.setIfInBounds_toArray, List.set_cons_zero, List.set_cons_succ])
          (refine E_step (i := 5) rfl (by kernel_rfl) (fun K hK => ?_)); (rw [if_pos (by rfl)])
          go_simp
          go_at_call 84
          refine (below_any W0 v zs g _ _ HRB.out hle hnp HST9.out.drew.cur).mono ?_
          rintro e wa ⟨z, rfl, z0, z1, hca, hga⟩
          have HSTa := Lib.hid (HST9.out.drew.drawn hca hga)
          have HYa := Lib.hid (HY9.out.drew.grown hga hYg)
          have HOa := Lib.hid (OwnW.far (w := w9.drew) HO9.out hga (fun k hk => by cases hk; omega))
          clear hca hga
          go_wp2_with fail
          refine hK _ _ (fun _ => ⟨HSTa.out.box.cell 0, HYa.out.cell 0, HYa.out.cell 1⟩) (fun hS' => ?_)
          have hSa := hS' (by kernel_rfl)
          clear hK K hS hS'
          (try simp only [Act.put, List.setIfInBounds_toArray, List.set_cons_zero, List.set_cons_succ])
          (refine E_step (i := 9) rfl (by kernel_rfl) (fun K hK => ?_)); (rw [if_pos (by rfl)])
          go_simp
          go_at_call 65
          refine (sAdd_any _ _ N7 ls _ _ _ HOa.out.1.reads HOa.out.2.1.reads (by have := HLN.out; omega) (by omega)).mono ?_
          rintro e wb ⟨Anb, cnb, Alb, clb, rfl, hob, hbb⟩
          have HSTb := Lib.hid (HSTa.out.below hbb)
          have HYb := Lib.hid (HYa.out.below hbb HYa.out.lt)
          have HP := Lib.hid (HSTb.out.put (win_addL (winB_true.1 HBW.out) z ns.length) rfl rfl hob HSTa.out.box.lt)
          clear hbb hob
          go_wp2_with fail
          refine hK _ _ (fun _ => ⟨HSTb.out.box.cell 0, HYb.out.cell 0, HYb.out.cell 1⟩) (fun hS' => ?_)
          have hSb := hS' (by kernel_rfl)
          clear hK K hSa hS'
          (try simp only [Act.put, List.setIfInBounds_toArray, List.set_cons_zero, List.set_cons_succ])
          (refine E_take (i := 10) (v := ?_) rfl rfl (by kernel_rfl) (by kernel_rfl) (by kernel_rfl) (by kernel_rfl) (by kernel_rfl) (fun _ _ _ h => h) (Or.inl ⟨by rfl, ?_⟩) (by assumption) ?_); rotate_left; (focus (intro w' hSw; (try dsimp only at hSw); go_simp; (try with_reducible rfl))); (try simp only [Act.put, List.setIfInBounds_toArray, List.set_cons_zero, List.set_cons_succ])
          (refine E_take (i := 11) (v := ?_) rfl rfl (by kernel_rfl) (by kernel_rfl) (by kernel_rfl) (by kernel_rfl) (by kernel_rfl) (fun _ _ _ h => h) (Or.inl ⟨by rfl, ?_⟩) (by assumption) ?_); rotate_left; (focus (intro w' hSw; (try dsimp only at hSw); go_simp; (try with_reducible rfl))); (try simp only [Act.put, List.setIfInBounds_toArray, List.set_cons_zero, List.set_cons_succ])
          (refine E_take0 (i := 12) (v := ?_) rfl (by decide) (by kernel_rfl) (by kernel_rfl) (by kernel_rfl) (fun _ _ _ h => h) (Or.inl ⟨by rfl, ?_⟩) (by assumption) ?_); rotate_left; (focus (intro w' hSw; (try dsimp only at hSw); go_simp; (try with_reducible rfl))); (try simp only [Act.put, List.setIfInBounds_toArray, List.set_cons_zero, List.set_cons_succ])
          have hbxb := HSTb.out.box
          clear x_0 x_1 x_f0 x_f1 y_0 y_1
          (have x_0 := hbxb.cell 0); (have x_1 := hbxb.cell 1); simp only [List.getElem?_toArray, List.getElem?_cons_succ, List.getElem?_cons_zero] at x_0 x_1; (have x_f0 := hbxb.frozen 0); (have x_f1 := hbxb.frozen 1)
          (refine E_step (i := 13) rfl (by kernel_rfl) (fun K hK => ?_)); (rw [if_pos (by rfl)])
          go_simp
          refine hK _ _ (fun h => by cases h) (fun _ => ?_)
          clear hK K hSb
          (try simp only [Act.put, List.setIfInBounds_toArray, List.set_cons_zero, List.set_cons_succ])
          refine E_done (by kernel_rfl) ?_ _
          clear x_0 x_1 x_f0 x_f1 hbxb hbx hS0
          generalize addL N7 ls z ns.length = L' at *
          obtain ⟨wc, hwc⟩ : ∃ wc, wc = (wb.setCell ⟨X, 0, none⟩ (.slice Anb N7.length cnb)).setCell ⟨X, 1, none⟩ (.slice Alb L'.length clb) := ⟨_, rfl⟩
          rw [← hwc] at HP ⊢
          clear hwc
          have hbxq := HP.out.box
          have hrsq := HP.out.res
          (have x_0 := hbxq.cell 0); (have x_1 := hbxq.cell 1); simp only [List.getElem?_toArray, List.getElem?_cons_succ, List.getElem?_cons_zero] at x_0 x_1; (have x_f0 := hbxq.frozen 0); (have x_f1 := hbxq.frozen 1)
          (have r_0 := hrsq.cell 0); (have r_1 := hrsq.cell 1); simp only [List.getElem?_toArray, List.getElem?_cons_succ, List.getElem?_cons_zero] at r_0 r_1; (have r_f0 := hrsq.frozen 0); (have r_f1 := hrsq.frozen 1)
          have hneq : ¬ X = w.heap.size := by have := HP.out.hX; omega
          have hXlq : X < _ := hbxq.lt
          have hRlq : w.heap.size < _ := hrsq.lt
          have HO := Lib.hid ((HP.out.own.setLow (p := ⟨w.heap.size, 0, none⟩) (show w.heap.size < w.heap.size + 1 by omega) (.slice Anb N7.length cnb)).setLow (p := ⟨w.heap.size, 1, none⟩) (show w.heap.size < w.heap.size + 1 by omega) (.slice Alb L'.length clb))
          have HCC := Lib.hid ((HP.out.cur.far (p := ⟨w.heap.size, 0, none⟩) HP.out.hg (.slice Anb N7.length cnb)).far (p := ⟨w.heap.size, 1, none⟩) HP.out.hg (.slice Alb L'.length clb))
          have HG := Lib.hid (only_far (p := ⟨w.heap.size, 1, none⟩) (only_far (p := ⟨w.heap.size, 0, none⟩) HP.out.gr (Nat.le_refl _) (.slice Anb N7.length cnb)) (Nat.le_refl _) (.slice Alb L'.length clb))
          have HW := Lib.hid HP.out.win
          clear hbxq hrsq
          go_wp2
          exact bodyPost_ret (v := .agg #[(.slice Anb N7.length cnb), (.slice Alb L'.length clb)]) (by simp [results, Try.results45, go_sem, r_0, r_1, x_0, x_1]) rfl ⟨N7, L', Anb, cnb, Alb, clb, rfl, HW.out, HO.out, HCC.out, HG.out⟩
    · have hkp : (0 : Int) < (kn : Int) := by omega
      go_wp2_with fail
      refine (once_any W0 v zs g 2 _ HRB.out hle (by omega) HST.out.cur).mono ?_
      rintro e w4 ⟨bb, rfl, hc4, hg4⟩
      have HST4 := Lib.hid (HST.out.drawn hc4 hg4)
      clear HST hc4 hg4
      have hbx := HST4.out.box
      have hXl := hbx.lt
      have hw12 := HST4.out.win.2.1
      have hw1 := HST4.out.win.1
      have hw20 := HST4.out.win.2.2.1
      (have x_0 := hbx.cell 0); (have x_1 := hbx.cell 1); simp only [List.getElem?_toArray, List.getElem?_cons_succ, List.getElem?_cons_zero] at x_0 x_1; (have x_f0 := hbx.frozen 0); (have x_f1 := hbx.frozen 1)
      have hgX : ¬ g = X := by have := HST4.out.hX; omega
      cases bb
      · go_wp2_with fail
        have hS0 := And.intro x_0 x_1
        have hnp : (0 : Int) < (ns.length : Int) := by omega
        refine region_E (n := 15) (S := fun w' => w'.cell? ⟨X, 0, none⟩ = some (.slice An ns.length cn) ∧ w'.cell? ⟨X, 1, none⟩ = some (.slice Al ls.length cl)) (by kernel_rfl) hS0 (fun hS => ?_)
        (refine E_take (i := 0) (v := ?_) rfl rfl (by kernel_rfl) (by kernel_rfl) (by kernel_rfl) (by kernel_rfl) (by kernel_rfl) (fun _ _ _ h => h) (Or.inl ⟨by rfl, ?_⟩) (by assumption) ?_); rotate_left; (focus (intro w' hSw; (try dsimp only at hSw); go_simp; (try with_reducible rfl))); (try simp only [Act.put, List.setIfInBounds_toArray, List.set_cons_zero, List.set_cons_succ])
        (refine E_take (i := 1) (v := ?_) rfl rfl (by kernel_rfl) (by kernel_rfl) (by kernel_rfl) (by kernel_rfl) (by kernel_rfl) (fun _ _ _ h => h) (Or.inl ⟨by rfl, ?_⟩) (by assumption) ?_); rotate_left; (focus (intro w' hSw; (try dsimp only at hSw); go_simp; (try with_reducible rfl))); (try simp only [Act.put, List.setIfInBounds_toArray, List.set_cons_zero, List.set_cons_succ])
        (refine E_take (i := 2) (v := ?_) rfl rfl (by kernel_rfl) (by kernel_rfl) (by kernel_rfl) (by kernel_rfl) (by kernel_rfl) (fun _ _ _ h => h) (Or.inl ⟨by rfl, ?_⟩) (by assumption) ?_); rotate_left; (focus (intro w' hSw; (try dsimp only at hSw); go_simp; (try with_reducible rfl))); (try simp only [Act.put, List.setIfInBounds_toArray, List.set_cons_zero, List.set_cons_succ])
        (refine E_take (i := 3) (v := ?_) rfl rfl (by kernel_rfl) (by kernel_rfl) (by kernel_rfl) (by kernel_rfl) (by kernel_rfl) (fun _ _ _ h => h) (Or.inl ⟨by rfl, ?_⟩) (by assumption) ?_); rotate_left; (focus (intro w' hSw; (try dsimp only at hSw); go_simp; (try with_reducible rfl))); (try simp only [Act.put, List.setIfInBounds_toArray, List.set_cons_zero, List.set_cons_succ])
        (refine E_take (i := 4) (v := ?_) rfl rfl (by kernel_rfl) (by kernel_rfl) (by kernel_rfl) (by kernel_rfl) (by kernel_rfl) (fun _ _ _ h => h) (Or.inl ⟨by rfl, ?_⟩) (by assumption) ?_); rotate_left; (focus (intro w' hSw; (try dsimp only at hSw); go_simp; (try with_reducible rfl))); (try simp only [Act.put, List.setIfInBounds_toArray, List.set_cons_zero, List.set_cons_succ])
        (refine E_take (i := 6) (v := ?_) rfl rfl (by kernel_rfl) (by kernel_rfl) (by kernel_rfl) (by kernel_rfl) (by kernel_rfl) (fun _ _ _ h => h) (Or.inl ⟨by rfl, ?_⟩) (by assumption) ?_); rotate_left; (focus (intro w' hSw; (try dsimp only at hSw); go_simp; (try with_reducible rfl))); (try simp only [Act.put, List.setIfInBounds_toArray, List.set_cons_zero, List.set_cons_succ])
        (refine E_take (i := 7) (v := ?_) rfl rfl (by kernel_rfl) (by kernel_rfl) (by kernel_rfl) (by kernel_rfl) (by kernel_rfl) (fun _ _ _ h => h) (Or.inl ⟨by rfl, ?_⟩) (by assumption) ?_); rotate_left; (focus (intro w' hSw; (try dsimp only at hSw); go_simp; (try with_reducible rfl))); (try simp only [Act.put, List.setIfInBounds_toArray, List.set_cons_zero, List.set_cons_succ])
        (refine E_take (i := 8) (v := ?_) rfl rfl (by kernel_rfl) (by kernel_rfl) (by kernel_rfl) (by kernel_rfl) (by kernel_rfl) (fun _ _ _ h => h) (Or.inl ⟨by rfl, ?_⟩) (by assumption) ?_); rotate_left; (focus (intro w' hSw; (try dsimp only at hSw); go_simp; (try with_reducible rfl))); (try simp only [Act.put, List.setIfInBounds_toArray, List.set_cons_zero, List.set_cons_succ])
        (refine E_take (i := 9) (v := ?_) rfl rfl (by kernel_rfl) (by kernel_rfl) (by kernel_rfl) (by kernel_rfl) (by kernel_rfl) (fun _ _ _ h => h) (Or.inl ⟨by rfl, ?_⟩) (by assumption) ?_); rotate_left; (focus (intro w' hSw; (try dsimp only at hSw); go_simp; (try with_reducible rfl))); (try simp only [Act.put, List.setIfInBounds_toArray, List.set_cons_zero, List.set_cons_succ])
        (refine E_step (i := 5) rfl (by kernel_rfl) (fun K hK => ?_)); (rw [if_pos (by rfl)])
        go_simp
        go_at_call 84
        refine (below_any W0 v zs g _ _ HRB.out hle hnp HST4.out.drew.cur).mono ?_
        rintro e w5 ⟨y, rfl, y0, y1, hc5, hg5⟩
        have HST5 := Lib.hid (HST4.out.drew.drawn hc5 hg5)
        clear hc5 hg5
        go_wp2_with fail
        refine hK _ _ (fun _ => ⟨HST5.out.box.cell 0, HST5.out.box.cell 1⟩) (fun hS' => ?_)
        have hS5 := hS' (by kernel_rfl)
        clear hK K hS hS'
        (try simp only [Act.put, List.setIfInBounds_toArray, List.set_cons_zero, List.set_cons_succ])
        (refine E_step (i := 10) rfl (by kernel_rfl) (fun K hK => ?_)); (rw [if_pos (by rfl)])
        go_simp
        go_at_call 84
        refine (below_any W0 v zs g _ _ HRB.out hle hnp HST5.out.cur).mono ?_
        rintro e w6 ⟨z, rfl, z0, z1, hc6, hg6⟩
        have HST6 := Lib.hid (HST5.out.drawn hc6 hg6)
        clear hc6 hg6
        go_wp2_with fail
        refine hK _ _ (fun _ => ⟨HST6.out.box.cell 0, HST6.out.box.cell 1⟩) (fun hS' => ?_)
        have hS6 := hS' (by kernel_rfl)
        clear hK K hS5 hS'
        (try simp only [Act.put, List.setIfInBounds_toArray, List.set_cons_zero, List.set_cons_succ])
        (refine E_step (i := 11) rfl (by kernel_rfl) (fun K hK => ?_)); (rw [if_pos (by rfl)])
        go_simp
        go_at_call 65
        refine (sAdd_any _ _ ns ls _ _ _ HST6.out.own.1.reads HST6.out.own.2.1.reads (by omega) (by omega)).mono ?_
        rintro e w7 ⟨An7, cn7, Al7, cl7, rfl, ho7, hb7⟩
        have HST7 := Lib.hid (HST6.out.below hb7)
        have HP := Lib.hid (HST7.out.put (win_addL HST7.out.win y z) rfl rfl ho7 HST6.out.box.lt)
        clear hb7 ho7
        go_wp2_with fail
        refine hK _ _ (fun _ => ⟨HST7.out.box.cell 0, HST7.out.box.cell 1⟩) (fun hS' => ?_)
        have hS7 := hS' (by kernel_rfl)
        clear hK K hS6 hS'
        (try simp only [Act.put, List.setIfInBounds_toArray, List.set_cons_zero, List.set_cons_succ])
        (refine E_take (i := 12) (v := ?_) rfl rfl (by kernel_rfl) (by kernel_rfl) (by kernel_rfl) (by kernel_rfl) (by kernel_rfl) (fun _ _ _ h => h) (Or.inl ⟨by rfl, ?_⟩) (by assumption) ?_); rotate_left; (focus (intro w' hSw; (try dsimp only at hSw); go_simp; (try with_reducible rfl))); (try simp only [Act.put, List.setIfInBounds_toArray, List.set_cons_zero, List.set_cons_succ])
        (refine E_take (i := 13) (v := ?_) rfl rfl (by kernel_rfl) (by kernel_rfl) (by kernel_rfl) (by kernel_rfl) (by kernel_rfl) (fun _ _ _ h => h) (Or.inl ⟨by rfl, ?_⟩) (by assumption) ?_); rotate_left; (focus (intro w' hSw; (try dsimp only at hSw); go_simp; (try with_reducible rfl))); (try simp only [Act.put, List.setIfInBounds_toArray, List.set_cons_zero, List.set_cons_succ])
        (refine E_take0 (i := 14) (v := ?_) rfl (by decide) (by kernel_rfl) (by kernel_rfl) (by kernel_rfl) (fun _ _ _ h => h) (Or.inl ⟨by rfl, ?_⟩) (by assumption) ?_); rotate_left; (focus (intro w' hSw; (try dsimp only at hSw); go_simp; (try with_reducible rfl))); (try simp only [Act.put, List.setIfInBounds_toArray, List.set_cons_zero, List.set_cons_succ])
        have hbx7 := HST7.out.box
        clear x_0 x_1 x_f0 x_f1
        (have x_0 := hbx7.cell 0); (have x_1 := hbx7.cell 1); simp only [List.getElem?_toArray, List.getElem?_cons_succ, List.getElem?_cons_zero] at x_0 x_1; (have x_f0 := hbx7.frozen 0); (have x_f1 := hbx7.frozen 1)
        (refine E_step (i := 15) rfl (by kernel_rfl) (fun K hK => ?_)); (rw [if_pos (by rfl)])
        go_simp
        refine hK _ _ (fun h => by cases h) (fun _ => ?_)
        clear hK K hS7
        (try simp only [Act.put, List.setIfInBounds_toArray, List.set_cons_zero, List.set_cons_succ])
        refine E_done (by kernel_rfl) ?_ _
        clear x_0 x_1 x_f0 x_f1 hbx7 hbx hXl hS0
        generalize addL ns ls y z = L' at *
        go_wp2
        go_roundw
        case rel => exact ⟨kn - 1, An7, cn7, Al7, cl7, ns, L', by congr 1; omega, by omega, HP.out⟩
        case measure => simp [intOf]; omega
      · go_wp2_with fail
        have hS0 := And.intro x_0 x_1
        have hmx : 0 < mx2 1 (ls.length : Int) := by rw [mx2_eq]; omega
        refine region_E (n := 11) (S := fun w' => w'.cell? ⟨X, 0, none⟩ = some (.slice An ns.length cn) ∧ w'.cell? ⟨X, 1, none⟩ = some (.slice Al ls.length cl)) (by kernel_rfl) hS0 (fun hS => ?_)
        (refine E_take (i := 0) (v := ?_) rfl rfl (by kernel_rfl) (by kernel_rfl) (by kernel_rfl) (by kernel_rfl) (by kernel_rfl) (fun _ _ _ h => h) (Or.inl ⟨by rfl, ?_⟩) (by assumption) ?_); rotate_left; (focus (intro w' hSw; (try dsimp only at hSw); go_simp; (try with_reducible rfl))); (try simp only [Act.put, List.setIfInBounds_toArray, List.set_cons_zero, List.set_cons_succ])
        (refine E_take (i := 1) (v := ?_) rfl rfl (by kernel_rfl) (by kernel_rfl) (by kernel_rfl) (by kernel_rfl) (by kernel_rfl) (fun _ _ _ h => h) (Or.inl ⟨by rfl, ?_⟩) (by assumption) ?_); rotate_left; (focus (intro w' hSw; (try dsimp only at hSw); go_simp; (try with_reducible rfl))); (try simp only [Act.put, List.setIfInBounds_toArray, List.set_cons_zero, List.set_cons_succ])
        (refine E_take (i := 2) (v := ?_) rfl rfl (by kernel_rfl) (by kernel_rfl) (by kernel_rfl) (by kernel_rfl) (by kernel_rfl) (fun _ _ _ h => h) (Or.inl ⟨by rfl, ?_⟩) (by assumption) ?_); rotate_left; (focus (intro w' hSw; (try dsimp only at hSw); go_simp; (try with_reducible rfl))); (try simp only [Act.put, List.setIfInBounds_toArray, List.set_cons_zero, List.set_cons_succ])
        (refine E_take (i := 3) (v := ?_) rfl rfl (by kernel_rfl) (by kernel_rfl) (by kernel_rfl) (by kernel_rfl) (by kernel_rfl) (fun _ _ _ h => h) (Or.inl ⟨by rfl, ?_⟩) (by assumption) ?_); rotate_left; (focus (intro w' hSw; (try dsimp only at hSw); go_simp; (try with_reducible rfl))); (try simp only [Act.put, List.setIfInBounds_toArray, List.set_cons_zero, List.set_cons_succ])
        (refine E_take (i := 4) (v := ?_) rfl rfl (by kernel_rfl) (by kernel_rfl) (by kernel_rfl) (by kernel_rfl) (by kernel_rfl) (fun _ _ _ h => h) (Or.inl ⟨by rfl, ?_⟩) (by assumption) ?_); rotate_left; (focus (intro w' hSw; (try dsimp only at hSw); go_simp; (try with_reducible rfl))); (try simp only [Act.put, List.setIfInBounds_toArray, List.set_cons_zero, List.set_cons_succ])
        (refine E_take (i := 5) (v := ?_) rfl rfl (by kernel_rfl) (by kernel_rfl) (by kernel_rfl) (by kernel_rfl) (by kernel_rfl) (fun _ _ _ h => h) (Or.inl ⟨by rfl, ?_⟩) (by assumption) ?_); rotate_left; (focus (intro w' hSw; (try dsimp only at hSw); go_simp; (try with_reducible rfl))); (try simp only [Act.put, List.setIfInBounds_toArray, List.set_cons_zero, List.set_cons_succ])
        (refine E_step (i := 6) rfl (by kernel_rfl) (fun K hK => ?_)); (rw [if_pos (by rfl)])
        go_simp
        go_at_call 84
        refine (below_any W0 v zs g _ _ HRB.out hle hmx HST4.out.drew.cur).mono ?_
        rintro e w5 ⟨y, rfl, y0, y1, hc5, hg5⟩
        have HST5 := Lib.hid (HST4.out.drew.drawn hc5 hg5)
        clear hc5 hg5
        go_wp2_with fail
        refine hK _ _ (fun _ => ⟨HST5.out.box.cell 0, HST5.out.box.cell 1⟩) (fun hS' => ?_)
        have hS5 := hS' (by kernel_rfl)
        clear hK K hS hS'
        (try simp only [Act.put, List.setIfInBounds_toArray, List.set_cons_zero, List.set_cons_succ])
        (refine E_step (i := 7) rfl (by kernel_rfl) (fun K hK => ?_)); (rw [if_pos (by rfl)])
        go_simp
        go_at_call 66
        refine (sDrop_any _ _ ns ls _ _ HST5.out.own.1.reads HST5.out.own.2.1.reads (by omega) (by omega)).mono ?_
        rintro e w6 ⟨An6, cn6, Al6, cl6, rfl, ho6, hb6⟩
        have HST6 := Lib.hid (HST5.out.below hb6)
        have HP := Lib.hid (HST6.out.put (win_dropL HST6.out.win y) rfl rfl ho6 HST5.out.box.lt)
        clear hb6 ho6
        go_wp2_with fail
        refine hK _ _ (fun _ => ⟨HST6.out.box.cell 0, HST6.out.box.cell 1⟩) (fun hS' => ?_)
        have hS6 := hS' (by kernel_rfl)
        clear hK K hS5 hS'
        (try simp only [Act.put, List.setIfInBounds_toArray, List.set_cons_zero, List.set_cons_succ])
        (refine E_take (i := 8) (v := ?_) rfl rfl (by kernel_rfl) (by kernel_rfl) (by kernel_rfl) (by kernel_rfl) (by kernel_rfl) (fun _ _ _ h => h) (Or.inl ⟨by rfl, ?_⟩) (by assumption) ?_); rotate_left; (focus (intro w' hSw; (try dsimp only at hSw); go_simp; (try with_reducible rfl))); (try simp only [Act.put, List.setIfInBounds_toArray, List.set_cons_zero, List.set_cons_succ])
        (refine E_take (i := 9) (v := ?_) rfl rfl (by kernel_rfl) (by kernel_rfl) (by kernel_rfl) (by kernel_rfl) (by kernel_rfl) (fun _ _ _ h => h) (Or.inl ⟨by rfl, ?_⟩) (by assumption) ?_); rotate_left; (focus (intro w' hSw; (try dsimp only at hSw); go_simp; (try with_reducible rfl))); (try simp only [Act.put, List.setIfInBounds_toArray, List.set_cons_zero, List.set_cons_succ])
        (refine E_take0 (i := 10) (v := ?_) rfl (by decide) (by kernel_rfl) (by kernel_rfl) (by kernel_rfl) (fun _ _ _ h => h) (Or.inl ⟨by rfl, ?_⟩) (by assumption) ?_); rotate_left; (focus (intro w' hSw; (try dsimp only at hSw); go_simp; (try with_reducible rfl))); (try simp only [Act.put, List.setIfInBounds_toArray, List.set_cons_zero, List.set_cons_succ])
        have hbx6 := HST6.out.box
        clear x_0 x_1 x_f0 x_f1
        (have x_0 := hbx6.cell 0); (have x_1 := hbx6.cell 1); simp only [List.getElem?_toArray, List.getElem?_cons_succ, List.getElem?_cons_zero] at x_0 x_1; (have x_f0 := hbx6.frozen 0); (have x_f1 := hbx6.frozen 1)
        (refine E_step (i := 11) rfl (by kernel_rfl) (fun K hK => ?_)); (rw [if_pos (by rfl)])
        go_simp
        refine hK _ _ (fun h => by cases h) (fun _ => ?_)
        clear hK K hS6
        (try simp only [Act.put, List.setIfInBounds_toArray, List.set_cons_zero, List.set_cons_succ])
        refine E_done (by kernel_rfl) ?_ _
        clear x_0 x_1 x_f0 x_f1 hbx6 hbx hXl hS0
        generalize dropL ns ls y = L' at *
        go_wp2
        go_roundw
        case rel => exact ⟨kn - 1, An6, cn6, Al6, cl6, ns, L', by congr 1; omega, by omega, HP.out⟩
        case measure => simp [intOf]; omega

end Go.Proofs.Ytnpdincjekelaaa
