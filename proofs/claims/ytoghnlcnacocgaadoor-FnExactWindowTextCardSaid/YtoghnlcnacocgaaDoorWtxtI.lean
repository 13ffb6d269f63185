/-
  A window's text: the program's side.
-/
import Derived.Test.YtoghnlcnacocgaaDoorWtxt
import Derived.Test.YtoghnlcnacocgaaDoorJtxt
import Derived.Test.YtoghnlcnacocgaaDoorLast
import Derived.Deep.RegionHeld3
import Derived.Laws.AppendOwn
import Derived.Maps.AppendAt
set_option linter.unusedSimpArgs false
set_option linter.unusedVariables false
namespace Go.Proofs.YtoghnlcnacocgaaDoor
open Go.RowKit

/-- A row of strings of one's own. -/
def OwnS (base : Nat) (w : World) (v : Value) (xs : List ByteArray) : Prop := w.ownsRow base 9 1 v xs.length (xs.map Value.string)

theorem OwnS.kept {base : Nat} {w w' : World} {v : Value} {xs : List ByteArray} (h : OwnS base w v xs) (hb : Below w.heap.size w w') : OwnS base w' v xs := own_kept h hb
theorem OwnS.alloc {base : Nat} {w : World} {v : Value} {xs : List ByteArray} (h : OwnS base w v xs) (o : Obj) : OwnS base (w.alloc o) v xs := World.ownsRow.alloc h o
theorem OwnS.lt {base : Nat} {w : World} {v : Value} {xs : List ByteArray} (h : OwnS base w v xs) : ∀ k, v.ownBlock = some k → base ≤ k ∧ k < w.heap.size := World.ownsRow.lt h
theorem OwnS.drew {base : Nat} {w : World} {v : Value} {xs : List ByteArray} (h : OwnS base w v xs) : OwnS base w.drew v xs := h

theorem infoStr : (Tryd.prog.info? 9).map (fun i => (i.zero, i.size, i.bytes)) = some (some (.string ⟨#[]⟩), 1, 16) := by kernel_rfl

theorem own_s1 {base : Nat} {w' : World} {v' : Value} {xs : List ByteArray} {st : ByteArray} (h : w'.ownsRow base 9 1 v' (xs.length + 1) (xs.map Value.string ++ [.string st])) : OwnS base w' v' (xs ++ [st]) := by
  unfold OwnS
  rw [List.length_append, List.map_append]
  exact h

/-- One string behind a row of one's own. -/
theorem wpList_append_s1 {w : World} {ops : Array Oper} {rest : List Oper} {o : Oper} {a : Act} {Q : Exit → Act → World → Prop} (hgd : o.guard = none) (s x : Operand)
    (ho : o.op = .call { callee := .builtin .append, args := #[s, x], argTypes := #[58, 58] })
    (base : Nat) (i : TypeInfo) (hi : Tryd.prog.info? 9 = some i) (hz : i.zero = some (.string ⟨#[]⟩)) (hsize : i.size = 1) (hby : i.bytes = 16)
    (v : Value) (xs : List ByteArray) (st : ByteArray) (hs : a.eval s = v) (g : Nat) (hx : a.eval x = .slice (some ⟨g, 0, none⟩) 1 1) (hg : w.cell? ⟨g, 0, none⟩ = some (.string st))
    (hown : OwnS base w v xs) (hlen : xs.length ≤ 1048576) (hbase : base ≤ w.heap.size)
    (h : ∀ v' w', OwnS base w' v' (xs ++ [st]) → w.grownBy w' v.ownBlock → wpList Tryd.prog ops Q rest (a.put o.dst v') w') : wpList Tryd.prog ops Q (o :: rest) a w :=
  wpList_append_own w hgd s x 58 ho base 9 i (.string ⟨#[]⟩) 1 16 Tryd.underlying58 hi hz hsize hby rfl (by decide) v xs.length _ hs hown ⟨g, 0, none⟩ 1 1 [.string st] hx rfl
    (fun j u hj => by
      match j, hj with
      | 0, hj => cases hj; exact hg
      | j + 1, hj => simp at hj)
    (by intro u hu; simp at hu; subst hu; rfl) (by unfold maxLen; omega) (by omega) hbase fun v' w' h2 h3 _ => h v' w' (own_s1 h2) h3

/-- In a region whose order is drawn. -/
theorem step_append_s1 {w : World} {ops : Array Oper} {o : Oper} {a : Act} {K : Act → World → Prop} {Q : Exit → Act → World → Prop} {E : Prop} (hgd : o.guard = none) (s x : Operand)
    (ho : o.op = .call { callee := .builtin .append, args := #[s, x], argTypes := #[58, 58] })
    (base : Nat) (i : TypeInfo) (hi : Tryd.prog.info? 9 = some i) (hz : i.zero = some (.string ⟨#[]⟩)) (hsize : i.size = 1) (hby : i.bytes = 16)
    (v : Value) (xs : List ByteArray) (st : ByteArray) (hs : a.eval s = v) (g : Nat) (hx : a.eval x = .slice (some ⟨g, 0, none⟩) 1 1) (hg : w.cell? ⟨g, 0, none⟩ = some (.string st))
    (hown : OwnS base w v xs) (hlen : xs.length ≤ 1048576) (hbase : base ≤ w.heap.size)
    (h : ∀ v' w', OwnS base w' v' (xs ++ [st]) → w.grownBy w' v.ownBlock → K (a.put o.dst v') w') :
    if Region.wanted o (yielded ops a.tmps) = true then Oper.wp Tryd.prog o a w K Q else E := by
  have hw : Region.wanted o (yielded ops a.tmps) = true := by simp [Region.wanted, hgd]
  rw [if_pos hw]
  exact wp_append_own w s x 58 ho base 9 i (.string ⟨#[]⟩) 1 16 Tryd.underlying58 hi hz hsize hby rfl (by decide) v xs.length _ hs hown ⟨g, 0, none⟩ 1 1 [.string st] hx rfl
    (fun j u hj => by
      match j, hj with
      | 0, hj => cases hj; exact hg
      | j + 1, hj => simp at hj)
    (by intro u hu; simp at hu; subst hu; rfl) (by unfold maxLen; omega) (by omega) hbase fun v' w' h2 h3 _ => h v' w' (own_s1 h2) h3

theorem Blk.grownR {w w' : World} {b : Nat} {t : TypeId} {cs : Array Value} {row : Option Nat} (h : Blk w b t cs) (hg : w.grownBy w' row) (hr : ∀ k, row = some k → ¬ k = b) : Blk w' b t cs :=
  (hg.block b h.lt (fun e => hr b e.symm rfl)).trans h

/-- The parts of a window's text. -/
def pN (ns : List Pr) : Nat → List ByteArray
  | 0 => []
  | j + 1 => pN ns j ++ [nodeS (ndI ns j).1 (ndI ns j).2]
def pL (ns ls : List Pr) : Nat → List ByteArray
  | 0 => pN ns ns.length ++ [⟨#[124]⟩]
  | j + 1 => pL ns ls j ++ [dS (ndI ls j).1 ++ ⟨#[45]⟩ ++ dS (ndI ls j).2]

theorem pN_len (ns : List Pr) : ∀ j, (pN ns j).length = j
  | 0 => rfl
  | j + 1 => by rw [pN, List.length_append, pN_len ns j]; rfl
theorem pL_len (ns ls : List Pr) : ∀ j, (pL ns ls j).length = ns.length + 1 + j
  | 0 => by rw [pL, List.length_append, pN_len]; rfl
  | j + 1 => by rw [pL, List.length_append, pL_len ns ls j]; rfl

def bj (xs : List ByteArray) : List UInt8 := Lib.join (xs.map (·.data.toList)) [32]

theorem bj_snoc (xs : List ByteArray) (y : ByteArray) : bj (xs ++ [y]) = (if xs = [] then [] else bj xs ++ [32]) ++ y.data.toList := by
  cases xs with
  | nil => simp [bj, Lib.join_one]
  | cons x r =>
    rw [if_neg (by simp)]
    unfold bj
    rw [List.cons_append, List.map_cons, List.map_cons, Lib.join_cons, Lib.join_cons, List.map_append, Lib.joinTail, Lib.joinTail]
    simp

theorem bj_nodes (ns : List Pr) : ∀ j, (if pN ns j = [] then [] else bj (pN ns j) ++ [32]) = (nT ns j).data.toList
  | 0 => by simp [pN, nT]
  | j + 1 => by
    rw [pN, if_neg (by simp), bj_snoc, bj_nodes ns j, nT]
    simp

theorem bj_all (ns ls : List Pr) : ∀ j, bj (pL ns ls j) = (lT ns ls j).data.toList
  | 0 => by
    rw [pL, bj_snoc, bj_nodes, lT]
    simp
  | j + 1 => by
    rw [pL, bj_snoc, if_neg (by intro h; have := pL_len ns ls j; rw [h, List.length_nil] at this; omega), bj_all ns ls j, lT]
    simp

theorem iFmtW_any (x : Int) (h0 : 0 ≤ x) (h1 : x < 100) (w : World) :
    Calls Tryd.prog 26 #[.int .i64 x] w fun e w' => e = .returned (.string (dS x)) ∧ w = w' := by
  obtain ⟨n, rfl⟩ : ∃ n : Nat, x = (n : Int) := ⟨x.toNat, by omega⟩
  exact iFmt_any n (by omega) w

theorem join_own {base : Nat} {w : World} {v : Value} {xs : List ByteArray} (s : ByteArray) (h : OwnS base w v xs) (hpos : 0 < xs.length) (hlen : xs.length ≤ 1048576) (hs : bj xs = s.data.toList) (hsz : s.size ≤ 1048576) :
    Calls Tryd.prog 36 #[v, .string ⟨#[32]⟩] w fun e w' => e = .returned (.string s) ∧ Below w.heap.size w w' := by
  have hcell := fun (g : Nat) (n c : Nat) (hv : v = .slice (some ⟨g, 0, none⟩) n c) => World.ownsRow.cells h (g := g) (by rw [hv]; rfl)
  have hlt := h.lt
  rcases h.2 with ⟨rfl, h0⟩ | ⟨g, cap, cur, rfl, hbg, hg, hnc, hcm, hcs, htake⟩
  · omega
  · have hg' := (hlt g rfl).2
    refine (Tryd.strings_Join g 0 cap xs ⟨#[32]⟩ w (fun j x hj => ?_) hg' (by omega) hnc ?_).mono fun e w' ⟨he, hb⟩ => ⟨he.trans ?_, hb⟩
    · have := hcell g _ _ rfl j (.string x) (by rw [List.getElem?_map, hj]; rfl)
      rw [Addr.add_lit] at this
      exact this
    · show (bj xs).length ≤ _
      rw [hs, Array.length_toList]
      have : s.data.size = s.size := rfl
      omega
    · show Ending.returned (Value.string ⟨(bj xs).toArray⟩) = _
      rw [hs]

set_option maxHeartbeats 8000000 in
set_option maxRecDepth 100000 in
theorem iWtxt_any (vn vl : Value) (ns ls : List Pr) (w : World) (hn : RP w vn ns) (hl : RP w vl ls) :
    Calls Tryd.prog 21 #[.agg #[vn, vl]] w fun e w' => e = .returned (.string (windowS ns ls)) ∧ Below w.heap.size w w' := by
  cases hw : winB ns ls
  · have HS : Hid (windowS ns ls = ⟨#[]⟩) := Lib.hid (by simp [windowS, hw])
    go_enter Tryd.func21, Tryd.ntmps21
    go_wp2_with fail
    refine (iWinOk_at _ _ ns ls _ _ (hn.below (by (repeat' (first | (with_reducible exact Below.refl _ _) | (with_reducible assumption) | (with_reducible refine Below.drew ?_) | (with_reducible refine below_drewN ?_ _) | (with_reducible refine Below.alloc ?_ ?_ _) | (with_reducible refine Below.setCell ?_ ?_ _) | (with_reducible refine Below.step (by assumption) ?_ ?_))); all_goals (first | omega | (simp; done) | (simp; omega)))) (hl.below (by (repeat' (first | (with_reducible exact Below.refl _ _) | (with_reducible assumption) | (with_reducible refine Below.drew ?_) | (with_reducible refine below_drewN ?_ _) | (with_reducible refine Below.alloc ?_ ?_ _) | (with_reducible refine Below.setCell ?_ ?_ _) | (with_reducible refine Below.step (by assumption) ?_ ?_))); all_goals (first | omega | (simp; done) | (simp; omega)))) hw).mono ?_
    rintro e w1 ⟨rfl, hb1⟩; (first | (with_reducible have hcf1 := bcell_drew hb1) | have hcf1 := bcell hb1); obtain ⟨hc1, hf1⟩ := hcf1; have hz1 := hb1.size; (try simp at hz1); (try have hp1_0 : w.heap.size < w1.heap.size := by omega); (try have hp1_1 : w.heap.size + 1 < w1.heap.size := by omega); (try have hp1_2 : w.heap.size + 1 + 1 < w1.heap.size := by omega); (try have hp1_3 : w.heap.size + 1 + 1 + 1 < w1.heap.size := by omega)
    go_wp2
    go_ret
    exact ⟨by rw [HS.out]; rfl, by (repeat' (first | (with_reducible exact Below.refl _ _) | (with_reducible assumption) | (with_reducible refine Below.drew ?_) | (with_reducible refine below_drewN ?_ _) | (with_reducible refine Below.alloc ?_ ?_ _) | (with_reducible refine Below.setCell ?_ ?_ _) | (with_reducible refine Below.step (by assumption) ?_ ?_))); all_goals (first | omega | (simp; done) | (simp; omega))⟩
  · have hwin := winB_true.1 hw
    have hn12 := hwin.2.1
    have hl20 := hwin.2.2.1
    have HLB : Hid (∀ j : Nat, j < ls.length → (0 ≤ (ndI ls j).1 ∧ (ndI ls j).1 < 12) ∧ 0 ≤ (ndI ls j).2 ∧ (ndI ls j).2 < 12) := Lib.hid (fun j hj => win_leads hwin j hj)
    have HJ : Hid (bj (pL ns ls ls.length) = (windowS ns ls).data.toList ∧ (windowS ns ls).size ≤ 1048576) := Lib.hid (by
      have e : windowS ns ls = lT ns ls ls.length := by simp [windowS, hw]
      rw [e]
      refine ⟨bj_all ns ls _, ?_⟩
      have := lT_size ns ls (fun j hj => by have := win_leads hwin j hj; omega) ls.length (Nat.le_refl _)
      omega)
    clear hwin
    obtain ⟨An, cn, rfl, hcn, hmn, hcelln⟩ := hn.formI
    obtain ⟨Al, cl, rfl, hcl, hml, hcelll⟩ := hl.formI
    obtain ⟨i0, hi, iz0, iz1, iz2⟩ := info_parts infoStr
    unfold maxLen at hmn hml
    have HCN := Lib.hid hcelln
    have HCL := Lib.hid hcelll
    clear hcelln hcelll
    go_enter Tryd.func21, Tryd.ntmps21
    go_wp2_with fail
    refine (iWinOk_at _ _ ns ls _ _ (hn.below (by (repeat' (first | (with_reducible exact Below.refl _ _) | (with_reducible assumption) | (with_reducible refine Below.drew ?_) | (with_reducible refine below_drewN ?_ _) | (with_reducible refine Below.alloc ?_ ?_ _) | (with_reducible refine Below.setCell ?_ ?_ _) | (with_reducible refine Below.step (by assumption) ?_ ?_))); all_goals (first | omega | (simp; done) | (simp; omega)))) (hl.below (by (repeat' (first | (with_reducible exact Below.refl _ _) | (with_reducible assumption) | (with_reducible refine Below.drew ?_) | (with_reducible refine below_drewN ?_ _) | (with_reducible refine Below.alloc ?_ ?_ _) | (with_reducible refine Below.setCell ?_ ?_ _) | (with_reducible refine Below.step (by assumption) ?_ ?_))); all_goals (first | omega | (simp; done) | (simp; omega)))) hw).mono ?_
    rintro e w1 ⟨rfl, hb1⟩
    have hz1 := hb1.size
    simp at hz1
    have hA1 : Blk w1 w.heap.size 51 #[.slice An ns.length cn, .slice Al ls.length cl] := Blk.below (Blk.newAt rfl) hb1 (by first | omega | (simp; done) | (simp; omega))
    have hbw1 : Below w.heap.size w w1 := by (repeat' (first | (with_reducible exact Below.refl _ _) | (with_reducible assumption) | (with_reducible refine Below.drew ?_) | (with_reducible refine below_drewN ?_ _) | (with_reducible refine Below.alloc ?_ ?_ _) | (with_reducible refine Below.setCell ?_ ?_ _) | (with_reducible refine Below.step (by assumption) ?_ ?_))); all_goals (first | omega | (simp; done) | (simp; omega))
    clear hb1
    (have a_0 := hA1.cell 0); (have a_1 := hA1.cell 1); simp only [List.getElem?_toArray, List.getElem?_cons_succ, List.getElem?_cons_zero] at a_0 a_1
    go_wp2
    go_loopw [3, 14] (fun v i wr => ∃ j : Nat, j ≤ ns.length ∧ i = .int .i64 j ∧ OwnS (w.heap.size + 1) wr v (pN ns j) ∧ Blk wr w.heap.size 51 #[.slice An ns.length cn, .slice Al ls.length cl] ∧ Below w.heap.size w wr) (fun _ i _ => ns.length - (intOf i).toNat)
    case atStart => exact ⟨0, Nat.zero_le _, rfl, World.ownsRow_nil _ _ _ _, hA1, hbw1⟩
    case round =>
      obtain ⟨j, hj, rfl, ho, hA, hbl⟩ := hrel
      have hsz := hbl.size
      have hAl := hA.lt
      have hpl := pN_len ns j
      clear hA1 hbw1 a_0 a_1
      by_cases hlt : j < ns.length
      · obtain ⟨b, off, rfl, hb, hcl'⟩ := HCN.out (by omega)
        obtain ⟨k0, k1⟩ := hcl' j hlt
        have q0 := (hbl.cell (p := ⟨b, off + j * 2, none⟩) hb).trans k0
        have q1 := (hbl.cell (p := ⟨b, off + j * 2 + 1, none⟩) hb).trans k1
        clear k0 k1 hcl'
        have HSC : Hid (pN ns (j + 1) = pN ns j ++ [nodeS (ndI ns j).1 (ndI ns j).2]) := Lib.hid rfl
        obtain ⟨T, hT⟩ : ∃ T, nodeS (ndI ns j).1 (ndI ns j).2 = T := ⟨_, rfl⟩
        rw [hT] at HSC
        have HT := Lib.hid hT
        clear hT
        have hpl' : (pN ns j).length ≤ 1048576 := by omega
        clear hpl
        generalize pN ns j = xs at *
        generalize (ndI ns j).1 = x at *
        generalize (ndI ns j).2 = y at *
        go_wp2_with fail
        refine (iNodeText_any _ _ _).mono ?_
        rw [HT.out]
        rintro e w2 ⟨rfl, hb2⟩
        have hz2 := hb2.size
        simp at hz2
        have ho2 := (ho.alloc (.cells #[.int .i64 x, .int .i64 y] 25)).kept hb2
        have hA2 := (hA.alloc (.cells #[.int .i64 x, .int .i64 y] 25)).below hb2 (by first | omega | (simp; done) | (simp; omega))
        have hbw2 : Below w.heap.size w w2 := (hbl.alloc hsz (.cells #[.int .i64 x, .int .i64 y] 25)).trans (hb2.mono (by simp; omega))
        have hlt2 := ho2.lt
        clear hb2 hA hbl ho q0 q1
        go_wp2_with (at_builtin; refine wpList_append_s1 rfl _ _ rfl (w.heap.size + 1) i0 hi iz0 iz1 iz2 _ xs T rfl w2.heap.size rfl (by simp [go_sem]) (ho2.alloc _) hpl' (by simp; omega) ?_)
        intro v3 w3 ho3 hg3
        have hz3 := hg3.size
        simp at hz3
        have hA3 := (hA2.alloc (.cells #[.string T] 9)).grownR hg3 (fun k hk => by have := (hlt2 k hk).1; omega)
        have hbw3 : Below w.heap.size w w3 := (hbw2.alloc hbw2.size (.cells #[.string T] 9)).grown hg3 (by simp; omega) (fun k hk => by have := (hlt2 k hk).1; omega)
        have HO3 := Lib.hid ho3
        clear hA2 hbw2 ho2 hg3 ho3
        go_wp2
        go_roundw
        case rel => exact ⟨j + 1, by omega, by go_num, by rw [HSC.out]; exact HO3.out, hA3, hbw3⟩
        case measure => simp [intOf]; omega
      · have hjj : j = ns.length := by omega
        subst hjj
        have HST : Hid (pL ns ls 0 = pN ns ns.length ++ [⟨#[124]⟩]) := Lib.hid rfl
        obtain ⟨xs, hxs⟩ : ∃ xs, xs = pN ns ns.length := ⟨_, rfl⟩
        rw [← hxs] at ho hpl HST
        clear hxs
        have hpl' : xs.length ≤ 1048576 := by omega
        clear hpl
        have hlt2 := ho.lt
        go_wp2_with (at_builtin; refine wpList_append_s1 rfl _ _ rfl (w.heap.size + 1) i0 hi iz0 iz1 iz2 _ xs ⟨#[124]⟩ rfl wr.heap.size rfl (by simp [go_sem]) (ho.alloc _) hpl' (by simp; omega) ?_)
        intro v3 w3 ho3 hg3
        have hz3 := hg3.size
        simp at hz3
        have hA3 : Blk w3 _ _ _ := Blk.grownR (hA.alloc (.cells #[.string ⟨#[124]⟩] 9)) hg3 (fun k hk => by have := (hlt2 k hk).1; omega)
        have hbw3 : Below w.heap.size w w3 := (hbl.alloc hbl.size (.cells #[.string ⟨#[124]⟩] 9)).grown hg3 (by simp; omega) (fun k hk => by have := (hlt2 k hk).1; omega)
        rw [← HST.out] at ho3
        clear hA hbl ho hg3 HST hpl' hsz hAl hlt hj hlt2
        (have a_0 := hA3.cell 0); (have a_1 := hA3.cell 1); simp only [List.getElem?_toArray, List.getElem?_cons_succ, List.getElem?_cons_zero] at a_0 a_1
        go_wp2
        go_loopw [3, 30] (fun v i wr => ∃ j : Nat, j ≤ ls.length ∧ i = .int .i64 j ∧ OwnS (w.heap.size + 1) wr v (pL ns ls j) ∧ Blk wr w.heap.size 51 #[.slice An ns.length cn, .slice Al ls.length cl] ∧ Below w.heap.size w wr) (fun _ i _ => ls.length - (intOf i).toNat)
        case atStart => exact ⟨0, Nat.zero_le _, rfl, ho3, hA3, hbw3⟩
        case round =>
          obtain ⟨j, hj, rfl, ho, hA, hbl⟩ := hrel
          have hsz := hbl.size
          have hAl := hA.lt
          have hpl := pL_len ns ls j
          clear hA3 hbw3 a_0 a_1 ho3
          by_cases hlt : j < ls.length
          · obtain ⟨b, off, rfl, hb, hcl'⟩ := HCL.out (by omega)
            obtain ⟨k0, k1⟩ := hcl' j hlt
            have q0 := (hbl.cell (p := ⟨b, off + j * 2, none⟩) hb).trans k0
            have q1 := (hbl.cell (p := ⟨b, off + j * 2 + 1, none⟩) hb).trans k1
            clear k0 k1 hcl'
            have HSC : Hid (pL ns ls (j + 1) = pL ns ls j ++ [dS (ndI ls j).1 ++ ⟨#[45]⟩ ++ dS (ndI ls j).2]) := Lib.hid rfl
            obtain ⟨⟨f0, f1⟩, t0, t1⟩ := HLB.out j hlt
            have x1 := dS_size (ndI ls j).1 (by omega)
            have x2 := dS_size (ndI ls j).2 (by omega)
            have hpl' : (pL ns ls j).length ≤ 1048576 := by omega
            clear hpl
            generalize pL ns ls j = xs at *
            generalize (ndI ls j).1 = f at *
            generalize (ndI ls j).2 = t at *
            have z1 : (dS f).size + 1 ≤ 9223372036854775807 := by omega
            have z2 : (dS f).size + 1 + (dS t).size ≤ 9223372036854775807 := by omega
            have hlo := ho.lt
            have hLB : Blk (wr.alloc (.cells #[.int .i64 f, .int .i64 t] 66)) wr.heap.size 66 #[.int .i64 f, .int .i64 t] := Blk.newAt rfl
            have HLB2 := Lib.hid hLB
            clear hLB
            go_wp2_with fail
            refine region_D (n := 11) (S := fun w' => w'.cell? ⟨wr.heap.size, 0, none⟩ = some (.int .i64 f) ∧ w'.cell? ⟨wr.heap.size, 1, none⟩ = some (.int .i64 t)) (by kernel_rfl) ⟨by simp, by simp⟩ (fun hS => ?_)
            (refine D_take (i := 0) (v := ?_) rfl rfl (by kernel_rfl) (by kernel_rfl) (by kernel_rfl) (by kernel_rfl) (fun _ _ _ h => h) (Or.inl ⟨by rfl, ?_⟩) (by assumption) ?_); rotate_left; (focus (intro w' hSw; (try dsimp only at hSw); go_simp; (try with_reducible rfl))); (try simp only [Act.put, List.setIfInBounds_toArray, List.set_cons_zero, List.set_cons_succ])
            (refine D_take (i := 1) (v := ?_) rfl rfl (by kernel_rfl) (by kernel_rfl) (by kernel_rfl) (by kernel_rfl) (fun _ _ _ h => h) (Or.inl ⟨by rfl, ?_⟩) (by assumption) ?_); rotate_left; (focus (intro w' hSw; (try dsimp only at hSw); go_simp; (try with_reducible rfl))); (try simp only [Act.put, List.setIfInBounds_toArray, List.set_cons_zero, List.set_cons_succ])
            (refine D_take (i := 2) (v := ?_) rfl rfl (by kernel_rfl) (by kernel_rfl) (by kernel_rfl) (by kernel_rfl) (fun _ _ _ h => h) (Or.inl ⟨by rfl, ?_⟩) (by assumption) ?_); rotate_left; (focus (intro w' hSw; (try dsimp only at hSw); go_simp; (try with_reducible rfl))); (try simp only [Act.put, List.setIfInBounds_toArray, List.set_cons_zero, List.set_cons_succ])
            (refine D_take (i := 5) (v := ?_) rfl rfl (by kernel_rfl) (by kernel_rfl) (by kernel_rfl) (by kernel_rfl) (fun _ _ _ h => h) (Or.inl ⟨by rfl, ?_⟩) (by assumption) ?_); rotate_left; (focus (intro w' hSw; (try dsimp only at hSw); go_simp; (try with_reducible rfl))); (try simp only [Act.put, List.setIfInBounds_toArray, List.set_cons_zero, List.set_cons_succ])
            (refine D_take (i := 6) (v := ?_) rfl rfl (by kernel_rfl) (by kernel_rfl) (by kernel_rfl) (by kernel_rfl) (fun _ _ _ h => h) (Or.inl ⟨by rfl, ?_⟩) (by assumption) ?_); rotate_left; (focus (intro w' hSw; (try dsimp only at hSw); go_simp; (try with_reducible rfl))); (try simp only [Act.put, List.setIfInBounds_toArray, List.set_cons_zero, List.set_cons_succ])
            (refine D_step (i := 3) rfl (by kernel_rfl) (fun K hK => ?_)); (rw [if_pos (by rfl)])
            go_simp
            go_at_call 26
            refine (iFmtW_any _ f0 (by omega) _).mono ?_
            rintro e w5 ⟨rfl, rfl⟩
            go_wp2_with fail
            refine hK _ _ (fun _ => hS) (fun _ => ?_)
            clear hK K
            (try simp only [Act.put, List.setIfInBounds_toArray, List.set_cons_zero, List.set_cons_succ])
            (refine D_take (i := 4) (v := ?_) rfl rfl (by kernel_rfl) (by kernel_rfl) (by kernel_rfl) (by kernel_rfl) (fun _ _ _ h => h) (Or.inl ⟨by rfl, ?_⟩) (by assumption) ?_); rotate_left; (focus (intro w' hSw; (try dsimp only at hSw); go_simp; (try with_reducible rfl))); (try simp only [Act.put, List.setIfInBounds_toArray, List.set_cons_zero, List.set_cons_succ])
            · refine if_neg ?_
              omega
            (try simp only [Act.put, List.setIfInBounds_toArray, List.set_cons_zero, List.set_cons_succ])
            (refine D_step (i := 7) rfl (by kernel_rfl) (fun K hK => ?_)); (rw [if_pos (by rfl)])
            go_simp
            go_at_call 26
            refine (iFmtW_any _ t0 (by omega) _).mono ?_
            rintro e w5 ⟨rfl, rfl⟩
            go_wp2_with fail
            refine hK _ _ (fun _ => hS) (fun _ => ?_)
            clear hK K
            (try simp only [Act.put, List.setIfInBounds_toArray, List.set_cons_zero, List.set_cons_succ])
            (refine D_take (i := 8) (v := ?_) rfl rfl (by kernel_rfl) (by kernel_rfl) (by kernel_rfl) (by kernel_rfl) (fun _ _ _ h => h) (Or.inl ⟨by rfl, ?_⟩) (by assumption) ?_); rotate_left; (focus (intro w' hSw; (try dsimp only at hSw); go_simp; (try with_reducible rfl))); (try simp only [Act.put, List.setIfInBounds_toArray, List.set_cons_zero, List.set_cons_succ])
            · refine if_neg ?_
              omega
            (try simp only [Act.put, List.setIfInBounds_toArray, List.set_cons_zero, List.set_cons_succ])
            (refine D_step (i := 9) rfl (by kernel_rfl) (fun K hK => ?_)); (rw [if_pos (by rfl)])
            go_simp
            refine hK _ _ (fun _ => ⟨(HLB2.out.alloc _).cell 0, (HLB2.out.alloc _).cell 1⟩) (fun hS' => ?_)
            have hS2 := hS' (by decide)
            clear hK K hS hS'
            (try simp only [Act.put, List.setIfInBounds_toArray, List.set_cons_zero, List.set_cons_succ])
            (refine D_step (i := 10) rfl (by kernel_rfl) (fun K hK => ?_))
            refine step_append_s1 rfl _ _ rfl (w.heap.size + 1) i0 hi iz0 iz1 iz2 _ xs (dS f ++ ⟨#[45]⟩ ++ dS t) rfl (wr.heap.size + 1) rfl (by simp [go_sem]) (((ho.alloc _).alloc _).drew) hpl' (by simp; omega) ?_
            intro v3 w3 ho3 hg3
            have hz3 := hg3.size
            simp at hz3
            have hA3 : Blk w3 _ _ _ := Blk.grownR ((((hA.alloc (.cells #[.int .i64 f, .int .i64 t] 66)).alloc (.cells #[.string (dS f ++ ⟨#[45]⟩ ++ dS t)] 9))).drew) hg3 (fun k hk => by have := (hlo k hk).1; omega)
            have hL3 : Blk w3 _ _ _ := Blk.grownR ((HLB2.out.alloc (.cells #[.string (dS f ++ ⟨#[45]⟩ ++ dS t)] 9)).drew) hg3 (fun k hk => by have := (hlo k hk).2; omega)
            have hbw3 : Below w.heap.size w w3 := (((hbl.alloc hsz (.cells #[.int .i64 f, .int .i64 t] 66)).alloc (by simp; omega) (.cells #[.string (dS f ++ ⟨#[45]⟩ ++ dS t)] 9)).drew).grown hg3 (by simp; omega) (fun k hk => by have := (hlo k hk).1; omega)
            refine hK _ _ (fun _ => ⟨hL3.cell 0, hL3.cell 1⟩) (fun hS' => ?_)
            have hS3 := hS' (by decide)
            have HO3 := Lib.hid ho3
            clear hK K hS2 hS' hg3 ho3 hL3 HLB2 ho hA hbl q0 q1
            (try simp only [Act.put, List.setIfInBounds_toArray, List.set_cons_zero, List.set_cons_succ])
            (refine D_step (i := 11) rfl (by kernel_rfl) (fun K hK => ?_)); (rw [if_pos (by rfl)])
            go_simp
            refine hK _ _ (fun h => absurd rfl h) (fun _ => ?_)
            clear hK K hS3
            (try simp only [Act.put, List.setIfInBounds_toArray, List.set_cons_zero, List.set_cons_succ])
            refine D_done (by kernel_rfl) ?_ _
            go_wp2
            go_roundw
            case rel => exact ⟨j + 1, by omega, by go_num, by rw [HSC.out]; exact HO3.out, hA3, hbw3⟩
            case measure => simp [intOf]; omega
          · have hjj : j = ls.length := by omega
            subst hjj
            have hpos : 0 < (pL ns ls ls.length).length := by omega
            have hlen : (pL ns ls ls.length).length ≤ 1048576 := by omega
            clear hpl
            go_wp2_with fail
            refine (join_own (windowS ns ls) ho hpos hlen HJ.out.1 HJ.out.2).mono ?_
            rintro e w4 ⟨rfl, hb4⟩
            have hbw4 := hbl.trans (hb4.mono hsz)
            clear hb4 hA ho
            go_wp2
            go_ret
            exact ⟨rfl, hbw4⟩

end Go.Proofs.YtoghnlcnacocgaaDoor
