/-
  A script's text: the reference's side.
-/
import Derived.Test.YtoghnlcnacocgaaDoorScr
import Derived.Test.YtoghnlcnacocgaaDoorFactS
import Derived.Lib.AppendStr
import Derived.Lib.BufferRead
set_option linter.unusedSimpArgs false
set_option linter.unusedVariables false
namespace Go.Proofs.YtoghnlcnacocgaaDoor
open Go.RowKit Go.Lib

/-- A string's bytes behind a row of bytes of one's own. -/
theorem wpList_append_str {P : Program} {w : World} {ops : Array Oper} {rest : List Oper} {o : Oper} {a : Act} {Q : Exit → Act → World → Prop} (hgd : o.guard = none) (s x : Operand) (t u : TypeId)
    (ho : o.op = .call { callee := .builtin .append, args := #[s, x], argTypes := #[t, u] })
    (base : Nat) (e : TypeId) (i : TypeInfo) (ht : P.underlying t = some (.slice e)) (hu : P.underlying u = some .string) (hi : P.info? e = some i) (hz : i.zero = some (.int .u8 0)) (hsize : i.size = 1) (hby : i.bytes = 1)
    (v : Value) (st : ByteArray) (n : Nat) (xs : List Value) (hs : a.eval s = v) (hx : a.eval x = .string st) (hown : w.ownsRow base e 1 v n xs) (hlen : n + st.size ≤ 1048576) (hbase : base ≤ w.heap.size)
    (h : ∀ v' w', w'.ownsRow base e 1 v' (n + st.size) (xs ++ strCells st) → w.grownBy w' v.ownBlock → wpList P ops Q rest (a.put o.dst v') w') :
    wpList P ops Q (o :: rest) a w :=
  wpList_plain hgd fun K hK => by
    obtain ⟨v', w', hrun, h2, h3, _⟩ := run_append_own_string (P := P) w base t u o.type e i ht hu hi hz hsize hby v n xs hown st (by unfold maxLen; omega) (by omega) hbase
    unfold Oper.wp execOp
    simp only [ho, resolve, invoke, builtin, Sem.run_bind, Sem.run_pure, Result.andThen_ok, List.map_toArray, List.map_cons, List.map_nil, hs, hx, hrun]
    exact hK _ _ (h v' w' h2 h3)

theorem infoByte : (Tryd.prog.info? 5).map (fun i => (i.zero, i.size, i.bytes)) = some (some (.int .u8 0), 1, 1) := by kernel_rfl

theorem strCells_app (a b : ByteArray) : strCells (a ++ b) = strCells a ++ strCells b := by simp [strCells]

/-- The string that an own row of bytes reads as. -/
theorem conv_own {w : World} {base : Nat} {v : Value} {s : ByteArray} (h : w.ownsRow base 5 1 v s.size (strCells s)) :
    (convert 60 9 v).run Tryd.prog w = .ok (.string s) w := by
  have hcell := fun (g : Nat) (n c : Nat) (hv : v = .slice (some ⟨g, 0, none⟩) n c) => h.cells (g := g) (by rw [hv]; rfl)
  rcases h.2 with ⟨rfl, h0⟩ | ⟨g, cap, cur, rfl, hbg, hg, hnc, hcm, hcs, htake⟩
  · rw [run_convert_nil_bytes _ _ _ _ _ Tryd.underlying60 Tryd.underlying5 Tryd.underlying9]
    have : s = ⟨#[]⟩ := by
      cases s with | mk d =>
      have : d.size = 0 := h0
      rw [Array.eq_empty_of_size_eq_zero this]
    rw [this]
  · have e : s = ⟨s.data.toList.toArray⟩ := by cases s; simp
    have hs : s.size = s.data.toList.length := by rw [Array.length_toList]; rfl
    rw [hs]
    refine (run_convert_bytes_back w 60 9 5 ⟨g, 0, none⟩ cap s.data.toList Tryd.underlying60 Tryd.underlying5 Tryd.underlying9 (fun j hj => ?_)).trans (by rw [← e])
    have hjj := hcell g _ _ rfl j (.int .u8 (s.data.toList[j].toNat : Int)) (by
      unfold strCells
      rw [List.getElem?_map, List.getElem?_eq_getElem hj]
      rfl)
    exact hjj

set_option maxHeartbeats 4000000 in
set_option maxRecDepth 100000 in
theorem sScript_any (v : Value) (l : List Ac) (w : World) (h : RA w v l) :
    Calls Tryd.prog 14 #[v] w fun e w' => e = .returned (.tuple #[.string (scriptS l), .bool (scriptB l)]) ∧ Below w.heap.size w w' := by
  obtain ⟨A, c, rfl, hc, hm, hcell⟩ := h.form
  obtain ⟨i0, hi, iz0, iz1, iz2⟩ := info_parts infoByte
  unfold maxLen at hm
  clear h
  go_enter Tryd.func14, Tryd.ntmps14
  go_wp2
  go_loopw [4, 5] (fun s i wr => ∃ j : Nat, j ≤ l.length ∧ i = .int .i64 j ∧ wr.ownsRow w.heap.size 5 1 s (scr l j).size (strCells (scr l j)) ∧ Hid ((l.take j).all (fun r => actB r.k r.a r.b) = true ∧ (0 < j → l.length ≤ 40)) ∧ Below w.heap.size w wr) (fun _ i _ => l.length - (RowKit.intOf i).toNat)
  case atStart => exact ⟨0, Nat.zero_le _, rfl, World.ownsRow_made _ _ _ (Nat.le_refl _) (by simp [scr, strCells]) (by simp [maxLen]), Lib.hid ⟨by simp, fun h => by omega⟩, by (repeat' (first | (with_reducible exact Below.refl _ _) | (with_reducible assumption) | (with_reducible refine Below.drew ?_) | (with_reducible refine below_drewN ?_ _) | (with_reducible refine Below.alloc ?_ ?_ _) | (with_reducible refine Below.setCell ?_ ?_ _) | (with_reducible refine Below.step (by assumption) ?_ ?_))); all_goals (first | omega | (simp; done) | (simp; omega))⟩
  case round =>
    obtain ⟨j, hj, rfl, ho, HALL, hbl⟩ := hrel
    have hsz := hbl.size
    have hss := scr_size l j hj
    by_cases hlt : j < l.length
    · obtain ⟨b, off, rfl, hb, hcl⟩ := hcell (by omega)
      obtain ⟨k0, k1, k2⟩ := hcl j hlt
      have q0 := (hbl.cell (p := ⟨b, off + j * 3, none⟩) hb).trans k0
      have q1 := (hbl.cell (p := ⟨b, off + j * 3 + 1, none⟩) hb).trans k1
      have q2 := (hbl.cell (p := ⟨b, off + j * 3 + 2, none⟩) hb).trans k2
      clear k0 k1 k2 hcl hcell
      have HSC := Lib.hid (scr_succ l j hlt)
      have hts := actS_size l[j].k l[j].a l[j].b
      obtain ⟨T, hT⟩ : ∃ T, actS l[j].k l[j].a l[j].b = T := ⟨_, rfl⟩
      rw [hT] at HSC hts
      have HT := Lib.hid hT
      clear hT
      cases hok : actB l[j].k l[j].a l[j].b
      · have HB := Lib.hid (script_bad hlt hok)
        have HS := Lib.hid (script_no (script_bad hlt hok))
        have HOK := Lib.hid hok
        clear hok
        go_wp2_with fail
        refine (sFact_any _ _ _ _).mono ?_
        rw [HT.out, HOK.out]
        rintro e w1 ⟨rfl, hb1⟩
        have hbw1 : Below w.heap.size w w1 := hbl.trans (hb1.mono hsz)
        clear hb1
        go_wp2
        exact bodyPost_ret (v := .tuple #[.string ⟨#[]⟩, .bool false]) (by simp [results, Tryd.results14, go_sem]) rfl ⟨by rw [HB.out, HS.out], hbw1⟩
      · by_cases hbig : 40 < l.length
        · have HB := Lib.hid (script_long hbig)
          have HS := Lib.hid (script_no (script_long hbig))
          have hb' : (40 : Int) < (l.length : Int) := by omega
          have HOK := Lib.hid hok
          clear hok
          go_wp2_with fail
          refine (sFact_any _ _ _ _).mono ?_
          rw [HT.out, HOK.out]
          rintro e w1 ⟨rfl, hb1⟩
          have hbw1 : Below w.heap.size w w1 := hbl.trans (hb1.mono hsz)
          clear hb1
          go_wp2
          exact bodyPost_ret (v := .tuple #[.string ⟨#[]⟩, .bool false]) (by simp [results, Tryd.results14, go_sem]) rfl ⟨by rw [HB.out, HS.out], hbw1⟩
        · have hb' : ¬ (40 : Int) < (l.length : Int) := by omega
          have HALL' := Lib.hid (And.intro (all_snoc hlt HALL.out.1 hok) (fun (_ : 0 < j + 1) => (show l.length ≤ 40 by omega)))
          have HOK := Lib.hid hok
          clear hok
          generalize scr l j = S at *
          have z3 : T.size + 1 ≤ 9223372036854775807 := by omega
          go_wp2_with fail
          refine (sFact_any _ _ _ _).mono ?_
          rw [HT.out, HOK.out]
          rintro e w1 ⟨rfl, hb1⟩
          have hbw1 : Below w.heap.size w w1 := hbl.trans (hb1.mono hsz)
          have ho1 := own_kept ho hb1
          have hz1 := hb1.size
          clear hb1 ho hbl
          have h10 : (⟨#[10]⟩ : ByteArray).size = 1 := rfl
          have HTS2 : Hid ((T ++ ⟨#[10]⟩ : ByteArray).size ≤ 12) := Lib.hid (by rw [ByteArray.size_append, h10]; omega)
          clear h10
          have HO1 := Lib.hid ho1
          clear ho1
          go_wp2_with (at_builtin; refine wpList_append_str rfl _ _ _ _ rfl w.heap.size 5 i0 Tryd.underlying60 Tryd.underlying9 hi iz0 iz1 iz2 _ (T ++ ⟨#[10]⟩) S.size (strCells S) rfl rfl HO1.out (by have := HTS2.out; omega) (by omega) ?_)
          intro v2 w2 ho2 hg2
          have hbw2 : Below w.heap.size w w2 := hbw1.grown hg2 (by omega) (fun k hk => (World.ownsRow.lt HO1.out k hk).1)
          rw [← strCells_app, show S.size + (T.size + 1) = (S ++ (T ++ ⟨#[10]⟩) : ByteArray).size by rw [ByteArray.size_append, ByteArray.size_append]; rfl] at ho2
          have HO2 := Lib.hid ho2
          clear ho2 hg2 HO1 hbw1
          go_wp2
          go_roundw
          case rel => exact ⟨j + 1, by omega, by go_num, by rw [HSC.out]; exact HO2.out, HALL', hbw2⟩
          case measure => simp [RowKit.intOf]; omega
    · have hjj : j = l.length := by omega
      subst hjj
      have HB : Hid (scriptB l = true) := Lib.hid (script_all (by
        rcases Nat.eq_zero_or_pos l.length with h | h
        · omega
        · exact HALL.out.2 h) HALL.out.1)
      have HS : Hid (scriptS l = scr l l.length) := Lib.hid (by simp [scriptS, HB.out])
      clear hcell
      generalize scr l l.length = S at *
      have hconv := conv_own ho
      clear ho
      go_wp2
      exact bodyPost_ret (v := .tuple #[.string S, .bool true]) (by simp [results, Tryd.results14, go_sem]) rfl ⟨by rw [HB.out, HS.out], hbl⟩

end Go.Proofs.YtoghnlcnacocgaaDoor
