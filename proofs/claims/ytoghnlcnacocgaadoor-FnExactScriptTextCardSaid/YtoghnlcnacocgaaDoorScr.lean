/-
  A script's text: the plain words, and the program's side.
-/
import Derived.Test.YtoghnlcnacocgaaDoorActs
import Derived.Test.YtoghnlcnacocgaaDoorFact
set_option linter.unusedSimpArgs false
set_option linter.unusedVariables false
namespace Go.Proofs.YtoghnlcnacocgaaDoor
open Go.RowKit

theorem aName_len (k : Int) : (aName k).length ≤ 5 := by
  unfold aName
  repeat' split
  all_goals simp

theorem ba_size (l : List UInt8) : (⟨l.toArray⟩ : ByteArray).size = l.length := by simp [ByteArray.size]

theorem actS_size (k a b : Int) : (actS k a b).size ≤ 11 := by
  unfold actS
  split
  · rename_i h
    obtain ⟨_, ⟨a0, a1⟩, b0, b1⟩ := actB_bd h
    have h1 := aName_len k
    have h2 := dec_len a.toNat (by omega)
    have h3 := dec_len b.toNat (by omega)
    rw [ba_size, List.length_append, List.length_append]
    split <;> split <;> simp <;> omega
  · exact Nat.zero_le _

/-- The text of the first j acts. -/
def scr (l : List Ac) : Nat → ByteArray
  | 0 => ⟨#[]⟩
  | j + 1 => match l[j]? with
    | some r => scr l j ++ (actS r.k r.a r.b ++ ⟨#[10]⟩)
    | none => scr l j

theorem scr_succ (l : List Ac) (j : Nat) (h : j < l.length) : scr l (j + 1) = scr l j ++ (actS l[j].k l[j].a l[j].b ++ ⟨#[10]⟩) := by
  rw [scr, List.getElem?_eq_getElem h]

theorem scr_size (l : List Ac) : ∀ j, j ≤ l.length → (scr l j).size ≤ 12 * j
  | 0, _ => Nat.zero_le _
  | j + 1, h => by
    rw [scr_succ l j (by omega), ByteArray.size_append, ByteArray.size_append]
    have h1 := scr_size l j (by omega)
    have h2 := actS_size l[j].k l[j].a l[j].b
    have h3 : (⟨#[10]⟩ : ByteArray).size = 1 := rfl
    omega

def scriptB (l : List Ac) : Bool := decide (l.length ≤ 40) && l.all fun r => actB r.k r.a r.b
def scriptS (l : List Ac) : ByteArray := if scriptB l then scr l l.length else ⟨#[]⟩

theorem script_long {l : List Ac} (h : 40 < l.length) : scriptB l = false := by
  unfold scriptB
  rw [show decide (l.length ≤ 40) = false by simp; omega, Bool.false_and]

theorem script_bad {l : List Ac} {j : Nat} (h : j < l.length) (hb : actB l[j].k l[j].a l[j].b = false) : scriptB l = false := by
  unfold scriptB
  rw [Bool.and_eq_false_iff]
  right
  rw [List.all_eq_false]
  exact ⟨l[j], List.getElem_mem h, by rw [hb]; simp⟩

theorem script_all {l : List Ac} (h : l.length ≤ 40) (ha : (l.take l.length).all (fun r => actB r.k r.a r.b) = true) : scriptB l = true := by
  rw [List.take_length] at ha
  unfold scriptB
  rw [ha, Bool.and_true]
  simpa using h

theorem all_snoc {l : List Ac} {j : Nat} (h : j < l.length) (ha : (l.take j).all (fun r => actB r.k r.a r.b) = true) (hb : actB l[j].k l[j].a l[j].b = true) : (l.take (j + 1)).all (fun r => actB r.k r.a r.b) = true := by
  rw [List.take_succ_eq_append_getElem h, List.all_append, ha]
  simp [hb]

theorem script_no {l : List Ac} (h : scriptB l = false) : scriptS l = ⟨#[]⟩ := by simp [scriptS, h]

set_option maxHeartbeats 4000000 in
set_option maxRecDepth 100000 in
theorem iScript_any (v : Value) (l : List Ac) (w : World) (h : RA w v l) :
    Calls Tryd.prog 16 #[v] w fun e w' => e = .returned (.tuple #[.string (scriptS l), .bool (scriptB l)]) ∧ Below w.heap.size w w' := by
  obtain ⟨A, c, rfl, hc, hm, hcell⟩ := h.form
  unfold maxLen at hm
  clear h
  by_cases hbig : 40 < l.length
  · have HB := Lib.hid (script_long hbig)
    have HS := Lib.hid (script_no (script_long hbig))
    have hb' : (40 : Int) < (l.length : Int) := by omega
    clear hcell
    go_enter Tryd.func16, Tryd.ntmps16
    go_wp2
    exact bodyPost_ret (v := .tuple #[.string ⟨#[]⟩, .bool false]) (by simp [results, Tryd.results16, go_sem]) rfl ⟨by rw [HB.out, HS.out], Below.refl _ _⟩
  · have hb' : ¬ (40 : Int) < (l.length : Int) := by omega
    have hle : l.length ≤ 40 := by omega
    go_enter Tryd.func16, Tryd.ntmps16
    go_wp2
    go_loopw [4, 14] (fun s i wr => ∃ j : Nat, j ≤ l.length ∧ i = .int .i64 j ∧ s = .string (scr l j) ∧ Hid ((l.take j).all (fun r => actB r.k r.a r.b) = true) ∧ Below w.heap.size w wr) (fun _ i _ => l.length - (intOf i).toNat)
    case atStart => exact ⟨0, Nat.zero_le _, rfl, rfl, Lib.hid (by simp), Below.refl _ _⟩
    case round =>
      obtain ⟨j, hj, rfl, rfl, HALL, hbl⟩ := hrel
      have hsz := hbl.size
      have hss := scr_size l j hj
      by_cases hlt : j < l.length
      · obtain ⟨b, off, rfl, hb, hcl⟩ := hcell (by omega)
        obtain ⟨k0, k1, k2⟩ := hcl j hlt
        have q0 := (hbl.cell (p := ⟨b, off + j * 3, none⟩) hb).trans k0
        have q1 := (hbl.cell (p := ⟨b, off + j * 3 + 1, none⟩) hb).trans k1
        have q2 := (hbl.cell (p := ⟨b, off + j * 3 + 2, none⟩) hb).trans k2
        clear k0 k1 k2 hcl hcell
        have HSC := Lib.hid (scr_succ l j hlt)
        have hts := actS_size l[j].k l[j].a l[j].b
        obtain ⟨T, hT⟩ : ∃ T, actS l[j].k l[j].a l[j].b = T := ⟨_, rfl⟩
        rw [hT] at HSC hts
        have HT := Lib.hid hT
        clear hT
        cases hok : actB l[j].k l[j].a l[j].b
        · have HB := Lib.hid (script_bad hlt hok)
          have HS := Lib.hid (script_no (script_bad hlt hok))
          have HOK := Lib.hid hok
          clear hok
          go_wp2_with fail
          refine (iFact_any _ _ _ _).mono ?_
          rw [HT.out, HOK.out]
          rintro e w1 ⟨rfl, hb1⟩
          have hbw1 : Below w.heap.size w w1 := by
            have hx := hb1.size
            simp at hx
            exact Below.step hb1 (hbl.alloc hsz _) (by simp; omega)
          clear hb1
          go_wp2
          exact bodyPost_ret (v := .tuple #[.string ⟨#[]⟩, .bool false]) (by simp [results, Tryd.results16, go_sem]) rfl ⟨by rw [HB.out, HS.out], hbw1⟩
        · have HALL' := Lib.hid (all_snoc hlt HALL.out hok)
          have HOK := Lib.hid hok
          clear hok
          generalize scr l j = S at *
          have z1 : (T.size : Int) + 1 ≤ 9223372036854775807 := by omega
          have z2 : (S.size : Int) + ((T.size : Int) + 1) ≤ 9223372036854775807 := by omega
          go_wp2_with fail
          refine (iFact_any _ _ _ _).mono ?_
          rw [HT.out, HOK.out]
          rintro e w1 ⟨rfl, hb1⟩
          have hbw1 : Below w.heap.size w w1 := by
            have hx := hb1.size
            simp at hx
            exact Below.step hb1 (hbl.alloc hsz _) (by simp; omega)
          clear hb1
          go_wp2
          go_roundw
          case rel => exact ⟨j + 1, by omega, by go_num, by rw [HSC.out], HALL', hbw1⟩
          case measure => simp [intOf]; omega
      · have hjj : j = l.length := by omega
        subst hjj
        have HB := Lib.hid (script_all hle HALL.out)
        have HS : Hid (scriptS l = scr l l.length) := Lib.hid (by simp [scriptS, HB.out])
        clear hcell
        generalize scr l l.length = S at *
        go_wp2
        exact bodyPost_ret (v := .tuple #[.string S, .bool true]) (by simp [results, Tryd.results16, go_sem]) rfl ⟨by rw [HB.out, HS.out], hbl⟩

end Go.Proofs.YtoghnlcnacocgaaDoor
