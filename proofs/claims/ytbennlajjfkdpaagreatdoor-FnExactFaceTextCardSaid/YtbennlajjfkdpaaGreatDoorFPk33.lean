/- part 33 -/
import Derived.Test.YtbennlajjfkdpaaGreatDoorFPk32
import Derived.Lib.Join
import Derived.Deep.RegionHeld3
import Derived.Laws.AppendOwn
import Derived.Maps.AppendAt
set_option linter.unusedSimpArgs false
set_option linter.unusedVariables false
namespace Go.Proofs.YtbennlajjfkdpaaGreatDoor
open Go.RowKit
def fP (l : List Int) : Nat → List ByteArray
  | 0 => []
  | j + 1 => fP l j ++ [dS (l.getD j 0)]
def fT (l : List Int) : Nat → ByteArray
  | 0 => ⟨#[]⟩
  | j + 1 => (if j = 0 then ⟨#[]⟩ else fT l j ++ ⟨#[45]⟩) ++ dS (l.getD j 0)
theorem fP_len (l : List Int) : ∀ j, (fP l j).length = j
  | 0 => rfl
  | j + 1 => by rw [fP, List.length_append, fP_len l j]; rfl
theorem ba_zero : (⟨#[]⟩ : ByteArray).size = 0 := rfl
theorem fT_size (l : List Int) (h : ∀ j, j < l.length → l.getD j 0 < 100) : ∀ j, j ≤ l.length → (fT l j).size ≤ 3 * j
  | 0, _ => Nat.zero_le _
  | j + 1, hj => by
    have h1 := fT_size l h j (by omega)
    have h2 := dS_size _ (h j (by omega))
    have h3 : (⟨#[45]⟩ : ByteArray).size = 1 := rfl
    unfold fT
    rw [ByteArray.size_append]
    split
    · rw [ba_zero]; omega
    · rw [ByteArray.size_append]; omega
def bjm (xs : List ByteArray) : List UInt8 := Lib.join (xs.map (·.data.toList)) [45]
theorem bjm_snoc (xs : List ByteArray) (y : ByteArray) : bjm (xs ++ [y]) = (if xs = [] then [] else bjm xs ++ [45]) ++ y.data.toList := by
  cases xs with
  | nil => simp [bjm, Lib.join_one]
  | cons x r =>
    rw [if_neg (by simp)]
    unfold bjm
    rw [List.cons_append, List.map_cons, List.map_cons, Lib.join_cons, Lib.join_cons, List.map_append, Lib.joinTail, Lib.joinTail]
    simp
theorem bjm_all (l : List Int) : ∀ j, bjm (fP l j) = (fT l j).data.toList
  | 0 => rfl
  | j + 1 => by
    rw [fP, bjm_snoc, bjm_all l j, fT]
    by_cases h : j = 0
    · subst h
      simp [fP]
    · have h2 : ¬ fP l j = [] := fun hc => h (by have := congrArg List.length hc; rw [fP_len] at this; exact this)
      rw [if_neg h, if_neg h2]
      simp
noncomputable def faceS (ns ls : List Pr) (f : Int) : ByteArray := fT (paneN ns ls f) (paneN ns ls f).length
theorem paneN_bd {ns ls : List Pr} {f : Int} {j : Nat} (hj : j < (paneN ns ls f).length) : 0 ≤ (paneN ns ls f).getD j 0 ∧ (paneN ns ls f).getD j 0 < 12 := by
  cases h : inB f 0 (((facesW ns ls).length : Int) - 1)
  · rw [paneN_no h] at hj; simp at hj
  · obtain ⟨k, rfl⟩ : ∃ k : Nat, f = k := ⟨f.toNat, by have := inB_true.1 h; omega⟩
    have hk : k < (facesW ns ls).length := by have := inB_true.1 h; omega
    rw [paneN_yes hk] at hj ⊢
    obtain ⟨hw, hd, _, _⟩ := facesW_at hk
    rw [nodF_len] at hj
    generalize (facesW ns ls).getD k [] = F at *
    have e : (nodF ls F).getD j 0 = dFrom ls F[j] := by simp [nodF, nodK, List.getD, hj]
    rw [e]
    obtain ⟨t, ht, ht2⟩ := dFrom_nat (ns := ns) (fun j hj => (hw.2.2.2.2.2 j hj).1) (hd _ (List.getElem_mem hj))
    have := hw.2.1
    omega
end Go.Proofs.YtbennlajjfkdpaaGreatDoor

namespace Go.Proofs.YtbennlajjfkdpaaGreatDoor
open Go.RowKit
def OwnS (base : Nat) (w : World) (v : Value) (xs : List ByteArray) : Prop := w.ownsRow base 9 1 v xs.length (xs.map Value.string)
theorem OwnS.alloc {base : Nat} {w : World} {v : Value} {xs : List ByteArray} (h : OwnS base w v xs) (o : Obj) : OwnS base (w.alloc o) v xs := World.ownsRow.alloc h o
theorem OwnS.lt {base : Nat} {w : World} {v : Value} {xs : List ByteArray} (h : OwnS base w v xs) : ∀ k, v.ownBlock = some k → base ≤ k ∧ k < w.heap.size := World.ownsRow.lt h
theorem infoStr : (Tryz.prog.info? 9).map (fun i => (i.zero, i.size, i.bytes)) = some (some (.string ⟨#[]⟩), 1, 16) := by kernel_rfl
theorem own_s1 {base : Nat} {w' : World} {v' : Value} {xs : List ByteArray} {st : ByteArray} (h : w'.ownsRow base 9 1 v' (xs.length + 1) (xs.map Value.string ++ [.string st])) : OwnS base w' v' (xs ++ [st]) := by
  unfold OwnS
  rw [List.length_append, List.map_append]
  exact h
theorem wpList_append_s1 {w : World} {ops : Array Oper} {rest : List Oper} {o : Oper} {a : Act} {Q : Exit → Act → World → Prop} (hgd : o.guard = none) (s x : Operand)
    (ho : o.op = .call { callee := .builtin .append, args := #[s, x], argTypes := #[53, 53] })
    (base : Nat) (i : TypeInfo) (hi : Tryz.prog.info? 9 = some i) (hz : i.zero = some (.string ⟨#[]⟩)) (hsize : i.size = 1) (hby : i.bytes = 16)
    (v : Value) (xs : List ByteArray) (st : ByteArray) (hs : a.eval s = v) (g : Nat) (hx : a.eval x = .slice (some ⟨g, 0, none⟩) 1 1) (hg : w.cell? ⟨g, 0, none⟩ = some (.string st))
    (hown : OwnS base w v xs) (hlen : xs.length ≤ 1048576) (hbase : base ≤ w.heap.size)
    (h : ∀ v' w', OwnS base w' v' (xs ++ [st]) → w.grownBy w' v.ownBlock → wpList Tryz.prog ops Q rest (a.put o.dst v') w') : wpList Tryz.prog ops Q (o :: rest) a w :=
  wpList_append_own w hgd s x 53 ho base 9 i (.string ⟨#[]⟩) 1 16 Tryz.underlying53 hi hz hsize hby rfl (by decide) v xs.length _ hs hown ⟨g, 0, none⟩ 1 1 [.string st] hx rfl
    (fun j u hj => by
      match j, hj with
      | 0, hj => cases hj; exact hg
      | j + 1, hj => simp at hj)
    (by intro u hu; simp at hu; subst hu; rfl) (by unfold maxLen; omega) (by omega) hbase fun v' w' h2 h3 _ => h v' w' (own_s1 h2) h3
end Go.Proofs.YtbennlajjfkdpaaGreatDoor
