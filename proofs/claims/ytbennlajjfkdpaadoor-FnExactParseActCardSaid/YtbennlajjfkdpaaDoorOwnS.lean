/-
  Rows of strings: own, appended to, joined by spaces.
-/
import Derived.Test.YtbennlajjfkdpaaDoorOwn
import Derived.Test.YtbennlajjfkdpaaDoorBlk
import Derived.Test.YtbennlajjfkdpaaDoorJtxt
import Derived.Test.YtbennlajjfkdpaaDoorLast
import Derived.Lib.Join
import Derived.Deep.RegionHeld3
import Derived.Laws.AppendOwn
import Derived.Maps.AppendAt
set_option linter.unusedSimpArgs false
set_option linter.unusedVariables false
namespace Go.Proofs.YtbennlajjfkdpaaDoor
open Go.RowKit

/-- A row of strings of one's own. -/
def OwnS (base : Nat) (w : World) (v : Value) (xs : List ByteArray) : Prop := w.ownsRow base 9 1 v xs.length (xs.map Value.string)

theorem OwnS.kept {base : Nat} {w w' : World} {v : Value} {xs : List ByteArray} (h : OwnS base w v xs) (hb : Below w.heap.size w w') : OwnS base w' v xs := own_kept h hb
theorem OwnS.alloc {base : Nat} {w : World} {v : Value} {xs : List ByteArray} (h : OwnS base w v xs) (o : Obj) : OwnS base (w.alloc o) v xs := World.ownsRow.alloc h o
theorem OwnS.lt {base : Nat} {w : World} {v : Value} {xs : List ByteArray} (h : OwnS base w v xs) : ∀ k, v.ownBlock = some k → base ≤ k ∧ k < w.heap.size := World.ownsRow.lt h
theorem OwnS.drew {base : Nat} {w : World} {v : Value} {xs : List ByteArray} (h : OwnS base w v xs) : OwnS base w.drew v xs := h

theorem infoStr : (Tryd.prog.info? 9).map (fun i => (i.zero, i.size, i.bytes)) = some (some (.string ⟨#[]⟩), 1, 16) := by kernel_rfl

theorem own_s1 {base : Nat} {w' : World} {v' : Value} {xs : List ByteArray} {st : ByteArray} (h : w'.ownsRow base 9 1 v' (xs.length + 1) (xs.map Value.string ++ [.string st])) : OwnS base w' v' (xs ++ [st]) := by
  unfold OwnS
  rw [List.length_append, List.map_append]
  exact h

/-- One string behind a row of one's own. -/
theorem wpList_append_s1 {w : World} {ops : Array Oper} {rest : List Oper} {o : Oper} {a : Act} {Q : Exit → Act → World → Prop} (hgd : o.guard = none) (s x : Operand)
    (ho : o.op = .call { callee := .builtin .append, args := #[s, x], argTypes := #[36, 36] })
    (base : Nat) (i : TypeInfo) (hi : Tryd.prog.info? 9 = some i) (hz : i.zero = some (.string ⟨#[]⟩)) (hsize : i.size = 1) (hby : i.bytes = 16)
    (v : Value) (xs : List ByteArray) (st : ByteArray) (hs : a.eval s = v) (g : Nat) (hx : a.eval x = .slice (some ⟨g, 0, none⟩) 1 1) (hg : w.cell? ⟨g, 0, none⟩ = some (.string st))
    (hown : OwnS base w v xs) (hlen : xs.length ≤ 1048576) (hbase : base ≤ w.heap.size)
    (h : ∀ v' w', OwnS base w' v' (xs ++ [st]) → w.grownBy w' v.ownBlock → wpList Tryd.prog ops Q rest (a.put o.dst v') w') : wpList Tryd.prog ops Q (o :: rest) a w :=
  wpList_append_own w hgd s x 36 ho base 9 i (.string ⟨#[]⟩) 1 16 Tryd.underlying36 hi hz hsize hby rfl (by decide) v xs.length _ hs hown ⟨g, 0, none⟩ 1 1 [.string st] hx rfl
    (fun j u hj => by
      match j, hj with
      | 0, hj => cases hj; exact hg
      | j + 1, hj => simp at hj)
    (by intro u hu; simp at hu; subst hu; rfl) (by unfold maxLen; omega) (by omega) hbase fun v' w' h2 h3 _ => h v' w' (own_s1 h2) h3

/-- In a region whose order is drawn. -/
theorem step_append_s1 {w : World} {ops : Array Oper} {o : Oper} {a : Act} {K : Act → World → Prop} {Q : Exit → Act → World → Prop} {E : Prop} (hgd : o.guard = none) (s x : Operand)
    (ho : o.op = .call { callee := .builtin .append, args := #[s, x], argTypes := #[36, 36] })
    (base : Nat) (i : TypeInfo) (hi : Tryd.prog.info? 9 = some i) (hz : i.zero = some (.string ⟨#[]⟩)) (hsize : i.size = 1) (hby : i.bytes = 16)
    (v : Value) (xs : List ByteArray) (st : ByteArray) (hs : a.eval s = v) (g : Nat) (hx : a.eval x = .slice (some ⟨g, 0, none⟩) 1 1) (hg : w.cell? ⟨g, 0, none⟩ = some (.string st))
    (hown : OwnS base w v xs) (hlen : xs.length ≤ 1048576) (hbase : base ≤ w.heap.size)
    (h : ∀ v' w', OwnS base w' v' (xs ++ [st]) → w.grownBy w' v.ownBlock → K (a.put o.dst v') w') :
    if Region.wanted o (yielded ops a.tmps) = true then Oper.wp Tryd.prog o a w K Q else E := by
  have hw : Region.wanted o (yielded ops a.tmps) = true := by simp [Region.wanted, hgd]
  rw [if_pos hw]
  exact wp_append_own w s x 36 ho base 9 i (.string ⟨#[]⟩) 1 16 Tryd.underlying36 hi hz hsize hby rfl (by decide) v xs.length _ hs hown ⟨g, 0, none⟩ 1 1 [.string st] hx rfl
    (fun j u hj => by
      match j, hj with
      | 0, hj => cases hj; exact hg
      | j + 1, hj => simp at hj)
    (by intro u hu; simp at hu; subst hu; rfl) (by unfold maxLen; omega) (by omega) hbase fun v' w' h2 h3 _ => h v' w' (own_s1 h2) h3

def bj (xs : List ByteArray) : List UInt8 := Lib.join (xs.map (·.data.toList)) [32]

theorem bj_snoc (xs : List ByteArray) (y : ByteArray) : bj (xs ++ [y]) = (if xs = [] then [] else bj xs ++ [32]) ++ y.data.toList := by
  cases xs with
  | nil => simp [bj, Lib.join_one]
  | cons x r =>
    rw [if_neg (by simp)]
    unfold bj
    rw [List.cons_append, List.map_cons, List.map_cons, Lib.join_cons, Lib.join_cons, List.map_append, Lib.joinTail, Lib.joinTail]
    simp

theorem join_own {base : Nat} {w : World} {v : Value} {xs : List ByteArray} (s : ByteArray) (h : OwnS base w v xs) (hpos : 0 < xs.length) (hlen : xs.length ≤ 1048576) (hs : bj xs = s.data.toList) (hsz : s.size ≤ 1048576) :
    Calls Tryd.prog 20 #[v, .string ⟨#[32]⟩] w fun e w' => e = .returned (.string s) ∧ Below w.heap.size w w' := by
  have hcell := fun (g : Nat) (n c : Nat) (hv : v = .slice (some ⟨g, 0, none⟩) n c) => World.ownsRow.cells h (g := g) (by rw [hv]; rfl)
  have hlt := h.lt
  rcases h.2 with ⟨rfl, h0⟩ | ⟨g, cap, cur, rfl, hbg, hg, hnc, hcm, hcs, htake⟩
  · omega
  · have hg' := (hlt g rfl).2
    refine (Tryd.strings_Join g 0 cap xs ⟨#[32]⟩ w (fun j x hj => ?_) hg' (by omega) hnc ?_).mono fun e w' ⟨he, hb⟩ => ⟨he.trans ?_, hb⟩
    · have := hcell g _ _ rfl j (.string x) (by rw [List.getElem?_map, hj]; rfl)
      rw [Addr.add_lit] at this
      exact this
    · show (bj xs).length ≤ _
      rw [hs, Array.length_toList]
      have : s.data.size = s.size := rfl
      omega
    · show Ending.returned (Value.string ⟨(bj xs).toArray⟩) = _
      rw [hs]

end Go.Proofs.YtbennlajjfkdpaaDoor
