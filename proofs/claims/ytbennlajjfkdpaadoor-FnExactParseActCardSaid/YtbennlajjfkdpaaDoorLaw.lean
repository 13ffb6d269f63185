/-
  From a walk to the row of a law: a law that returns true and leaves what was there alone meets its row, whatever its parameters are.
-/
import Derived.Test.YtbennlajjfkdpaaDoorBase
import Derived.Test.YtbennlajjfkdpaaDoorRows
import Derived.ProofKit
import Derived.OpenShut
import Derived.Lib.SmallJoins
import Derived.Carry
set_option linter.unusedSimpArgs false
set_option linter.unusedVariables false
namespace Go.Proofs.YtbennlajjfkdpaaDoor
open Go.ChangeShapes Go.WideShapes Go.ChangeAt Go.RowKit

theorem ownK : ownKnob Tryd.prog.godebug = none := by kernel_rfl

theorem laidOutK : laidOutB Tryd.prog = true := by kernel_rfl

theorem mapsRowedK : mapsRowed Tryd.prog = true := by kernel_rfl

def blankC : Char := Char.ofNat 32

def joinW : List (List Char) → List Char
  | [] => []
  | [w] => w
  | w :: v :: r => w ++ blankC :: joinW (v :: r)

theorem words_one : ∀ (w : List Char), (w.all fun c => c != blankC) = true → wordsSigns w = [w]
  | [], _ => rfl
  | c :: w, h => by
    simp only [List.all_cons, Bool.and_eq_true] at h
    have ih := words_one w h.2
    have hc : c ≠ blankC := by simpa using h.1
    unfold wordsSigns
    split
    · rename_i heq; cases heq
    · rename_i heq; injection heq with h1 _; exact absurd h1 hc
    · rename_i heq; injection heq with h1 h2; subst h1 h2; rw [ih]

theorem words_cons : ∀ (w r : List Char), (w.all fun c => c != blankC) = true → wordsSigns (w ++ blankC :: r) = w :: wordsSigns r
  | [], r, _ => rfl
  | c :: w, r, h => by
    simp only [List.all_cons, Bool.and_eq_true] at h
    have ih := words_cons w r h.2
    have hc : c ≠ blankC := by simpa using h.1
    rw [List.cons_append, wordsSigns.eq_def]
    split
    · rename_i heq; cases heq
    · rename_i heq; injection heq with h1 _; exact absurd h1 hc
    · rename_i heq; injection heq with h1 h2; subst h1 h2; rw [ih]

theorem words_join : ∀ (ws : List (List Char)), ws ≠ [] → (ws.all fun w => w.all fun c => c != blankC) = true → wordsSigns (joinW ws) = ws
  | [], h, _ => absurd rfl h
  | [w], _, h => by
    simp only [List.all_cons, List.all_nil, Bool.and_true] at h
    exact words_one w h
  | w :: v :: r, _, h => by
    rw [List.all_cons, Bool.and_eq_true] at h
    show wordsSigns (w ++ blankC :: joinW (v :: r)) = _
    rw [words_cons w _ h.1, words_join (v :: r) (by simp) h.2]

/-- The head of the program, word by word: the kernel need not take a long text apart. -/
def headW : List (List Char) :=
  [[104, 97, 114, 110, 101, 115, 115],
    [97, 55, 55, 57, 50, 55, 53, 98, 50, 53, 101, 102, 57, 99, 51, 53, 99, 98, 53, 97, 98, 98, 48, 56, 53, 55, 98, 100, 55, 55, 56, 51, 48, 54, 97, 52, 50, 54, 56, 102, 53, 52, 56, 51, 53, 55, 50, 55, 53, 54, 97, 97, 54, 99, 49, 51, 53, 56, 55, 55, 101, 99, 98, 100],
    [99, 117, 116],
    [97, 116],
    [108, 111, 111, 112, 46, 101, 120, 97, 109, 112, 108, 101, 47, 103, 48, 51, 51, 48, 51, 47, 108, 97, 119, 115, 46, 70, 110, 69, 120, 97, 99, 116, 80, 97, 114, 115, 101, 65, 99, 116],
    [108, 111, 111, 112, 46, 101, 120, 97, 109, 112, 108, 101, 47, 103, 48, 51, 51, 48, 51, 47, 108, 97, 119, 115, 46, 70, 110, 69, 120, 97, 99, 116, 82, 101, 97, 100, 87, 105, 110, 100, 111, 119]].map fun w => w.map Char.ofNat

theorem headK : wordsSigns Tryd.prog.initOrder.toList = headW := by
  have h : Tryd.prog.initOrder = String.ofList (joinW headW) := by kernel_rfl
  rw [h, String.toList_ofList]
  exact words_join headW (by decide) (by kernel_rfl)

theorem headWords : behindMainWord (wordsSigns Tryd.prog.initOrder.toList) = behindMainWord headW := by rw [headK]

theorem cutW : behindMainWord headW = "cut".toList :: headW.drop 3 := by kernel_rfl

theorem make_of {P : Program} {r : List (List Char)} (h : behindMainWord (wordsSigns P.initOrder.toList) = "cut".toList :: r) : P.make = some .cut := by
  unfold Program.make
  rw [h]
  show (if _ then _ else _) = _
  rw [if_neg (by decide), if_pos (by simp)]

theorem enter_of {P : Program} {r : List (List Char)} (h : behindMainWord (wordsSigns P.initOrder.toList) = "cut".toList :: r) (hs : stripLifts liftWords ("cut".toList :: r) = ([], "cut".toList :: r))
    (hd : P.doorFits [] = true) (hl : P.laysLater = false) (hb : P.bearsReflect = false) : P.mayEnter = true := by
  unfold Program.mayEnter
  rw [h]
  show (_ || _ || _) = true
  rw [hs, hd, hl, hb]
  simp only [Bool.or_eq_true]
  exact .inr (by simp)

theorem lifts_of {P : Program} {r : List (List Char)} (h : behindMainWord (wordsSigns P.initOrder.toList) = "cut".toList :: r) (hs : stripLifts liftWords ("cut".toList :: r) = ([], "cut".toList :: r)) : P.liftsFinal = false := by
  unfold Program.liftsFinal Program.headLifts
  rw [h, hs]
  have e : ("cut".toList == "carried".toList) = false := by decide
  simp [e]

theorem cutK : behindMainWord (wordsSigns Tryd.prog.initOrder.toList) = "cut".toList :: headW.drop 3 := headWords.trans cutW

theorem stripK : stripLifts liftWords ("cut".toList :: headW.drop 3) = ([], "cut".toList :: headW.drop 3) := by kernel_rfl

theorem doorK : Tryd.prog.doorFits [] = true := by kernel_rfl

theorem laterK : Tryd.prog.laysLater = false := by kernel_rfl

theorem reflectK : Tryd.prog.bearsReflect = false := by kernel_rfl

theorem mayEnterK : Tryd.prog.mayEnter = true := enter_of cutK stripK doorK laterK reflectK

theorem makeK : Tryd.prog.make = some .cut := make_of cutK

theorem liftsK : Tryd.prog.liftsFinal = false := lifts_of cutK stripK

theorem lift_eq {c : OpenClaim} (h : c.lifted = false) : (c.lifted == Tryd.prog.liftsFinal) = true := by rw [h, liftsK]; rfl

theorem make_eq {c : OpenClaim} (h : c.make = .cut) : (Tryd.prog.make == some c.make) = true := by rw [makeK, h]; rfl

section
variable {H : Type} {enc : TypeId × Value → H} {P : Program}

theorem trodAll_stays {ts : List TypeId} (hl : laidOutB P = true) {W W' : World} (hb : Below W.heap.size W W') {sp : Nat → Bool} :
    ∀ {vs : List Value} {ds : List (DataW H)} {ps : List MemPlace}, (∀ t ∈ ts, P.readableRec t = true ∧ t < P.types.size) →
      DataW.TrodAll enc P W 0 (fun _ => true) true ts vs ds ps → (∀ x ∈ ps, x.block < W.heap.size) → (∀ x ∈ ps, sp x.block = true) → DataW.TrodAll enc P W' 0 sp true ts vs ds ps := by
  induction ts with
  | nil =>
    intro vs ds ps _ h _ _
    obtain ⟨rfl, rfl, rfl⟩ := trodAll_nil h
    exact trodAll_mk0
  | cons t ts ih =>
    intro vs ds ps hr h hlt hsp
    obtain ⟨v, vs', d, ds', p, q, hargs, rfl, rfl, hd, hrest⟩ := trodAll_cons h
    subst hargs
    obtain ⟨h1, h2⟩ := hr t (by simp)
    refine trodAll_cons_mk ?_ (ih (fun t' ht' => hr t' (by simp [ht'])) hrest (fun x hx => hlt x (by simp [hx])) (fun x hx => hsp x (by simp [hx])))
    exact WideElems.Trod_stays hl h1 h2 hd (fun x hx => hb.same (hlt x (by simp [hx]))) (fun x hx => hsp x (by simp [hx]))

/-- The row's last step where only new memory has been laid. -/
theorem post_of_below {f : Func} {s : ChangeSpec} {apart fresh handsOn again : Bool} {W W' : World} {args : Array Value} {v : Value} {ds gs : List (DataW H)} {before pa pv : List MemPlace}
    (hW : DataW.Whole enc P f.params.toList s.vars apart W args.toList ds gs before)
    (hres : ∀ (b : Nat) (sp : Nat → Bool) (hd : Bool), DataW.TrodAll enc P W' b sp hd f.resultTypes.toList (v.resultList f.resultTypes.size) (s.fn H (ds ++ gs)).results [])
    (hargs : ∀ sp : Nat → Bool, (∀ p ∈ before, sp p.block = true) → DataW.TrodAll enc P W' 0 sp true f.params.toList args.toList (s.fn H (ds ++ gs)).args pa)
    (hvars : ∀ sp : Nat → Bool, (∀ p ∈ before, sp p.block = true) → DataW.TrodVars enc P W' sp s.vars (s.fn H (ds ++ gs)).vars pv)
    (hps : before = pa ++ pv) (hb : Below W.heap.size W W')
    (hok : ∀ (j : Nat) (t : TypeId) (r : Value), f.resultTypes[j]? = some t → (v.resultList f.resultTypes.size)[j]? = some r → Value.okWide P W' .any 0 t r) :
    s.post enc P f apart fresh handsOn again W args v W' := by
  have hlt : ∀ p ∈ before, p.block < W.heap.size := fun p hp => hW.lt p hp
  have hold : ∀ p ∈ before, (fun b => decide (b < W.heap.size)) p.block = true := fun p hp => by simpa using hlt p hp
  refine ⟨ds, gs, before, [], pa, pv, hW, hres _ _ _, hargs _ hold, hvars _ hold, World.keptBut_mono (fun p hp => ⟨hp, ?_⟩) (hb.frame (· ∈ before)), fun _ => ?_⟩
  · rw [hps, List.mem_append] at hp
    exact Or.inr hp
  · obtain ⟨_, _, _, _, _, hz, hn⟩ := hW
    refine ⟨hok, _, _, ([] ++ pa) ++ pv, ⟨[] ++ pa, pv, trodAll_append (hargs _ (fun _ _ => rfl)) (hres _ _ _), hvars _ (fun _ _ => rfl), rfl, ?_, ?_⟩, ?_⟩
    · intro b off hp
      have hin : MemPlace.cell b off ∈ before := by rw [hps]; simpa using hp
      rw [hb.frozen (hlt _ hin)]
      exact hz b off hin
    · intro ha
      have := hn ha
      rw [hps] at this
      simpa using this
    · intro p hp _
      rw [hps]
      simpa using hp

/-- A law's row: it returns true, its arguments read as they did. tb: the type bool. -/
theorem law_post {f : Func} {s : ChangeSpec} {apart fresh handsOn again : Bool} {W W' : World} {args : Array Value} {ds gs : List (DataW H)} {before : List MemPlace} {tb : TypeId}
    (hl : laidOutB P = true) (ht : P.underlying tb = some .bool) (hrt : f.resultTypes = #[tb]) (hv : s.vars = [])
    (hfn : ∀ ds : List (DataW H), ds.length = f.params.size → s.fn H (ds ++ []) = { results := [.lit (.bool true)], args := ds })
    (hp : ∀ t ∈ f.params.toList, P.readableRec t = true ∧ t < P.types.size)
    (hW : DataW.Whole enc P f.params.toList s.vars apart W args.toList ds gs before) (hlen : ds.length = f.params.size) (hb : Below W.heap.size W W') : s.post enc P f apart fresh handsOn again W args (.bool true) W' := by
  have hW' := hW
  obtain ⟨p, q, hA, hV, rfl, hfz, hnd⟩ := hW
  rw [hv] at hV
  obtain ⟨rfl, rfl⟩ := trodVars_none hV
  have hlt : ∀ x ∈ p, x.block < W.heap.size := fun x hx => hW'.lt x (by simp [hx])
  refine post_of_below (pa := p) (pv := []) hW' ?_ ?_ ?_ rfl hb ?_
  · intro b sp hd
    rw [hfn ds hlen, hrt]
    exact trodAll_mk1 (shut_bool ht true)
  · intro sp hsp
    rw [hfn ds hlen]
    exact trodAll_stays hl hb hp hA hlt (fun x hx => hsp x (by simp [hx]))
  · intro sp _
    rw [hfn ds hlen, hv]
    exact rfl
  · exact ok_one hrt rfl (okWide_bool_mk ht true)
end

end Go.Proofs.YtbennlajjfkdpaaDoor
