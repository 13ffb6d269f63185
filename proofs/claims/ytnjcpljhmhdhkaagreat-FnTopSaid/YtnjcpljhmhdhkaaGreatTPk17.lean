/- part 17 -/
import Derived.Test.YtnjcpljhmhdhkaaGreatTPk12
import Derived.Test.YtnjcpljhmhdhkaaGreatTPk15
set_option linter.unusedSimpArgs false
set_option linter.unusedVariables false
namespace Go.Proofs.YtnjcpljhmhdhkaaGreat
open Go.ChangeShapes Go.WideShapes Go.Deep Go.RowKit Go.Joins
structure St where
 D:Dr
 cs:List Int
 ds:List Dp
 fund:Int
@[reducible,simp] def s8_ (a b c d e f g:Option Addr) (i j k l m n o:Nat) (S:St):Array Value:=#[.slice a S.D.fn.length i,.slice b S.D.fl.length j,.slice c S.D.nn.length k,.slice d S.D.nl.length l,.slice e S.D.ss.length m,.slice f S.cs.length n,.slice g S.ds.length o,.int .i64 S.fund]
structure RSt (w:World) (a b c d e f g:Value) (S:St):Prop where
 dr:RD w a b c d e S.D
 cs:RI w f S.cs
 ds:RDp w g S.ds
theorem RSt.below {w w':World} {a b c d e f g:Value} {S:St} (h:RSt w a b c d e f g S) (hb:Below w.heap.size w w'):RSt w' a b c d e f g S:=
 ⟨h.dr.below hb,h.cs.below hb,h.ds.below hb⟩
section
variable {H:Type} {enc:TypeId×Value->H} {w:World} {base:Nat} {spare:Nat->Bool} {mz:Bool}
end
structure StLe (S:St):Prop where
 D:DrLe S.D
 cs:S.cs.length<=1048576
 ds:S.ds.length<=1048576
structure OwnSt (base:Nat) (w:World) (a b c d e f g:Value) (S:St) (fs:List SF):Prop where
 dr:OwnD base w a b c d e S.D fs
 cs:OwnI base w f S.cs
 ds:zx base w g S.ds
 d_c:∀k,qE a b c d e fs k->¬f.ownBlock=some k
 d_d:∀k,qE a b c d e fs k->¬g.ownBlock=some k
 c_d:∀k,f.ownBlock=some k->¬g.ownBlock=some k
def vp (a b c d e f g:Value) (fs:List SF) (k:Nat):Prop:=qE a b c d e fs k∨f.ownBlock=some k∨g.ownBlock=some k
section
variable {base:Nat} {w w':World} {a b c d e f g:Value} {S:St} {fs:List SF}
theorem OwnSt.lt (h:OwnSt base w a b c d e f g S fs) (k:Nat) (hk:vp a b c d e f g fs k):base<=k/\k<w.heap.size:=by
 rcases hk with hk|hk|hk
 ·exact h.dr.lt k hk
 ·exact h.cs.lt k hk
 ·exact World.ownsRow.lt h.ds k hk
theorem OwnSt.turned {T:Nat->Prop} (h:OwnSt base w a b c d e f g S fs) (hb:Turns T w w') (hs:∀k,vp a b c d e f g fs k->¬T k):OwnSt base w' a b c d e f g S fs:=
 ⟨h.dr.turned hb (fun k hk=>hs k (.inl hk)),yQ h.cs hb (fun k hk=>hs k (.inr (.inl hk))),yQ h.ds hb (fun k hk=>hs k (.inr (.inr hk))),h.d_c,h.d_d,h.c_d⟩
theorem OwnSt.kept (h:OwnSt base w a b c d e f g S fs) (hb:Below w.heap.size w w'):OwnSt base w' a b c d e f g S fs:=
 h.turned (T:=fun _=>False) (Turns.ofBelow hb) (fun _ _ h=>h)
theorem OwnSt.alloc (h:OwnSt base w a b c d e f g S fs) (o:Obj):OwnSt base (w.alloc o) a b c d e f g S fs:=h.kept ((aaj _ _).alloc (aaa _) o)
theorem OwnSt.setLow (h:OwnSt base w a b c d e f g S fs) {p:Addr} (hp:p.block<base) (u:Value):OwnSt base (w.setCell p u) a b c d e f g S fs:=
 h.turned (T:=fun b=>b=p.block) (Turns.ofGrown (jq w p u) (fun k hk=>by cases hk;rfl)) (fun k hk e=>by have:=(h.lt k hk).1;omega)
theorem zx.mono {base base':Nat} {w:World} {v:Value} {l:List Dp} (h:zx base w v l) (hb:base'<=base):zx base' w v l:=by
 obtain⟨h1,h2⟩:=h;refine⟨h1,?_⟩
 rcases h2 with h2|⟨g,cap,cur,e1,e2,e3⟩
 ·exact .inl h2
 ·exact .inr ⟨g,cap,cur,e1,aai hb e2,e3⟩
theorem OwnSt.mono {base':Nat} (h:OwnSt base w a b c d e f g S fs) (hb:base'<=base):OwnSt base' w a b c d e f g S fs:=
 ⟨h.dr.mono hb,h.cs.mono hb,h.ds.mono hb,h.d_c,h.d_d,h.c_d⟩
theorem OwnSt.reads (h:OwnSt base w a b c d e f g S fs):RSt w a b c d e f g S:=⟨h.dr.reads,h.cs.reads,h.ds.reads⟩
theorem zx.form {base:Nat} {w:World} {v:Value} {l:List Dp} (h:zx base w v l):∃A c,v= .slice A l.length c:=by
 obtain⟨A,c,e,_⟩:=h.reads.form;exact⟨A,c,e⟩
end
def z3L (S:St) (w:World) (e:Ending) (w':World):Prop:=∃A0 ac0 A1 ac1 A2 ac2 A3 ac3 A4 ac4 A5 ac5 A6 ac6 fs,e= .returned (.agg #[.slice A0 S.D.fn.length ac0,.slice A1 S.D.fl.length ac1,.slice A2 S.D.nn.length ac2,.slice A3 S.D.nl.length ac3,.slice A4 S.D.ss.length ac4,.slice A5 S.cs.length ac5,.slice A6 S.ds.length ac6,.int .i64 S.fund])/\
 OwnSt w.heap.size w' (.slice A0 S.D.fn.length ac0) (.slice A1 S.D.fl.length ac1) (.slice A2 S.D.nn.length ac2) (.slice A3 S.D.nl.length ac3) (.slice A4 S.D.ss.length ac4) (.slice A5 S.cs.length ac5) (.slice A6 S.ds.length ac6) S fs/\Below w.heap.size w w'
def ya (S:St) (b:Bool) (w:World) (e:Ending) (w':World):Prop:=∃A0 ac0 A1 ac1 A2 ac2 A3 ac3 A4 ac4 A5 ac5 A6 ac6 fs,e= .returned (.tuple #[.agg #[.slice A0 S.D.fn.length ac0,.slice A1 S.D.fl.length ac1,.slice A2 S.D.nn.length ac2,.slice A3 S.D.nl.length ac3,.slice A4 S.D.ss.length ac4,.slice A5 S.cs.length ac5,.slice A6 S.ds.length ac6,.int .i64 S.fund],.bool b])/\
 OwnSt w.heap.size w' (.slice A0 S.D.fn.length ac0) (.slice A1 S.D.fl.length ac1) (.slice A2 S.D.nn.length ac2) (.slice A3 S.D.nl.length ac3) (.slice A4 S.D.ss.length ac4) (.slice A5 S.cs.length ac5) (.slice A6 S.ds.length ac6) S fs/\Below w.heap.size w w'
end Go.Proofs.YtnjcpljhmhdhkaaGreat
