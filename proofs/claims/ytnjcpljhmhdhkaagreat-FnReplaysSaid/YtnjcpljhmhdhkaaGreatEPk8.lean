/- part 8 -/
import Derived.Test.YtnjcpljhmhdhkaaGreatEPk6
import Derived.Test.YtnjcpljhmhdhkaaGreatEPk7
import Derived.Shelf.Abstract
import Derived.BigRegion
import Derived.OwnWalk
import Derived.StillTailTactics
set_option linter.unusedSimpArgs false
set_option linter.unusedVariables false
set_option maxRecDepth 100000
set_option maxHeartbeats 4000000
namespace Go.Proofs.YtnjcpljhmhdhkaaGreat
open Go.RowKit
def ZM (f:Nat) (lb:Array Value) (G:List Nat) (c:Nat->Nat->Int) (g:Option Nat) (w:World):Prop:=
 ∀(v:World) (d e:Nat),d∈G->e∈G->w.grownBy v g->Calls Tryz.prog f (#[.int .i64 d,.int .i64 e]++lb) v fun en v'=>en= .returned (.int .i64 (c d e))/\Below v.heap.size v v'
theorem z9S {w v v':World} {row:Option Nat} (h:w.grownBy v row) (hb:Below v.heap.size v v'):w.grownBy v' row:=
 ⟨hb.os.trans h.os,hb.tape.trans h.tape,hb.output.trans h.output,aai h.size hb.size,fun i hi gd=>(hb.block i (aaD hi h.size)).trans (h.block i hi gd)⟩
theorem qW (w:World) (row:Option Nat):w.grownBy w row:=⟨rfl,rfl,rfl,aaa _,fun _ _ _=>rfl⟩
theorem qU {w v:World} {g:Nat} (h:w.grownBy v (some g)) (i:Nat) (x:Value):w.grownBy (v.setCell ⟨g,i,none⟩ x) (some g):=
 ⟨h.os,h.tape,h.output,by simpa[World.setCell] using h.size,fun j hj gd=>(Below.heap_setCell v ⟨g,i,none⟩ x j (fun e=>gd (by rw[e]))).trans (h.block j hj gd)⟩
theorem Ji {w v:World} {row:Option Nat} (h:w.grownBy v row):w.grownBy v.drew row:=⟨h.os,h.tape,h.output,h.size,h.block⟩
theorem Vc (lt:Nat->Nat->Bool) (G:List Nat) (e:Nat):∀i,i<=G.length->e∈isoK lt G i->e∈G
 |0,_,h=>by simp[z04] at h
 |i+1,hi,h=>by
  rw[Z4 lt G i o_] at h
  rcases VI h with rfl|h
  ·exact abg _
  ·exact Vc lt G e i o_ h
theorem z23 (lt:Nat->Nat->Bool) (G:List Nat) (h:0<G.length):isoH lt G 1=natI G:=by
 have h1:=Vb lt G 0 h;have h2:posN (lt G[0]) (isoK lt G 0) 0=0:=rfl;rw[h2,Qo lt G 0 h,Z8] at h1;exact h1.symm
theorem z2G (base f g cap:Nat) (lb:Array Value) (G:List Nat) (c:Nat->Nat->Int) (lt:Nat->Nat->Bool) (w:World) (hc:ZM f lb G c (some g) w) (Hf:∀d e,decide (c d e<0)=lt d e)
  (ho:OwnI base w (.slice (some ⟨g,0,none⟩) G.length cap) (natI G)) (mJ:G.length<=12) (ef:Enters Tryz.prog f):
  Calls Tryz.prog 246 #[.slice (some ⟨g,0,none⟩) G.length cap,.int .i64 0,.int .i64 G.length,.func (.func f) #[] lb] w
   fun e w'=>e= .returned (.tuple #[])/\OwnI base w' (.slice (some ⟨g,0,none⟩) G.length cap) (natI (isoK lt G G.length))/\w.grownBy w' (some g):=by
 go_enter Tryz.func246,Tryz.ntmps246
 go_wp2
 go_loopw [8] (fun x wr=>∃i:Nat,1<=i/\(i<=G.length∨G.length=0)/\x= .int .i64 i/\OwnI base wr (.slice (some ⟨g,0,none⟩) G.length cap) (isoH lt G (min i G.length))/\w.grownBy wr (some g)) (fun x _=>G.length -(intOf x).toNat)
 case atStart=>
  refine⟨1,aaa _,by omega,rfl,?_,qW _ _⟩
  rcases abv G.length with h0|h0
  ·rw[h0,show min 1 0=0 from rfl,Z8];rw[h0] at ho;exact ho
  ·rw[show min 1 G.length=1 by omega,z23 lt G h0];exact ho
 case round=>
  obtain⟨i,ct,Cq,rfl,Hk,hg⟩:=hrel;have EF:=h_ ef;clear ho ef
  by_cases Gi:i<G.length
  ·rw[show min i G.length=i by omega,<-Qo lt G i Gi] at Hk
   have HE:=h_ (Vb lt G i Gi);have nN:G.getD i 0=G[i]:=by simp[List.getD,Gi]
   have U3:G.getD i 0∈G:=by rw[nN];exact abg Gi
   have HKL:=h_ (jx lt G i o_);have HKM:=h_ (fun e h=>Vc lt G e i o_ h);rw[<-nN] at HE;have nO:=h_ (fun p hp=>XI lt G i p Gi hp);have Gq:=h_ (fun p hp=>Vu lt G i p Gi hp);have Rg:=h_ (fun p hp=>Xq lt G i p Gi hp);have Nn:=h_ (fun p hp=>z2j lt G i p Gi hp);clear nN;generalize hD:G.getD i 0=D at*;clear hD;go_wp2
   go_loopw [9] (fun x wr2=>∃p:Nat,p<=i/\x= .int .i64 p/\OwnI base wr2 (.slice (some ⟨g,0,none⟩) G.length cap) (isoR lt G i p)/\w.grownBy wr2 (some g)/\Hid (posN (lt D) (isoK lt G i) i=posN (lt D) (isoK lt G i) p)) (fun x _=>(intOf x).toNat)
   case atStart=>exact⟨i,aaa _,rfl,Hk,hg,h_ rfl⟩
   case round=>
    clear Hk hg;obtain⟨p,hp,rfl,Hk,hg,HP⟩:=hrel
    by_cases m9:0<p
    ·obtain⟨r,rfl⟩:∃r,p=r+1:=⟨p -1,by omega⟩
     have mv:r<i:=o_
     have xs:=Hk.cell (q:=r+1) (by rw[Nn.out _ hp];omega);have xb:=Hk.cell (q:=r) (by rw[Nn.out _ hp];omega);rw[nO.out _ hp] at xs;rw[Gq.out r mv] at xb;have F3:(isoK lt G i).getD r 0∈G:=HKM.out _ (by rw[List.getD,aac (by rw[HKL.out];exact mv)];exact abg _);have mq:Hid (posN (lt D) (isoK lt G i) (r+1)=if lt D ((isoK lt G i).getD r 0) then posN (lt D) (isoK lt G i) r else r+1):=h_ rfl;have HS:=h_ (Rg.out r mv);have ft:=Hf D ((isoK lt G i).getD r 0);have Rh:=fun v (hv:w.grownBy v (some g))=>hc v D ((isoK lt G i).getD r 0) U3 F3 hv
     generalize (isoK lt G i).getD r 0=e at*;rw[<-ft] at mq;generalize c D e=z at*;have HC:=h_ Rh;clear Rh ft F3;have ir1:(0:Int)<=(r:Int):=o_
     have ir2:(r:Int)<(G.length:Int):=o_
     have ir3:((r+1:Nat):Int)<(G.length:Int):=o_
     have mK:=(Hk.lt g rfl).2;clear hc Hf;have hef:∀(args:Array Value) (w:World),(callFunc f args).run Tryz.prog w= .ok (.enter f args) w:=EF.out
     go_wp2_with fail
     (refine z7 k_ k_ (fun hG=>?_))
     repeat (go_big_quiet_step ((go_at_fn f;exact zI (HC.out _ (z9S hg (Grw.below _))))))
     refine wpQuiet_nil ?_
     clear hG;rintro w3 ⟨⟨_,He⟩,rfl⟩;have Hm:=Hk.kept He;have gn:=z9S hg He;have g0:=Hm.frz r;have g1:=Hm.frz (r+1);have ys:=Hm.cell (q:=r+1) (by rw[Nn.out _ hp];omega);rw[nO.out _ hp] at ys
     have yb':w3.cell? ⟨g,r,none⟩=some (.int .i64 e):=by
      have:=(He.cell (p:=⟨g,r,none⟩) mK).trans xb;exact this
     clear xs xb hg He hef
     by_cases hz:z<0
     ·have e1:decide (z<0)=true:=by simp[hz]
      have HO:=h_ (show OwnI base ((w3.setCell ⟨g,r+1,none⟩ (.int .i64 e)).setCell ⟨g,r,none⟩ (.int .i64 D)) (.slice (some ⟨g,0,none⟩) G.length cap) (isoR lt G i r) by
       rw[<-HS.out];exact(Hm.set_ (r+1) _).set_ r _)
      have HG:=h_ (qU (qU gn (r+1) (.int .i64 e)) r (.int .i64 D));have Fd:Hid (posN (lt D) (isoK lt G i) i=posN (lt D) (isoK lt G i) r):=h_ (by rw[HP.out,mq.out,aao e1]);clear Hk Hm gn
      go_wp2_with fail
      go_region
      all_goals go_wp2
      all_goals go_roundw
      case rel=>exact⟨r,by omega,by go_num,HO.out,Ji HG.out,Fd⟩
      case measure=>simp[intOf]
     ·have e1:decide (z<0)=false:=by simp[hz]
      have Fd:Hid (posN (lt D) (isoK lt G i) i=r+1):=h_ (by rw[HP.out,mq.out,e1];rfl);have HO:Hid (OwnI base w3 (.slice (some ⟨g,0,none⟩) G.length cap) (isoH lt G (i+1))):=h_ (by rw[<-HE.out,Fd.out];exact Hm);clear Hk Hm;go_wp2;go_roundw
      case rel=>exact⟨i+1,by omega,by omega,by go_num,by rw[show min (i+1) G.length=i+1 by omega];exact HO.out,gn⟩
      case measure=>simp[intOf];omega
    ·have BG:p=0:=o_
     subst BG;have Fd:Hid (posN (lt D) (isoK lt G i) i=0):=h_ HP.out;have HO:Hid (OwnI base wr (.slice (some ⟨g,0,none⟩) G.length cap) (isoH lt G (i+1))):=h_ (by rw[<-HE.out,Fd.out];exact Hk);clear Hk hc Hf m9
     go_wp2_with fail
     (refine z7 k_ k_ (fun hG=>?_))
     repeat (go_big_quiet_step (fail))
     refine wpQuiet_nil ?_
     clear hG;rintro w3 ⟨⟨_,He⟩,rfl⟩;have Hm:=HO.out.kept He;have gn:=z9S hg He;go_wp2;go_roundw
     case rel=>exact⟨i+1,by omega,by omega,by go_num,by rw[show min (i+1) G.length=i+1 by omega];exact Hm,gn⟩
     case measure=>simp[intOf];omega
  ·have HO:Hid (OwnI base wr (.slice (some ⟨g,0,none⟩) G.length cap) (natI (isoK lt G G.length))):=h_ (by
    rw[show min i G.length=G.length by omega,z1W] at Hk;exact Hk)
   clear hc Hf Hk;go_wp2
   go_end0
   exact⟨rfl,HO.out,hg⟩
open Go.ChangeShapes Go.WideShapes Go.Deep Go.RowKit Go.Joins
structure Sp where
 k:Int
 a:Int
 b:Int
 ns:List (Int×Int)
 ls:List (Int×Int)
def z0P (w:World) (b o:Nat) (s:Sp):Prop:=
 w.cell? ⟨b,o,none⟩=some (.int .i64 s.k)/\w.cell? ⟨b,o+1,none⟩=some (.int .i64 s.a)/\w.cell? ⟨b,o+2,none⟩=some (.int .i64 s.b)/\
  ∃vn vl,w.cell? ⟨b,o+3,none⟩=some vn/\w.cell? ⟨b,o+4,none⟩=some vl/\RP w vn s.ns/\RP w vl s.ls
def RT (w:World) (v:Value) (l:List Sp):Prop:=∃A c,v= .slice A l.length c/\l.length<=c/\l.length<=maxLen/\
 (0<l.length->∃b off,A=some ⟨b,off,none⟩/\b<w.heap.size/\∀k (hk:k<l.length),z0P w b (off+k*5) l[k])
theorem z0P.below {w w':World} {b o:Nat} {s:Sp} (h:z0P w b o s) (hb:Below w.heap.size w w') (hl:b<w.heap.size):z0P w' b o s:=by
 obtain⟨h0,h1,h2,vn,vl,h3,h4,hn,Gm⟩:=h
 exact⟨(hb.cell (p:=⟨b,o,none⟩) hl).trans h0,(hb.cell (p:=⟨b,o+1,none⟩) hl).trans h1,(hb.cell (p:=⟨b,o+2,none⟩) hl).trans h2,vn,vl,
  (hb.cell (p:=⟨b,o+3,none⟩) hl).trans h3,(hb.cell (p:=⟨b,o+4,none⟩) hl).trans h4,hn.below hb,Gm.below hb⟩
theorem RT.below {w w':World} {v:Value} {l:List Sp} (h:RT w v l) (hb:Below w.heap.size w w'):RT w' v l:=by
 obtain⟨A,c,h1,h2,h3,h4⟩:=h;refine⟨A,c,h1,h2,h3,fun hp=>?_⟩
 obtain⟨b,off,g1,g2,g3⟩:=h4 hp;have:=hb.size;exact⟨b,off,g1,by omega,fun k hk=>(g3 k hk).below hb g2⟩
structure Dr where
 fn:List (Int×Int)
 fl:List (Int×Int)
 nn:List (Int×Int)
 nl:List (Int×Int)
 ss:List Sp
structure RD (w:World) (a b c d e:Value) (D:Dr):Prop where
 fn:RP w a D.fn
 fl:RP w b D.fl
 nn:RP w c D.nn
 nl:RP w d D.nl
 ss:RT w e D.ss
theorem RD.below {w w':World} {a b c d e:Value} {D:Dr} (h:RD w a b c d e D) (hb:Below w.heap.size w w'):RD w' a b c d e D:=
 ⟨h.fn.below hb,h.fl.below hb,h.nn.below hb,h.nl.below hb,h.ss.below hb⟩
section
variable {H:Type} {enc:TypeId×Value->H} {w:World} {base:Nat} {spare:Nat->Bool} {BM:Bool}
end
abbrev SF:=Sp×Value×Value
def sfc (f:SF):List Value:=[.int .i64 f.1.k,.int .i64 f.1.a,.int .i64 f.1.b,f.2.1,f.2.2]
structure OwnT (base:Nat) (w:World) (v:Value) (fs:List SF):Prop where
 row:w.ownsRow base 113 5 v fs.length (fs.flatMap sfc)
 win:∀k (hk:k<fs.length),OwnW base w fs[k].2.1 fs[k].2.2 fs[k].1.ns fs[k].1.ls
 rw_:∀k (hk:k<fs.length) b,v.ownBlock=some b->¬zi fs[k].2.1 fs[k].2.2 b
 ww:∀i j (hi:i<fs.length) (hj:j<fs.length),i≠j->∀b,zi fs[i].2.1 fs[i].2.2 b->¬zi fs[j].2.1 fs[j].2.2 b
def kR (v:Value) (fs:List SF) (b:Nat):Prop:=v.ownBlock=some b∨∃k,∃hk:k<fs.length,zi fs[k].2.1 fs[k].2.2 b
section
variable {base:Nat} {w w':World} {v:Value} {fs:List SF}
theorem OwnT.lt (h:OwnT base w v fs) (b:Nat) (hb:kR v fs b):base<=b/\b<w.heap.size:=by
 rcases hb with hb|⟨k,hk,hb⟩
 ·exact World.ownsRow.lt h.row b hb
 ·exact(h.win k hk).lt b hb
theorem OwnT.turned {S:Nat->Prop} (h:OwnT base w v fs) (hb:Turns S w w') (hs:∀b,kR v fs b->¬S b):OwnT base w' v fs:=
 ⟨yE h.row hb (fun b hb=>hs b (.inl hb)),fun k hk=>(h.win k hk).turned hb (fun b hb=>hs b (.inr ⟨k,hk,hb⟩)),h.rw_,h.ww⟩
theorem OwnT.mono {base':Nat} (h:OwnT base w v fs) (hb:base'<=base):OwnT base' w v fs:=by
 refine⟨?_,fun k hk=>(h.win k hk).mono hb,h.rw_,h.ww⟩
 obtain⟨h1,h2⟩:=h.row;refine⟨h1,?_⟩
 rcases h2 with h2|⟨g,cap,cur,e1,e2,e3⟩
 ·exact .inl h2
 ·exact .inr ⟨g,cap,cur,e1,aai hb e2,e3⟩
theorem OwnT.nil (base:Nat) (w:World):OwnT base w (.slice none 0 0) []:=
 ⟨World.ownsRow_nil _ _ _ _,fun k hk=>absurd hk (by simp),fun k hk=>absurd hk (by simp),fun i j hi=>absurd hi (by simp)⟩
theorem OwnW.alloc' {vn vl:Value} {ns ls:List Pr} (h:OwnW base w vn vl ns ls) (o:Obj):OwnW base (w.alloc o) vn vl ns ls:=h.kept ((aaj _ _).alloc (aaa _) o)
theorem OwnT.reads (h:OwnT base w v fs):RT w v (fs.map Prod.fst):=by
 obtain⟨h0,A,c,rfl,h1,h2,h3⟩:=ku h.row;refine⟨A,c,by simp,by simpa using h1,by simpa using h2,fun hp=>?_⟩
 obtain⟨b,off,e1,e2,e3⟩:=h3 (by simpa using hp);refine⟨b,off,e1,e2,fun k hk=>?_⟩
 have Fu:k<fs.length:=by simpa using hk
 have g:=fun j hj=>yw sfc 5 (fun _=>rfl) fs k j Fu hj
 have c0:=e3 (k*5+0) _ (by rw[g 0 o_];rfl);have c1:=e3 (k*5+1) _ (by rw[g 1 o_];rfl);have c2:=e3 (k*5+2) _ (by rw[g 2 o_];rfl);have c3:=e3 (k*5+3) _ (by rw[g 3 o_];rfl);have c4:=e3 (k*5+4) _ (by rw[g 4 o_];rfl);simp only[<-aak,aaf] at c0 c1 c2 c3 c4
 have hw:=h.win k Fu;simp only[List.getElem_map]
 exact⟨c0,c1,c2,_,_,c3,c4,hw.1.reads,hw.2.1.reads⟩
end
def sumT:List Sp->Nat
 | []=>0
 |s::r=>s.ns.length+s.ls.length+sumT r
theorem JK:(Tryz.prog.info? 113).map (fun i=>(i.zero,i.size,i.bytes))=some (some (.agg #[.int .i64 0,.int .i64 0,.int .i64 0,.slice none 0 0,.slice none 0 0]),5,72):=by kernel_rfl
structure DrLe (D:Dr):Prop where
 fn:D.fn.length<=1048576
 fl:D.fl.length<=1048576
 nn:D.nn.length<=1048576
 nl:D.nl.length<=1048576
 ss:D.ss.length<=1048576
 ws:∀k (hk:k<D.ss.length),D.ss[k].ns.length <=1048576/\D.ss[k].ls.length <=1048576
 sum:sumT D.ss<=1048576
structure OwnD (base:Nat) (w:World) (a b c d e:Value) (D:Dr) (fs:List SF):Prop where
 first:OwnW base w a b D.fn D.fl
 now:OwnW base w c d D.nn D.nl
 ss:OwnT base w e fs
 map:fs.map Prod.fst=D.ss
 f_n:∀k,zi a b k->¬zi c d k
 f_s:∀k,zi a b k->¬kR e fs k
 n_s:∀k,zi c d k->¬kR e fs k
def qJ (a b c d e:Value) (fs:List SF) (k:Nat):Prop:=zi a b k∨zi c d k∨kR e fs k
section
variable {base:Nat} {w w':World} {a b c d e:Value} {D:Dr} {fs:List SF}
theorem OwnD.lt (h:OwnD base w a b c d e D fs) (k:Nat) (hk:qJ a b c d e fs k):base<=k/\k<w.heap.size:=by
 rcases hk with hk|hk|hk
 ·exact h.first.lt k hk
 ·exact h.now.lt k hk
 ·exact h.ss.lt k hk
theorem OwnD.turned {S:Nat->Prop} (h:OwnD base w a b c d e D fs) (hb:Turns S w w') (hs:∀k,qJ a b c d e fs k->¬S k):OwnD base w' a b c d e D fs:=
 ⟨h.first.turned hb (fun k hk=>hs k (.inl hk)),h.now.turned hb (fun k hk=>hs k (.inr (.inl hk))),h.ss.turned hb (fun k hk=>hs k (.inr (.inr hk))),h.map,h.f_n,h.f_s,h.n_s⟩
theorem OwnD.kept (h:OwnD base w a b c d e D fs) (hb:Below w.heap.size w w'):OwnD base w' a b c d e D fs:=
 h.turned (S:=fun _=>False) (Turns.ofBelow hb) (fun _ _ h=>h)
theorem OwnD.alloc (h:OwnD base w a b c d e D fs) (o:Obj):OwnD base (w.alloc o) a b c d e D fs:=h.kept ((aaj _ _).alloc (aaa _) o)
theorem OwnD.reads (h:OwnD base w a b c d e D fs):RD w a b c d e D:=
 ⟨h.first.1.reads,h.first.2.1.reads,h.now.1.reads,h.now.2.1.reads,by have:=h.ss.reads;rw[h.map] at this;exact this⟩
end
def RetD (D:Dr) (w:World) (e:Ending) (w':World):Prop:=∃A0 c0 A1 c1 A2 c2 A3 c3 A4 c4 fs,
 e= .returned (.agg #[.slice A0 D.fn.length c0,.slice A1 D.fl.length c1,.slice A2 D.nn.length c2,.slice A3 D.nl.length c3,.slice A4 D.ss.length c4])/\
 OwnD w.heap.size w' (.slice A0 D.fn.length c0) (.slice A1 D.fl.length c1) (.slice A2 D.nn.length c2) (.slice A3 D.nl.length c3) (.slice A4 D.ss.length c4) D fs/\Below w.heap.size w w'
end Go.Proofs.YtnjcpljhmhdhkaaGreat
