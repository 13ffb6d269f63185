/- part 29 -/
import Derived.Test.YtnjcpljhmhdhkaaGreatUPk27
import Derived.Deep.Slices
import Derived.Deep.Fields
import Derived.ChangeSame
import Derived.OwnWalk
import Derived.StillTailTactics
import Derived.Deep.RegionHeld3
import Derived.Deep.DeepCutAuto
set_option linter.unusedSimpArgs false
set_option linter.unusedVariables false
set_option maxRecDepth 100000
set_option maxHeartbeats 16000000
namespace Go.Proofs.YtnjcpljhmhdhkaaGreat
open Go.ChangeShapes Go.WideShapes Go.RowKit
structure Ac where
 k:Int
 a:Int
 b:Int
def Ac.cs (r:Ac):List Value:=[.int .i64 r.k,.int .i64 r.a,.int .i64 r.b]
def RA (w:World) (v:Value) (l:List Ac):Prop:=RS w 3 v l.length (l.flatMap Ac.cs)
theorem RA.below {w w':World} {v:Value} {l:List Ac} (h:RA w v l) (hb:Below w.heap.size w w'):RA w' v l:=RS.below h hb
theorem RA.form {w:World} {v:Value} {l:List Ac} (h:RA w v l):∃A c,v= .slice A l.length c/\l.length<=c/\l.length<=maxLen/\
  (0<l.length->∃b off,A=some ⟨b,off,none⟩/\b<w.heap.size/\∀k (hk:k<l.length),w.cell? ⟨b,off+k*3,none⟩=some (.int .i64 l[k].k)/\w.cell? ⟨b,off+k*3+1,none⟩=some (.int .i64 l[k].a)/\
   w.cell? ⟨b,off+k*3+2,none⟩=some (.int .i64 l[k].b)):=by
 obtain⟨_,A,c,hv,h1,h2,h3⟩:=h;refine⟨A,c,hv,h1,h2,fun hn=>?_⟩
 obtain⟨b,off,hA,Hd,hc⟩:=h3 hn;refine⟨b,off,hA,Hd,fun k hk=>?_⟩
 have g:=fun j hj=>qi Ac.cs 3 (fun _=>rfl) l k j hk hj
 refine⟨?_,?_,?_⟩
 ·exact hc (k*3+0) _ (by rw[g 0 o_];rfl)
 ·have:=hc (k*3+1) _ (by rw[g 1 o_];rfl);rwa [<-aak] at this
 ·have:=hc (k*3+2) _ (by rw[g 2 o_];rfl);rwa [<-aak] at this
section
variable {H:Type} {enc:TypeId×Value->H} {w:World} {base:Nat} {spare:Nat->Bool} {Gg:Bool}
theorem zba {v:Value} {d:DataW H} {p:List MemPlace} (hval:Value.okWide Tryz.prog w .any base 84 v) (h:DataW.Trod enc Tryz.prog w 0 spare Gg 84 v d p):
  ∃l:List Ac,RA w v l:=by
 obtain⟨A,len,cap,rfl⟩:=okWide_slice Tryz.underlying84 hval;obtain⟨fuel,hf⟩:=h
 obtain⟨f,Yq,hm,hc⟩:=z19 Tryz.underlying84 Tryz.underlying90 k_ k_ (by decide) (fun j g hj=>by
  match j,hj with
  |0,hj=>cases hj;exact Tryz.underlying3
  |1,hj=>cases hj;exact Tryz.underlying3
  |2,hj=>cases hj;exact Tryz.underlying3
  |j+3,hj=>simp at hj) (by simpa[Value.cells] using hf)
 refine⟨(List.range len).map fun i=>⟨f (i*3+0),f (i*3+1),f (i*3+2)⟩,?_,A,cap,by simp,by simpa using Yq,by simpa using hm,fun GD=>?_⟩
 ·rw[zK Ac.cs 3 (fun _=>rfl)]
 ·obtain⟨b,off,hA,hb,hcell⟩:=hc (by simpa using GD)
  refine⟨b,off,hA,hb,fun j u hu=>?_⟩
  have hj:j<len*3:=by
   have:=(List.getElem?_eq_some_iff.1 hu).1;rw[zK Ac.cs 3 (fun _=>rfl)] at this
   simpa using this
  have hq:j/3<len:=o_
  have hr:j%3<3:=o_
  have e:j/3*3+j%3=j:=o_
  have h1:=hcell (j/3) (j%3) hq hr;have h2:=qi Ac.cs 3 (fun _=>rfl) ((List.range len).map fun i=>(⟨f (i*3+0),f (i*3+1),f (i*3+2)⟩:Ac)) (j/3) (j%3) (by simpa using hq) hr;rw[e,hu] at h2
  show w.cell? ⟨b,off+j,none⟩=some u
  have e':off+j=off+(j/3*3+j%3):=o_
  rw[e',h2];refine Eq.trans h1 ?_
  have:j%3=0∨j%3=1∨j%3=2:=o_
  rcases this with h|h|h<;>rw[h]<;>simp[Ac.cs]
end
theorem VF (v:Value) (l:List Ac) (n:Int) (w:World) (h:RA w v l) (h0:0<=n) (h1:n<=1000000000):
  Calls Tryz.prog 53 #[v,.int .i64 n] w fun e w'=>e= .returned (.int .i64 (szF n l.length))/\w=w':=by
 obtain⟨A,c,rfl,hc,hm,hcell⟩:=h.form;unfold maxLen at hm;clear h hcell
 by_cases Hd:n<l.length
 ·have fS:n -(l.length:Int)<0:=o_
  have HF:Hid (szF n l.length= -1):=h_ (by unfold szF;rw[aao Hd])
  go_enter Tryz.func53,Tryz.ntmps53
  go_wp2
  all_goals go_ret
  all_goals exact⟨zb HF.out.symm,rfl⟩
 ·have fS:¬n -(l.length:Int)<0:=o_
  have HF:Hid (szF n l.length=n -l.length):=h_ (by unfold szF;rw[aaq Hd])
  go_enter Tryz.func53,Tryz.ntmps53
  go_wp2
  all_goals go_ret
  all_goals exact⟨zb HF.out.symm,rfl⟩
theorem z9G:(Tryz.prog.info? 41).map (fun i=>(i.zero,i.size,i.bytes))=some (some (.agg #[.int .i64 0,.int .i64 0,.int .i64 0]),3,24):=by kernel_rfl
def QV (l:List Ac) (k:Nat):List Value:=(l.take k).flatMap Ac.cs++List.replicate ((l.length -k)*3) (.int .i64 0)
theorem z70 (l:List Ac):QV l l.length=l.flatMap Ac.cs:=by simp[QV]
theorem z7S (l:List Ac) (k j:Nat) (h:k<l.length) (hj:j<3):(QV l k)[k*3+j]? =some (.int .i64 0):=by
 unfold QV;have hl:((l.take k).flatMap Ac.cs).length =k*3:=by rw[zK Ac.cs 3 (fun _=>rfl),abn,Nat.min_eq_left o_]
 rw[abc o_,hl,Nat.add_sub_cancel_left,abm,aao];have:1*3<=(l.length -k)*3:=Nat.mul_le_mul_right _ o_;omega
theorem z4C (l:List Ac) (k:Nat) (h:k<l.length):
  QV l (k+1)=((((QV l k).set (k*3) (.int .i64 l[k].k)).set (k*3+1) (.int .i64 l[k].a)).set (k*3+2) (.int .i64 l[k].b)):=by
 unfold QV;have hl:((l.take k).flatMap Ac.cs).length =k*3:=by rw[zK Ac.cs 3 (fun _=>rfl),abn,Nat.min_eq_left o_]
 have hr:(l.length -k)*3=(l.length -(k+1))*3+1+1+1:=by
  have:l.length -k=(l.length -(k+1))+1:=o_
  rw[this,Nat.add_mul]
 rw[aax h,aaY,hr]
 have e0:∀(x:List Value) (y:List Value) (n j:Nat) (u:Value),x.length=n->(x++y).set (n+j) u=x++y.set j u:=by
  intro x y n j u hx;rw[aan,aaq o_,hx,Nat.add_sub_cancel_left]
 rw[show k*3=k*3+0 from rfl,e0 _ _ _ 0 _ hl,aaf,e0 _ _ _ 1 _ hl,e0 _ _ _ 2 _ hl];simp[List.replicate_succ,Ac.cs]
theorem made3 (n:Nat):(madeCells #[.int .i64 0,.int .i64 0,.int .i64 0] n).toList =List.replicate n (.int .i64 0):=by
 apply aat
 intro j
 by_cases hj:j<n
 ·simp only[madeCells,Array.toList_map,aau,Array.toList_range,aav hj,abm,aao hj,aaw]
  congr 1
  have:j%3=0∨j%3=1∨j%3=2:=o_
  show #[Value.int .i64 0,.int .i64 0,.int .i64 0][j%3]! =_
  rcases this with h|h|h<;>rw[h]<;>rfl
 ·simp[madeCells,hj]
def OwnA (base:Nat) (w:World) (v:Value) (l:List Ac):Prop:=w.ownsRow base 41 3 v l.length (l.flatMap Ac.cs)
theorem OwnA.reads {base:Nat} {w:World} {v:Value} {l:List Ac} (h:OwnA base w v l):RA w v l:=kE h
theorem OwnA.kept {base:Nat} {w w':World} {v:Value} {l:List Ac} (h:OwnA base w v l) (hb:Below w.heap.size w w'):OwnA base w' v l:=zZ h hb
def RetA (l:List Ac) (w:World) (e:Ending) (w':World):Prop:=∃v,e= .returned v/\OwnA w.heap.size w' v l/\Below w.heap.size w w'
theorem kW (v:Value) (l:List Ac) (w:World) (h:RA w v l) (hle:l.length<=1048576):
  Calls Tryz.prog 55 #[v] w (RetA l w):=by
 obtain⟨A,c,rfl,hc,hm,hcell⟩:=h.form;clear h hm;obtain⟨i0,hi,mC,H8,Gd⟩:=info_parts z9G
 go_enter Tryz.func55,Tryz.ntmps55
 go_wp2_with (at_make;refine wpList_make_full _ rfl _ _ 35 rfl w.heap.size 41 i0 (.agg #[.int .i64 0,.int .i64 0,.int .i64 0]) 3 Tryz.underlying35 hi mC H8 .i64 .i64 _ _ l.length rfl rfl rfl rfl (by rw[Gd];omega) (by unfold maxLen;omega) (aaa _) ?_)
 intro w1 Hz gQ;have h9:Below w.heap.size w w1:=(aaj _ _).grown gQ (aaa _) (by intro k hk;cases hk)
 have hown:w1.ownsRow w.heap.size 41 3 (.slice (some ⟨w.heap.size,0,none⟩) l.length l.length) l.length (QV l 0):=by
  rw[made3] at Hz
  simpa[QV] using Hz
 clear Hz gQ mC H8 Gd hi;go_wp2
 go_loopw [4] (fun i wr=>∃k:Nat,k<=l.length/\i= .int .i64 k/\wr.ownsRow w.heap.size 41 3 (.slice (some ⟨w.heap.size,0,none⟩) l.length l.length) l.length (QV l k)/\Below w.heap.size w wr) (fun i _=>l.length -(intOf i).toNat)
 case atStart=>exact⟨0,aab _,rfl,hown,h9⟩
 case round=>
  obtain⟨k,hk,rfl,ho,Hb⟩:=hrel;have gj:=Hb.size;clear hown h9
  by_cases Hd:k<l.length
  ·obtain⟨b,off,rfl,hb,Ho⟩:=hcell o_
   obtain⟨k0,k1,k2⟩:=Ho k Hd;have q0:=(Hb.cell (p:=⟨b,off+k*3,none⟩) hb).trans k0;have q1:=(Hb.cell (p:=⟨b,off+k*3+1,none⟩) hb).trans k1;have q2:=(Hb.cell (p:=⟨b,off+k*3+2,none⟩) hb).trans k2;clear k0 k1 k2 Ho hcell
   go_wp2_with fail
   refine(z7V _ _ _ _).mono ?_
   rintro e w2 ⟨rfl,He⟩;have Hm:=zZ ho He;have gn:Below w.heap.size w w2:=bel_
   have x0:=Hm.cellAt (k*3+0) o_;have x1:=Hm.cellAt (k*3+1) o_;have x2:=Hm.cellAt (k*3+2) o_;have f0:=Hm.frozenAt (k*3);have f1:=Hm.frozenAt (k*3+1);have f2:=Hm.frozenAt (k*3+2);rw[z7S l k _ Hd o_] at x0 x1 x2;rw[aaf] at x0;have s1:=(Hm.stored (k*3) (.int .i64 l[k].k)).1;have s2:=(s1.stored (k*3+1) (.int .i64 l[k].a)).1;have s3:=(s2.stored (k*3+2) (.int .i64 l[k].b)).1;rw[<-z4C l k Hd] at s3;have HB:=((gn.setCell (p:=⟨w.heap.size,k*3,none⟩) (aaa _) (.int .i64 l[k].k)).setCell (p:=⟨w.heap.size,k*3+1,none⟩) (aaa _) (.int .i64 l[k].a)).setCell (p:=⟨w.heap.size,k*3+2,none⟩) (aaa _) (.int .i64 l[k].b);have HS:=h_ s3;have mv:=h_ HB;clear s1 s2 s3 HB gn Hm ho He Hb;go_wp2;go_roundw
   case rel=>exact⟨k+1,by omega,by go_num,HS.out,mv.out⟩
   case measure=>simp[intOf];omega
  ·have Hw:k=l.length:=o_
   subst Hw;rw[z70] at ho;have HO:=h_ ho;have HB:=h_ Hb;clear ho Hb hcell;go_wp2;go_ret
   exact⟨_,rfl,HO.out,HB.out⟩
theorem z6M (a b c a' b' c':Int) (w:World):
  Calls Tryz.prog 129 #[.agg #[.int .i64 a,.int .i64 b,.int .i64 c],.agg #[.int .i64 a',.int .i64 b',.int .i64 c']] w
   fun e w'=>e= .returned (.bool (a==a'&&b==b'&&c==c'))/\Below w.heap.size w w':=by
 go_enter Tryz.func129,Tryz.ntmps129
 go_wp2
 all_goals go_ret
 all_goals refine⟨z8 ?_,by exact bel_⟩
 all_goals simp_all
theorem Ac.beq_self (r:Ac):(r.k==r.k&&r.a==r.a&&r.b==r.b)=true:=by simp
theorem z5e (v u:Value) (l:List Ac) (w:World) (hv:RA w v l) (hu:RA w u l):
  CB_ 57 #[v,u] w (.bool true):=by
 obtain⟨A,c,rfl,hc,hm,hcell⟩:=hv.form;obtain⟨A',c',rfl,Nn,ce,Hs⟩:=hu.form;unfold maxLen at hm ce;clear hv hu
 go_enter Tryz.func57,Tryz.ntmps57
 go_wp2
 go_loopw [5] (fun i wr=>∃k:Nat,k<=l.length/\i= .int .i64 k/\Below w.heap.size w wr) (fun i _=>l.length -(intOf i).toNat)
 case atStart=>exact⟨0,aab _,rfl,aaj _ _⟩
 case round=>
  obtain⟨k,hk,rfl,Hb⟩:=hrel;have gj:=Hb.size
  by_cases Hd:k<l.length
  ·obtain⟨b,off,rfl,hb,Ho⟩:=hcell o_
   obtain⟨k0,k1,k2⟩:=Ho k Hd;have q0:=(Hb.cell (p:=⟨b,off+k*3,none⟩) hb).trans k0;have q1:=(Hb.cell (p:=⟨b,off+k*3+1,none⟩) hb).trans k1;have q2:=(Hb.cell (p:=⟨b,off+k*3+2,none⟩) hb).trans k2;obtain⟨b',off',rfl,gw,Gw⟩:=Hs o_;obtain⟨j0,j1,j2⟩:=Gw k Hd;have p0:=(Hb.cell (p:=⟨b',off'+k*3,none⟩) gw).trans j0;have p1:=(Hb.cell (p:=⟨b',off'+k*3+1,none⟩) gw).trans j1;have p2:=(Hb.cell (p:=⟨b',off'+k*3+2,none⟩) gw).trans j2;have FT:(0:Int)<=(k:Int):=o_
   have cf:(k:Int)<(l.length:Int):=o_
   clear k0 k1 k2 Ho hcell j0 j1 j2 Gw Hs;go_wp2
   go_still_tail 8,k_
   go_wp2_with fail
   refine(z6M _ _ _ _ _ _ _).mono ?_
   rw[Ac.beq_self];rintro e w2 ⟨rfl,He⟩;have gn:Below w.heap.size w w2:=Hb.trans ((show Below wr.heap.size wr w2 from⟨He.os,He.tape,He.output,He.size,He.block⟩).mono gj);clear He;go_wp2;go_roundw
   case rel=>exact⟨k+1,by omega,by go_num,gn⟩
   case measure=>simp[intOf];omega
  ·go_wp2
   go_ret
   exact⟨rfl,Hb⟩
open Go.RowKit
attribute [local go_sem ↓] qb qf
theorem z87 (vn vl:Value) (ns ls:List Pr) (f:Int) (w:World) (hn:RP w vn ns) (hl:RP w vl ls):
  Calls Tryz.prog 191 #[.agg #[vn,vl],.int .i64 f] w (z8R (boxF ns ls f) w):=by
 obtain⟨An,cn,rfl,ci,fC,Ht⟩:=hn.formI;unfold maxLen at fC;obtain⟨w0,Ge⟩:∃u,u=((w.alloc (.cells #[.slice An ns.length cn,vl] 27)).alloc (.cells #[.int .i64 0,.int .i64 0] 106)).alloc (.cells #[.int .i64 0,.int .i64 0] 106):=⟨_,rfl⟩;have Hg:Below w.heap.size w w0:=by rw[Ge];exact bel_
 have gD:Blk w0 w.heap.size 27 #[.slice An ns.length cn,vl]:=by rw[Ge];exact((Blk.newAt rfl).alloc _).alloc _
 have bX:Blk w0 (w.heap.size+1) 106 #[.int .i64 0,.int .i64 0]:=by rw[Ge];exact(Blk.newAt (by simp)).alloc _
 have hQ0:Blk w0 (w.heap.size+1+1) 106 #[.int .i64 0,.int .i64 0]:=by rw[Ge];exact Blk.newAt (by simp)
 have U1:=h_ (XO (.slice An ns.length cn) vl ns ls f w0 (hn.below Hg) (hl.below Hg));have Bx:=h_ Ge;have hle:=QA ns ls f;have b7:=h_ (Z6 (ns:=ns) (ls:=ls) (f:=f));have mU:=h_ (fun h=>z68 (ns:=ns) (ls:=ls) (f:=f) h);have F9:=h_ (fun h=>z3a (ns:=ns) (ls:=ls) (f:=f) h);have wg:=h_ Ht;generalize boxF ns ls f=BX at*;generalize qV ns ls f=G at*
 go_enter Tryz.func191,Tryz.ntmps191
 go_wp2_with fail
 rw[<-Bx.out];refine U1.out.mono ?_
 rintro e w1 ⟨v1,rfl,Hj,h9⟩;have h8:=Hg.trans (h9.mono Hg.size);have gg:=gD.below h9 gD.lt;have gu:=bX.below h9 bX.lt;have nF:=hQ0.below h9 hQ0.lt
 by_cases h0:G.length=0
 ·obtain⟨Av,cv,rfl⟩:=OwnE.form (t:=3) (enc:=vI) Hj
  have e0:((G.length:Int)==0)=true:=by rw[h0];rfl
  have HR:=mU.out h0;subst HR;obtain⟨r_0,r_1,r_f0,r_f1⟩:=gu.b2;obtain⟨q_0,q_1,q_f0,q_f1⟩:=nF.b2;have FC:=gu.lt;have hQl:=nF.lt;have hB:Below w.heap.size w ((((w1.setCell ⟨w.heap.size+1,0,none⟩ (.int .i64 0)).setCell ⟨w.heap.size+1,1,none⟩ (.int .i64 0)).setCell ⟨w.heap.size+1+1,0,none⟩ (.int .i64 0)).setCell ⟨w.heap.size+1+1,1,none⟩ (.int .i64 0)):=bel_
  have HB:=h_ hB;go_wp2;exact bodyPost_ret (v:= .tuple #[.agg #[.int .i64 0,.int .i64 0],.agg #[.int .i64 0,.int .i64 0]]) (by simp[results,Tryz.results191,go_sem,r_0,r_1,q_0,q_1,FC,hQl]) rfl ⟨rfl,HB.out⟩
 ·have HR:=F9.out h0
  subst HR;obtain⟨b4,c1,rfl,Gb,uA,Hv,hcell⟩:=Hj.blk o_;obtain⟨q0,uJ,hq0l⟩:=b7.out 0 o_;obtain⟨bn,offn,rfl,GE,nG⟩:=wg.out o_;have e0:((G.length:Int)==0)=false:=beq_eq_false_iff_ne.2 o_;have uB:=h_ hcell;have cX:Hid (∀k,k<ns.length->w1.cell? ⟨bn,offn+k*2,none⟩=some (.int .i64 (ndI ns k).1)/\w1.cell? ⟨bn,offn+k*2+1,none⟩=some (.int .i64 (ndI ns k).2)):=h_ (fun k hk=>⟨(h8.cell (p:=⟨bn,offn+k*2,none⟩) GE).trans (nG k hk).1,(h8.cell (p:=⟨bn,offn+k*2+1,none⟩) GE).trans (nG k hk).2⟩);have GU:=uB.out 0 o_;rw[uJ] at GU;obtain⟨y0,y1⟩:=cX.out q0 hq0l;have rs:bn<w1.heap.size:=aaE GE h8.size;have iz1:(0:Int)<(G.length:Int):=o_
  have iq1:(0:Int)<=(q0:Int):=o_
  have iq2:(q0:Int)<(ns.length:Int):=o_
  have wh:Hid (boxK ns G 0=(ndI ns q0,ndI ns q0)):=h_ (by show(ndI ns (G.getD 0 0),ndI ns (G.getD 0 0))=_;rw[uJ]);obtain⟨a_0,a_1⟩:=gg.c2;have H8:=gg.lt;generalize hNA:(ndI ns q0).1=na at*;generalize hNB:(ndI ns q0).2=nb at*
  go_wp2_with fail
  go_cut [7] (fun s7 wx=>∃x:Nat,s7= .pointer (some ⟨x,0,none⟩)/\w1.heap.size<=x/\Below w1.heap.size w1 wx/\Nd2 wx x na nb)
  case first=>
   go_region
   all_goals go_wp2
   all_goals go_meet
   all_goals refine⟨_,rfl,sz_,by exact bel_,?_⟩
   all_goals first|(refine Blk.newAt ?_;first|rfl|(simp;done))|(refine Blk.alloc (Blk.newAt ?_) _;first|rfl|(simp;done))
  case rest=>
   obtain⟨x,rfl,hxl,Gs,CB⟩:=hcut;obtain⟨w2,gS⟩:∃u,u=wc:=⟨_,rfl⟩;subst gS;have MS:=Blk.lt CB;obtain⟨xc0,xc1⟩:=Blk.c2 CB;have G7:Nd2 (w2.alloc (.cells #[.int .i64 na,.int .i64 nb] 106)) x (boxK ns G 0).1.1 (boxK ns G 0).1.2:=by rw[wh.out];rw[<-hNA,<-hNB] at CB;exact Blk.alloc CB _
   have MN:Nd2 (w2.alloc (.cells #[.int .i64 na,.int .i64 nb] 106)) w2.heap.size (boxK ns G 0).2.1 (boxK ns G 0).2.2:=by rw[wh.out,<-hNA,<-hNB];exact Blk.newAt rfl
   have Ux:=Gs.alloc Gs.size (.cells #[.int .i64 na,.int .i64 nb] 106);have fM:w1.heap.size<=w2.heap.size:=Gs.size;have GI:x≠w2.heap.size:=o_
   go_wp2;generalize w2.heap.size=y at*
   go_loopw [9] (fun s wr=>∃j:Nat,j<=G.length/\s= .int .i64 j/\Nd2 wr x (boxK ns G j).1.1 (boxK ns G j).1.2/\Nd2 wr y (boxK ns G j).2.1 (boxK ns G j).2.2/\Below w1.heap.size w1 wr) (fun s _=>G.length -(intOf s).toNat)
   case atStart=>exact⟨0,aab _,rfl,G7,MN,Ux⟩
   case round=>
    obtain⟨j,hj,rfl,hX,hY,Hb⟩:=hrel;have gj:=Hb.size;have xl:=Blk.lt hX;have yl:=Blk.lt hY;obtain⟨x0,x1,xf0,xf1⟩:=Blk.b2 hX;obtain⟨y0,y1,yf0,yf1⟩:=Blk.b2 hY;have uI:=gg.below Hb H8;obtain⟨a_0,a_1⟩:=uI.c2;have hWl:=uI.lt
    by_cases Hd:j<G.length
    ·have Hr:(j:Int)<(G.length:Int):=o_
     have ij1:(0:Int)<=(j:Int):=o_
     obtain⟨q,hq,mA⟩:=b7.out j Hd;have hxj:=(Hb.cell (p:=⟨b4,j,none⟩) Hv).trans (uB.out j Hd);rw[hq] at hxj;have z0:=(Hb.cell (p:=⟨bn,offn+q*2,none⟩) rs).trans (cX.out q mA).1;have z1:=(Hb.cell (p:=⟨bn,offn+q*2+1,none⟩) rs).trans (cX.out q mA).2;have iq1:(0:Int)<=(q:Int):=o_
     have iq2:(q:Int)<(ns.length:Int):=o_
     have hb4r:b4<wr.heap.size:=o_
     have hbnr:bn<wr.heap.size:=o_
     have HS:=h_ (z1t ns G j);rw[hq] at HS;have d1:¬x=y:=GI;have d2:¬y=x:=fun e=>GI e.symm
     have d3:¬x=wr.heap.size:=o_
     have d4:¬wr.heap.size=x:=o_
     have d5:¬y=wr.heap.size:=o_
     have d6:¬wr.heap.size=y:=o_
     generalize (ndI ns q).1=p1 at*;generalize (ndI ns q).2=p2 at*;generalize boxK ns G j=K at*;have HX:Hid (∀u1 u2 u3 u4 o,Blk (((((wr.setCell ⟨x,0,none⟩ u1).setCell ⟨x,1,none⟩ u2).setCell ⟨y,0,none⟩ u3).setCell ⟨y,1,none⟩ u4).alloc o) x 106 #[u1,u2]):=h_ (fun u1 u2 u3 u4 o=>(((((Blk.set_ hX 0 u1).set_ 1 u2).far (p:=⟨y,0,none⟩) d1 u3).far (p:=⟨y,1,none⟩) d1 u4).alloc o));have HY:Hid (∀u1 u2 u3 u4 o,Blk (((((wr.setCell ⟨x,0,none⟩ u1).setCell ⟨x,1,none⟩ u2).setCell ⟨y,0,none⟩ u3).setCell ⟨y,1,none⟩ u4).alloc o) y 106 #[u3,u4]):=h_ (fun u1 u2 u3 u4 o=>(((((Blk.far hY (p:=⟨x,0,none⟩) d2 u1).far (p:=⟨x,1,none⟩) d2 u2).set_ 0 u3).set_ 1 u4).alloc o));have mv:=h_ Hb
     go_wp2_with fail
     go_region
     all_goals go_wp2
     all_goals go_roundw
     case rel=>exact⟨j+1,by omega,by go_num,by rw[HS.out];exact HX.out _ _ _ _ _,by rw[HS.out];exact HY.out _ _ _ _ _,by have:=mv.out;exact bel_⟩
     case measure=>simp[intOf];omega
    ·have GV:j=G.length:=o_
     subst GV;have hRr:=gu.below Hb gu.lt;have hQr:=nF.below Hb nF.lt;obtain⟨r_0,r_1,r_f0,r_f1⟩:=hRr.b2;obtain⟨q_0,q_1,q_f0,q_f1⟩:=hQr.b2;have FC:=hRr.lt;have hQl:=hQr.lt;generalize boxK ns G G.length=K at*;have hQl1:=nF.lt;have gc:=h8.trans (Hb.mono h8.size);have gm:=h_ gc
     go_wp2_with fail
     go_region
     all_goals go_wp2
     all_goals exact bodyPost_ret (v:= .tuple #[.agg #[.int .i64 K.1.1,.int .i64 K.1.2],.agg #[.int .i64 K.2.1,.int .i64 K.2.2]]) (by simp[results,Tryz.results191,go_sem,r_0,r_1,q_0,q_1,FC,hQl]) rfl ⟨rfl,by have:=gm.out;exact bel_⟩
end Go.Proofs.YtnjcpljhmhdhkaaGreat
