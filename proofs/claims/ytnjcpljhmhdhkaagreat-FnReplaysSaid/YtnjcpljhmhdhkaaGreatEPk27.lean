/- part 27 -/
import Derived.Test.YtnjcpljhmhdhkaaGreatEPk18
import Derived.Deep.RegionHeld3
import Derived.Deep.DeepCutAuto
set_option linter.unusedSimpArgs false
set_option linter.unusedVariables false
set_option maxRecDepth 100000
set_option maxHeartbeats 16000000
namespace Go.Proofs.YtnjcpljhmhdhkaaGreat
open Go.RowKit
theorem V9 (vn vl:Value) (ns ls:List Pr) (f:Int) (w:World) (hn:RP w vn ns) (hl:RP w vl ls):
  Calls Tryz.prog 189 #[.agg #[vn,vl],.int .i64 f] w (RetN (qY ns ls f) w):=by
 have GZ:Below w.heap.size w (w.alloc (.cells #[vn,vl] 27)):=bel_
 have bJ:Blk (w.alloc (.cells #[vn,vl] 27)) w.heap.size 27 #[vn,vl]:=Blk.newAt rfl;have fc:=zJ ns ls;have Ck:=h_ (fun (v:World) (hb:Below w.heap.size w v)=>jK vn vl ns ls v (hn.below hb) (hl.below hb));obtain⟨i0,hi,iz0,iz1,iz2⟩:=info_parts qu
 cases Gi:inB f 0 (((z9 ns ls).length :Int) -1)
 ·have HR:=h_ (ke (f:=f) Gi)
  generalize z9 ns ls=F at*;have Nx:=h_ Gi;clear Gi
  go_enter Tryz.func189,Tryz.ntmps189
  go_wp2_with fail
  refine(Ck.out _ GZ).mono ?_
  rintro e w1 ⟨v1,rfl,Hi,h9⟩;obtain⟨A1,c1,rfl⟩:=Hi.form;have h8:=GZ.trans (h9.mono GZ.size)
  go_wp2_with fail
  refine(zu f 0 _ false _ Nx.out).mono ?_
  rintro e w' ⟨rfl,rfl⟩;go_wp2;go_ret
  exact⟨_,rfl,by rw[HR.out];exact OwnI.nil _ _,fun _=>rfl,h8⟩
 ·obtain⟨k,rfl⟩:∃k:Nat,f=k:=⟨f.toNat,by have:=zf.1 Gi;omega⟩
  have hk:k<(z9 ns ls).length :=by have:=zf.1 Gi;omega
  have HR:=h_ (xK hk);obtain⟨Hh,Mf,rx,bI⟩:=jP hk;generalize z9 ns ls=F at*;generalize YN:F.getD k []=ff at*;have gl:=h_ YN;have Rx:=h_ Mf;have wh:=h_ (fun j hj=>Xg (ls:=ls) (f:=ff) (k:=j) hj);have mI:=h_ (fun j hj=>Vs (ls:=ls) (f:=ff) (k:=j) hj);have bK:Hid (nodK ls ff 0=[]):=h_ rfl;have HNF:Hid (nodF ls ff=nodK ls ff ff.length):=h_ rfl;have Nt:=h_ (Jt ls ff);have Nx:=h_ Gi;have Ff:(k:Int)<(F.length:Int):=o_
  have ik1:(0:Int)<=(k:Int):=o_
  clear Gi Hh Mf YN
  go_enter Tryz.func189,Tryz.ntmps189
  go_wp2_with fail
  refine(Ck.out _ GZ).mono ?_
  rintro e w1 ⟨v1,rfl,Hi,h9⟩;have h8:=GZ.trans (h9.mono GZ.size);have Hz:=bJ.below h9 bJ.lt;obtain⟨b4,c1,rr,rfl,gc,mL,Hw,C7,Me⟩:=Hi.get hk;rw[gl.out] at Me;have fb:=za ff;obtain⟨b5,c2,rfl,gE,fg,H0,bL⟩:=Me.blk o_;rw[fb] at bL C7 gE;have Ry:=h_ bL;have GQ:OwnI w1.heap.size w1 (.slice none 0 0) []:=OwnI.nil _ _;clear h9 GZ bJ Hi bL Me mL fg fb
  go_wp2_with fail
  refine(zu _ 0 _ true _ Nx.out).mono ?_
  rintro e w' ⟨rfl,rfl⟩;have hW1l:=Hz.lt;go_wp2
  go_loopw [6,22] (fun v x wr=>∃j:Nat,j<=ff.length/\x= .int .i64 j/\OwnI w1.heap.size wr v (nodK ls ff j)/\Below w1.heap.size w1 wr) (fun _ x _=>ff.length -(intOf x).toNat)
  case atStart=>exact⟨0,aab _,rfl,by rw[bK.out];exact GQ,aaj _ _⟩
  case round=>
   clear GQ;obtain⟨j,hj,rfl,ho,Hb⟩:=hrel;have hW:=Hz.below Hb hW1l;have YO:=Hb.size;obtain⟨a_0,a_1⟩:=hW.c2
   by_cases Hf:j<ff.length
   ·have Hp:(j:Int)<(ff.length:Int):=o_
    have ij1:(0:Int)<=(j:Int):=o_
    have hx:=(Hb.cell (p:=⟨b5,j,none⟩) H0).trans (Ry.out j Hf);rw[qs] at hx;have F3:ff.getD j 0<2*ls.length:=Rx.out _ (by rw[List.getD,aac Hf];exact abg Hf);have HS:=h_ (wh.out j Hf);have hgl:=mI.out j hj;generalize ff.getD j 0=d at*;have Mt:RP wr vl ls:=hl.below (h8.trans (Hb.mono h8.size))
    go_wp2_with fail
    refine(yF _ _ ls d _ Mt F3).mono ?_
    rintro e w3 ⟨rfl,He⟩;have Hm:=ho.kept He;have gq:=Hb.trans (He.mono Hb.size);have G5:=He.size;generalize zc ls d=z at*;generalize nodK ls ff j=G at*;clear He ho hW Hb hx Mt a_0 a_1
    go_wp2_with (at_builtin;refine qH rfl _ _ rfl w1.heap.size _ G z rfl w3.heap.size rfl (jA rfl) (Hm.alloc _) o_ (by simp;omega) ?_)
    intro v2 w2 Hk gm gR;have Gb:Below w1.heap.size w1 w2:=(gq.alloc gq.size (.cells #[.int .i64 z] 3)).grown gm (by simp;omega) (fun q hq=>by have:=(Hm.lt q hq).1;omega);clear gm gR Hm gq;go_wp2;go_roundw
    case rel=>exact⟨j+1,by omega,by go_num,by rw[HS.out];exact Hk,Gb⟩
    case measure=>simp[intOf];omega
   ·have GP:j=ff.length:=o_
    subst GP;have Rq:Hid (ff.length=0->False):=h_ (fun h=>by omega);go_wp2;go_ret
    exact⟨_,rfl,by rw[HR.out,HNF.out];exact ho.mono h8.size,fun h=>(Rq.out (by rw[HR.out,Nt.out] at h;exact h)).elim,h8.trans (Hb.mono h8.size)⟩
theorem z7C {w:World} {A:Option Addr} {n c:Nat} {l:List Int} (h:RI w (.slice A n c) l) (k:Nat) (hk:k<=l.length):RI w (.slice A k c) (l.take k):=by
 obtain⟨h0,A',c',he,h1,h2,h3⟩:=h
 injection he with e1 e2 e3
 subst e1;subst e3
 refine⟨by simp,A,c,by rw[abm,Nat.min_eq_left hk],by simp;omega,by simp;omega,fun hp=>?_⟩
 rw[abm] at hp;obtain⟨b,off,hA,hb,Hy⟩:=h3 o_;refine⟨b,off,hA,hb,fun j u hu=>Hy j u ?_⟩
 rw[List.map_take,List.getElem?_take] at hu
 split at hu
 ·exact hu
 ·cases hu
theorem z78 {ns ls:List Pr} {f:Int} (h:f=jd ns ls):yc ns ls f=false:=by simp[yc,h]
theorem z8J {G:List Int} {k:Nat} (hk:k<G.length) (h:G.getD k 0∈G.take k):∃i,i<k/\G.getD i 0=G.getD k 0:=by
 obtain⟨i,hi,e⟩:=aba h;rw[abm] at hi;refine⟨i,by omega,?_⟩
 rw[abp] at e;rw[<-e,aa6,aac o_];rfl
theorem z89 {G:List Int} {k:Nat} (hk:k<G.length) (h:G.getD k 0∉G.take k):∀i,i<k->G.getD i 0≠G.getD k 0:=by
 intro i hi e
 apply h
 rw[<-e,aa6,aac (show i<G.length by omega)]
 show G[i]∈_
 have:G[i]=(G.take k)[i]'(by simp;omega):=by rw[abp]
 rw[this];exact abg _
theorem z2o (vn vl:Value) (ns ls:List Pr) (f:Int) (w:World) (hn:RP w vn ns) (hl:RP w vl ls):
  CB_ 111 #[.agg #[vn,vl],.int .i64 f] w (.bool (yc ns ls f)):=by
 have GZ:Below w.heap.size w (w.alloc (.cells #[vn,vl] 27)):=bel_
 have bJ:Blk (w.alloc (.cells #[vn,vl] 27)) w.heap.size 27 #[vn,vl]:=Blk.newAt rfl;have hle:=xN ns ls f;have bK:=h_ (fun h=>z2d (ns:=ns) (ls:=ls) (f:=f) h);have FV:=h_ (fun i j h1 h2 h3=>z1j (ns:=ns) (ls:=ls) (f:=f) (i:=i) (j:=j) h1 h2 h3);have Bx:=h_ (fun h=>z78 (ns:=ns) (ls:=ls) (f:=f) h);have HY:=h_ (fun h0 h=>z1w (ns:=ns) (ls:=ls) (f:=f) h0 h);have ry:=h_ (fun (v:World) (hb:Below w.heap.size w v)=>V9 vn vl ns ls f v (hn.below hb) (hl.below hb));have Rz:=h_ (fun (v:World) (hb:Below w.heap.size w v)=>V2 vn vl ns ls v (hn.below hb) (hl.below hb));generalize qY ns ls f=G at*;generalize jd ns ls=o at*;have bQ:=fun (u:World) (a:Option Addr) (l c:Nat)=>Lib.run_eql_slice_nil (P:=Tryz.prog) u 31 3 a l c 0 0 Tryz.underlying31
 go_enter Tryz.func111,Tryz.ntmps111
 go_wp2_with fail
 refine(ry.out _ GZ).mono ?_
 rintro e w1 ⟨v1,rfl,Hi,mE,h9⟩;have h8:=GZ.trans (h9.mono GZ.size);have Hz:=bJ.below h9 bJ.lt;clear h9 GZ bJ
 by_cases h0:G.length=0
 ·have e1:=mE h0
  subst e1;have HR:=h_ (bK.out h0);clear Hi mE h0;go_wp2;go_ret
  exact⟨z8 HR.out.symm,h8⟩
 ·have Nl:=Hi.reads
  obtain⟨b4,c1,rfl,gc,mL,Hw,hcell⟩:=Hi.blk o_;have nT:=h_ hcell;clear Hi hcell mE;obtain⟨a_0,a_1⟩:=Hz.c2
  go_wp2_with fail
  refine(Rz.out _ h8).mono ?_
  rintro e w2 ⟨rfl,Hd⟩;have Ha:=h8.trans (Hd.mono h8.size);have rE:=Nl.below Hd;have HCE2:Hid (∀q,q<G.length->w2.cell? ⟨b4,q,none⟩=some (.int .i64 (G.getD q 0))):=h_ (fun q hq=>(Hd.cell (p:=⟨b4,q,none⟩) Hw).trans (nT.out q hq));clear h8 Hz Hd Nl nT a_0 a_1
  by_cases RG:f=o
  ·have e1:(f==o)=true:=beq_iff_eq.2 RG
   have HR:=h_ (Bx.out RG);go_wp2;go_ret
   exact⟨z8 HR.out.symm,Ha⟩
  ·have e1:(f==o)=false:=beq_eq_false_iff_ne.2 RG
   have HYY:Hid (disK G G.length->yc ns ls f=true):=h_ (fun h=>by rw[HY.out o_ h];simp[RG]);go_wp2
   go_loop [21] (fun x=>∃k:Nat,k<=G.length/\x= .int .i64 k/\Hid (disK G k)) (fun x=>G.length -(intOf x).toNat)
   case atStart=>exact⟨0,aab _,rfl,h_ (z03 G)⟩
   case round=>
    obtain⟨k,hk,rfl,HK⟩:=hrel
    by_cases Hf:k<G.length
    ·have Hp:(k:Int)<(G.length:Int):=o_
     have ik1:(0:Int)<=(k:Int):=o_
     have ik2:(k:Int)<=(c1:Int):=o_
     have G8:=HCE2.out k Hf;have htk:=z7C rE k hk;have HNO2:=h_ (fun h=>z8J (G:=G) Hf h);have HYE:=h_ (fun h=>z89 (G:=G) Hf h);have CP:Hid (∀i,i<k->G.getD i 0=G.getD k 0->yc ns ls f=false):=h_ (fun i hi h=>FV.out i k hi Hf h);generalize hz:G.getD k 0=z at*;obtain⟨hd,hhd⟩:∃b,decide (z∈G.take k)=b:=⟨_,rfl⟩;have Y0:=h_ hhd;clear hhd
     go_wp2_with fail
     refine(z6v _ (G.take k) z _ htk).mono ?_
     rintro e w3 ⟨rfl,rfl⟩;rw[Y0.out];have Y1:=Y0.out
     cases hd
     ·have Rk:z∉G.take k:=by simpa using Y1
      have HD:=h_ (XO HK.out (fun i hi=>by rw[hz];exact HYE.out Rk i hi));clear Rk Y1 Y0;go_wp2;go_round
      case rel=>exact⟨k+1,by omega,by go_num,HD⟩
      case measure=>simp[intOf];omega
     ·have hm:z∈G.take k:=by simpa using Y1
      have HR:Hid (yc ns ls f=false):=h_ (by obtain⟨i,h1,h2⟩:=HNO2.out hm;exact CP.out i h1 h2);clear hm Y1 Y0;go_wp2;go_ret
      exact⟨z8 HR.out.symm,Ha⟩
    ·have gi:k=G.length:=o_
     subst gi;have HR:=h_ (HYY.out HK.out);go_wp2;go_ret
     exact⟨z8 HR.out.symm,Ha⟩
attribute [local go_sem ↓] zR zQ
def Nd2 (w:World) (x:Nat) (a b:Int):Prop:=Blk w x 106 #[.int .i64 a,.int .i64 b]
def z5S (p:Pr×Pr) (w:World) (e:Ending) (w':World):Prop:=e= .returned (.tuple #[.agg #[.int .i64 p.1.1,.int .i64 p.1.2],.agg #[.int .i64 p.2.1,.int .i64 p.2.2]])/\Below w.heap.size w w'
theorem z48 {ns ls:List Pr} {f:Int} (h:(qY ns ls f).length =0):boxF ns ls f=((0,0),(0,0)):=by unfold boxF;rw[aao h]
theorem z17 {ns ls:List Pr} {f:Int} (h:¬(qY ns ls f).length =0):boxF ns ls f=boxK ns (qY ns ls f) (qY ns ls f).length :=by unfold boxF;rw[aaq h]
theorem XE (ns:List Pr) (G:List Int) (k:Nat):boxK ns G (k+1)=((mn2 (boxK ns G k).1.1 (ndI ns (G.getD k 0)).1,mn2 (boxK ns G k).1.2 (ndI ns (G.getD k 0)).2),(mx2 (boxK ns G k).2.1 (ndI ns (G.getD k 0)).1,mx2 (boxK ns G k).2.2 (ndI ns (G.getD k 0)).2)):=rfl
theorem Js (vn vl:Value) (ns ls:List Pr) (f:Int) (w:World) (hn:RP w vn ns) (hl:RP w vl ls):
  Calls Tryz.prog 153 #[.agg #[vn,vl],.int .i64 f] w (z5S (boxF ns ls f) w):=by
 obtain⟨An,cn,rfl,Fk,GL,Hl⟩:=hn.formI;unfold maxLen at GL;obtain⟨w0,Gx⟩:∃u,u=((w.alloc (.cells #[.slice An ns.length cn,vl] 27)).alloc (.cells #[.int .i64 0,.int .i64 0] 106)).alloc (.cells #[.int .i64 0,.int .i64 0] 106):=⟨_,rfl⟩;have Hg:Below w.heap.size w w0:=by rw[Gx];exact bel_
 have gy:Blk w0 w.heap.size 27 #[.slice An ns.length cn,vl]:=by rw[Gx];exact((Blk.newAt rfl).alloc _).alloc _
 have Fv:Blk w0 (w.heap.size+1) 106 #[.int .i64 0,.int .i64 0]:=by rw[Gx];exact(Blk.newAt (by simp)).alloc _
 have UF:Blk w0 (w.heap.size+1+1) 106 #[.int .i64 0,.int .i64 0]:=by rw[Gx];exact Blk.newAt (by simp)
 have ry:=h_ (V9 (.slice An ns.length cn) vl ns ls f w0 (hn.below Hg) (hl.below Hg));have bT:=h_ Gx;have hle:=xN ns ls f;have Bx:=h_ (Qn (ns:=ns) (ls:=ls) (f:=f));have bK:=h_ (fun h=>z48 (ns:=ns) (ls:=ls) (f:=f) h);have FV:=h_ (fun h=>z17 (ns:=ns) (ls:=ls) (f:=f) h);have UG:=h_ Hl;clear hn hl Gx Hl;generalize boxF ns ls f=BX at*;generalize qY ns ls f=G at*;have bQ:=fun (u:World) (a:Option Addr) (l c:Nat)=>Lib.run_eql_slice_nil (P:=Tryz.prog) u 31 3 a l c 0 0 Tryz.underlying31
 go_enter Tryz.func153,Tryz.ntmps153
 go_wp2_with fail
 rw[<-bT.out];refine ry.out.mono ?_
 rintro e w1 ⟨v1,rfl,Hi,mE,h9⟩;clear bT ry;have h8:=Hg.trans (h9.mono Hg.size);have Hz:=gy.below h9 gy.lt;have Hx:=Fv.below h9 Fv.lt;have mU:=UF.below h9 UF.lt;clear h9 Hg gy Fv UF
 by_cases h0:G.length=0
 ·have e1:=mE h0
  subst e1;have HR:=bK.out h0;subst HR;obtain⟨r_0,r_1,r_f0,r_f1⟩:=Hx.b2;obtain⟨q_0,q_1,q_f0,q_f1⟩:=mU.b2;have Gw:=Hx.lt;have uT:=mU.lt;have hB:Below w.heap.size w ((((w1.setCell ⟨w.heap.size+1,0,none⟩ (.int .i64 0)).setCell ⟨w.heap.size+1,1,none⟩ (.int .i64 0)).setCell ⟨w.heap.size+1+1,0,none⟩ (.int .i64 0)).setCell ⟨w.heap.size+1+1,1,none⟩ (.int .i64 0)):=bel_
  have HB:=h_ hB;clear hB Hi mE h0 Hz Hx mU h8;go_wp2;exact bodyPost_ret (v:= .tuple #[.agg #[.int .i64 0,.int .i64 0],.agg #[.int .i64 0,.int .i64 0]]) (by simp[results,Tryz.results153,go_sem,r_0,r_1,q_0,q_1,Gw,uT]) rfl ⟨rfl,HB.out⟩
 ·have HR:=FV.out h0
  subst HR;obtain⟨b4,c1,rfl,gc,mL,Hw,hcell⟩:=Hi.blk o_;obtain⟨q0,Na,uU⟩:=Bx.out 0 o_;obtain⟨bn,offn,rfl,Gd,mV⟩:=UG.out o_;have nT:=h_ hcell;have cZ:Hid (∀k,k<ns.length->w1.cell? ⟨bn,offn+k*2,none⟩=some (.int .i64 (ndI ns k).1)/\w1.cell? ⟨bn,offn+k*2+1,none⟩=some (.int .i64 (ndI ns k).2)):=h_ (fun k hk=>⟨(h8.cell (p:=⟨bn,offn+k*2,none⟩) Gd).trans (mV k hk).1,(h8.cell (p:=⟨bn,offn+k*2+1,none⟩) Gd).trans (mV k hk).2⟩);have FE:=nT.out 0 o_;rw[Na] at FE;obtain⟨y0,y1⟩:=cZ.out q0 uU;have M6:bn<w1.heap.size:=aaD Gd h8.size;have iz1:(0:Int)<(G.length:Int):=o_
  have iq1:(0:Int)<=(q0:Int):=o_
  have iq2:(q0:Int)<(ns.length:Int):=o_
  have UH:Hid (boxK ns G 0=(ndI ns q0,ndI ns q0)):=h_ (by show(ndI ns (G.getD 0 0),ndI ns (G.getD 0 0))=_;rw[Na]);clear Hi mE hcell mV mL Na bK FV UG;obtain⟨a_0,a_1⟩:=Hz.c2;have Ht:=Hz.lt;generalize UI:(ndI ns q0).1=na at*;generalize UJ:(ndI ns q0).2=nb at*
  go_wp2_with fail
  go_cut [7,8] (fun s7 s8 wx=>∃x y:Nat,s7= .pointer (some ⟨x,0,none⟩)/\s8= .pointer (some ⟨y,0,none⟩)/\w1.heap.size<=x/\w1.heap.size<=y/\x≠y/\Below w1.heap.size w1 wx/\Nd2 wx x na nb/\Nd2 wx y na nb)
  case first=>
   go_region
   all_goals go_wp2
   all_goals go_meet
   all_goals refine⟨_,_,rfl,rfl,sz_,sz_,by simp,by exact bel_,?_,?_⟩
   all_goals first|(refine Blk.newAt ?_;first|rfl|(simp;done))|(refine Blk.alloc (Blk.newAt ?_) _;first|rfl|(simp;done))
  case rest=>
   obtain⟨x,y,rfl,rfl,hxl,hyl,fu,Gn,bZ,uV⟩:=hcut;obtain⟨w2,gR⟩:∃u,u=wc:=⟨_,rfl⟩;subst gR;have G9:Nd2 w2 x (boxK ns G 0).1.1 (boxK ns G 0).1.2:=by rw[UH.out];rw[<-UI,<-UJ] at bZ;exact bZ
   have rB:Nd2 w2 y (boxK ns G 0).2.1 (boxK ns G 0).2.2:=by rw[UH.out];rw[<-UI,<-UJ] at uV;exact uV
   clear bZ uV FE y0 y1 a_0 a_1 UH UI UJ iq1 iq2;go_wp2
   go_loopw [35] (fun s wr=>∃j:Nat,j<=G.length/\s= .int .i64 j/\Nd2 wr x (boxK ns G j).1.1 (boxK ns G j).1.2/\Nd2 wr y (boxK ns G j).2.1 (boxK ns G j).2.2/\Below w1.heap.size w1 wr) (fun s _=>G.length -(intOf s).toNat)
   case atStart=>exact⟨0,aab _,rfl,G9,rB,Gn⟩
   case round=>
    clear G9 rB Gn;obtain⟨j,hj,rfl,hX,hY,Hb⟩:=hrel;have gx:=Hb.size;have xl:=Blk.lt hX;have yl:=Blk.lt hY;obtain⟨x0,x1,xf0,xf1⟩:=Blk.b2 hX;obtain⟨y0,y1,yf0,yf1⟩:=Blk.b2 hY;have nY:=Hz.below Hb Ht;obtain⟨a_0,a_1⟩:=nY.c2
    by_cases Hf:j<G.length
    ·have Hp:(j:Int)<(G.length:Int):=o_
     have ij1:(0:Int)<=(j:Int):=o_
     obtain⟨q,hq,Br⟩:=Bx.out j Hf;have hxj:=(Hb.cell (p:=⟨b4,j,none⟩) Hw).trans (nT.out j Hf);rw[hq] at hxj;have z0:=(Hb.cell (p:=⟨bn,offn+q*2,none⟩) M6).trans (cZ.out q Br).1;have z1:=(Hb.cell (p:=⟨bn,offn+q*2+1,none⟩) M6).trans (cZ.out q Br).2;have iq1:(0:Int)<=(q:Int):=o_
     have iq2:(q:Int)<(ns.length:Int):=o_
     have HS:=h_ (XE ns G j);rw[hq] at HS;have d1:¬x=y:=fu;have d2:¬y=x:=fun e=>fu e.symm
     have d3:¬x=wr.heap.size:=o_
     have d4:¬wr.heap.size=x:=o_
     have d5:¬y=wr.heap.size:=o_
     have d6:¬wr.heap.size=y:=o_
     generalize (ndI ns q).1=p1 at*;generalize (ndI ns q).2=p2 at*;generalize boxK ns G j=K at*;have HX:Hid (∀u1 u2 u3 u4 o,Blk (((((wr.setCell ⟨x,0,none⟩ u1).setCell ⟨x,1,none⟩ u2).setCell ⟨y,0,none⟩ u3).setCell ⟨y,1,none⟩ u4).alloc o) x 106 #[u1,u2]):=h_ (fun u1 u2 u3 u4 o=>(((((Blk.set_ hX 0 u1).set_ 1 u2).far (p:=⟨y,0,none⟩) d1 u3).far (p:=⟨y,1,none⟩) d1 u4).alloc o));have HY:Hid (∀u1 u2 u3 u4 o,Blk (((((wr.setCell ⟨x,0,none⟩ u1).setCell ⟨x,1,none⟩ u2).setCell ⟨y,0,none⟩ u3).setCell ⟨y,1,none⟩ u4).alloc o) y 106 #[u3,u4]):=h_ (fun u1 u2 u3 u4 o=>(((((Blk.far hY (p:=⟨x,0,none⟩) d2 u1).far (p:=⟨x,1,none⟩) d2 u2).set_ 0 u3).set_ 1 u4).alloc o));have nW:=h_ Hb;clear hq nY hX hY Hb;go_wp2;go_roundw
     case rel=>exact⟨j+1,by omega,by go_num,by rw[HS.out];exact HX.out _ _ _ _ _,by rw[HS.out];exact HY.out _ _ _ _ _,by have:=nW.out;exact bel_⟩
     case measure=>simp[intOf];omega
    ·have GP:j=G.length:=o_
     subst GP;have UK:=Hx.below Hb Hx.lt;have UL:=mU.below Hb mU.lt;obtain⟨r_0,r_1,r_f0,r_f1⟩:=UK.b2;obtain⟨q_0,q_1,q_f0,q_f1⟩:=UL.b2;have Gw:=UK.lt;have uT:=UL.lt;generalize boxK ns G G.length=K at*;have hQl1:=mU.lt;have gj:=h8.trans (Hb.mono h8.size);have gw:=h_ gj;clear nY UK UL Hb Hz Hx mU h8 gj
     go_wp2_with fail
     go_region
     all_goals go_wp2
     all_goals exact bodyPost_ret (v:= .tuple #[.agg #[.int .i64 K.1.1,.int .i64 K.1.2],.agg #[.int .i64 K.2.1,.int .i64 K.2.2]]) (by simp[results,Tryz.results153,go_sem,r_0,r_1,q_0,q_1,Gw,uT]) rfl ⟨rfl,by have:=gw.out;exact bel_⟩
end Go.Proofs.YtnjcpljhmhdhkaaGreat
