/- part 31 -/
import Derived.Test.YtnjcpljhmhdhkaaGreatTPk19
import Derived.Deep.RegionHeld3
import Derived.Deep.DeepCutAuto
set_option linter.unusedSimpArgs false
set_option linter.unusedVariables false
set_option maxRecDepth 100000
set_option maxHeartbeats 16000000
namespace Go.Proofs.YtnjcpljhmhdhkaaGreat
open Go.RowKit
attribute [local go_sem ↓] zU zT
def Nd2 (w:World) (x:Nat) (a b:Int):Prop:=Blk w x 106 #[.int .i64 a,.int .i64 b]
def z6E (p:Pr×Pr) (w:World) (e:Ending) (w':World):Prop:=e= .returned (.tuple #[.agg #[.int .i64 p.1.1,.int .i64 p.1.2],.agg #[.int .i64 p.2.1,.int .i64 p.2.2]])/\Below w.heap.size w w'
theorem z4K {ns ls:List Pr} {f:Int} (h:(qY ns ls f).length =0):boxF ns ls f=((0,0),(0,0)):=by unfold boxF;rw[aao h]
theorem z2L {ns ls:List Pr} {f:Int} (h:¬(qY ns ls f).length =0):boxF ns ls f=boxK ns (qY ns ls f) (qY ns ls f).length :=by unfold boxF;rw[aaq h]
theorem z0k (ns:List Pr) (G:List Int) (k:Nat):boxK ns G (k+1)=((mn2 (boxK ns G k).1.1 (ndI ns (G.getD k 0)).1,mn2 (boxK ns G k).1.2 (ndI ns (G.getD k 0)).2),(mx2 (boxK ns G k).2.1 (ndI ns (G.getD k 0)).1,mx2 (boxK ns G k).2.2 (ndI ns (G.getD k 0)).2)):=rfl
theorem Vh (vn vl:Value) (ns ls:List Pr) (f:Int) (w:World) (hn:RP w vn ns) (hl:RP w vl ls):
  Calls Tryz.prog 153 #[.agg #[vn,vl],.int .i64 f] w (z6E (boxF ns ls f) w):=by
 obtain⟨An,cn,rfl,FQ,GW,Hp⟩:=hn.formI;unfold maxLen at GW;obtain⟨w0,GG⟩:∃u,u=((w.alloc (.cells #[.slice An ns.length cn,vl] 27)).alloc (.cells #[.int .i64 0,.int .i64 0] 106)).alloc (.cells #[.int .i64 0,.int .i64 0] 106):=⟨_,rfl⟩;have Hi:Below w.heap.size w w0:=by rw[GG];exact bel_
 have gE:Blk w0 w.heap.size 27 #[.slice An ns.length cn,vl]:=by rw[GG];exact((Blk.newAt rfl).alloc _).alloc _
 have FS:Blk w0 (w.heap.size+1) 106 #[.int .i64 0,.int .i64 0]:=by rw[GG];exact(Blk.newAt (by simp)).alloc _
 have Nx:Blk w0 (w.heap.size+1+1) 106 #[.int .i64 0,.int .i64 0]:=by rw[GG];exact Blk.newAt (by simp)
 have NZ:=h_ (Vw (.slice An ns.length cn) vl ns ls f w0 (hn.below Hi) (hl.below Hi));have Bs:=h_ GG;have hle:=Qc ns ls f;have Ba:=h_ (QH (ns:=ns) (ls:=ls) (f:=f));have mS:=h_ (fun h=>z4K (ns:=ns) (ls:=ls) (f:=f) h);have cB:=h_ (fun h=>z2L (ns:=ns) (ls:=ls) (f:=f) h);have RV:=h_ Hp;clear hn hl GG Hp;generalize boxF ns ls f=BX at*;generalize qY ns ls f=G at*;have MH:=fun (u:World) (a:Option Addr) (l c:Nat)=>Lib.run_eql_slice_nil (P:=Tryz.prog) u 31 3 a l c 0 0 Tryz.underlying31
 go_enter Tryz.func153,Tryz.ntmps153
 go_wp2_with fail
 rw[<-Bs.out];refine NZ.out.mono ?_
 rintro e w1 ⟨v1,rfl,Hj,Bi,Hb⟩;clear Bs NZ;have Ha:=Hi.trans (Hb.mono Hi.size);have gc:=gE.below Hb gE.lt;have H6:=FS.below Hb FS.lt;have BZ:=Nx.below Hb Nx.lt;clear Hb Hi gE FS Nx
 by_cases h0:G.length=0
 ·have e1:=Bi h0
  subst e1;have HR:=mS.out h0;subst HR;obtain⟨r_0,r_1,r_f0,r_f1⟩:=H6.b2;obtain⟨q_0,q_1,q_f0,q_f1⟩:=BZ.b2;have Gx:=H6.lt;have we:=BZ.lt;have hB:Below w.heap.size w ((((w1.setCell ⟨w.heap.size+1,0,none⟩ (.int .i64 0)).setCell ⟨w.heap.size+1,1,none⟩ (.int .i64 0)).setCell ⟨w.heap.size+1+1,0,none⟩ (.int .i64 0)).setCell ⟨w.heap.size+1+1,1,none⟩ (.int .i64 0)):=bel_
  have HB:=h_ hB;clear hB Hj Bi h0 gc H6 BZ Ha;go_wp2;exact bodyPost_ret (v:= .tuple #[.agg #[.int .i64 0,.int .i64 0],.agg #[.int .i64 0,.int .i64 0]]) (by simp[results,Tryz.results153,go_sem,r_0,r_1,q_0,q_1,Gx,we]) rfl ⟨rfl,HB.out⟩
 ·have HR:=cB.out h0
  subst HR;obtain⟨b4,c1,rfl,gl,MD,H5,hcell⟩:=Hj.blk o_;obtain⟨q0,rg,wg⟩:=Ba.out 0 o_;obtain⟨bn,offn,rfl,Gh,MM⟩:=RV.out o_;have N5:=h_ hcell;have cZ:Hid (∀k,k<ns.length->w1.cell? ⟨bn,offn+k*2,none⟩=some (.int .i64 (ndI ns k).1)/\w1.cell? ⟨bn,offn+k*2+1,none⟩=some (.int .i64 (ndI ns k).2)):=h_ (fun k hk=>⟨(Ha.cell (p:=⟨bn,offn+k*2,none⟩) Gh).trans (MM k hk).1,(Ha.cell (p:=⟨bn,offn+k*2+1,none⟩) Gh).trans (MM k hk).2⟩);have Fy:=N5.out 0 o_;rw[rg] at Fy;obtain⟨y0,y1⟩:=cZ.out q0 wg;have Ny:bn<w1.heap.size:=aaD Gh Ha.size;have iz1:(0:Int)<(G.length:Int):=o_
  have iq1:(0:Int)<=(q0:Int):=o_
  have iq2:(q0:Int)<(ns.length:Int):=o_
  have RW:Hid (boxK ns G 0=(ndI ns q0,ndI ns q0)):=h_ (by show(ndI ns (G.getD 0 0),ndI ns (G.getD 0 0))=_;rw[rg]);clear Hj Bi hcell MM MD rg mS cB RV;obtain⟨a_0,a_1⟩:=gc.c2;have H7:=gc.lt;generalize Ws:(ndI ns q0).1=na at*;generalize Wt:(ndI ns q0).2=nb at*
  go_wp2_with fail
  go_cut [7,8] (fun s7 s8 wx=>∃x y:Nat,s7= .pointer (some ⟨x,0,none⟩)/\s8= .pointer (some ⟨y,0,none⟩)/\w1.heap.size<=x/\w1.heap.size<=y/\x≠y/\Below w1.heap.size w1 wx/\Nd2 wx x na nb/\Nd2 wx y na nb)
  case first=>
   go_region
   all_goals go_wp2
   all_goals go_meet
   all_goals refine⟨_,_,rfl,rfl,sz_,sz_,by simp,by exact bel_,?_,?_⟩
   all_goals first|(refine Blk.newAt ?_;first|rfl|(simp;done))|(refine Blk.alloc (Blk.newAt ?_) _;first|rfl|(simp;done))
  case rest=>
   obtain⟨x,y,rfl,rfl,hxl,wh,Fz,Gl,B7,wi⟩:=hcut;obtain⟨w2,gw⟩:∃u,u=wc:=⟨_,rfl⟩;subst gw;have fi:Nd2 w2 x (boxK ns G 0).1.1 (boxK ns G 0).1.2:=by rw[RW.out];rw[<-Ws,<-Wt] at B7;exact B7
   have RJ:Nd2 w2 y (boxK ns G 0).2.1 (boxK ns G 0).2.2:=by rw[RW.out];rw[<-Ws,<-Wt] at wi;exact wi
   clear B7 wi Fy y0 y1 a_0 a_1 RW Ws Wt iq1 iq2;go_wp2
   go_loopw [35] (fun s wr=>∃j:Nat,j<=G.length/\s= .int .i64 j/\Nd2 wr x (boxK ns G j).1.1 (boxK ns G j).1.2/\Nd2 wr y (boxK ns G j).2.1 (boxK ns G j).2.2/\Below w1.heap.size w1 wr) (fun s _=>G.length -(intOf s).toNat)
   case atStart=>exact⟨0,aab _,rfl,fi,RJ,Gl⟩
   case round=>
    clear fi RJ Gl;obtain⟨j,hj,rfl,hX,hY,Hd⟩:=hrel;have gI:=Hd.size;have xl:=Blk.lt hX;have yl:=Blk.lt hY;obtain⟨x0,x1,xf0,xf1⟩:=Blk.b2 hX;obtain⟨y0,y1,yf0,yf1⟩:=Blk.b2 hY;have rd:=gc.below Hd H7;obtain⟨a_0,a_1⟩:=rd.c2
    by_cases Hf:j<G.length
    ·have Hu:(j:Int)<(G.length:Int):=o_
     have ij1:(0:Int)<=(j:Int):=o_
     obtain⟨q,hq,mr⟩:=Ba.out j Hf;have Rw:=(Hd.cell (p:=⟨b4,j,none⟩) H5).trans (N5.out j Hf);rw[hq] at Rw;have z0:=(Hd.cell (p:=⟨bn,offn+q*2,none⟩) Ny).trans (cZ.out q mr).1;have z1:=(Hd.cell (p:=⟨bn,offn+q*2+1,none⟩) Ny).trans (cZ.out q mr).2;have iq1:(0:Int)<=(q:Int):=o_
     have iq2:(q:Int)<(ns.length:Int):=o_
     have HS:=h_ (z0k ns G j);rw[hq] at HS;have d1:¬x=y:=Fz;have d2:¬y=x:=fun e=>Fz e.symm
     have d3:¬x=wr.heap.size:=o_
     have d4:¬wr.heap.size=x:=o_
     have d5:¬y=wr.heap.size:=o_
     have d6:¬wr.heap.size=y:=o_
     generalize (ndI ns q).1=p1 at*;generalize (ndI ns q).2=p2 at*;generalize boxK ns G j=K at*;have HX:Hid (∀u1 u2 u3 u4 o,Blk (((((wr.setCell ⟨x,0,none⟩ u1).setCell ⟨x,1,none⟩ u2).setCell ⟨y,0,none⟩ u3).setCell ⟨y,1,none⟩ u4).alloc o) x 106 #[u1,u2]):=h_ (fun u1 u2 u3 u4 o=>(((((Blk.set_ hX 0 u1).set_ 1 u2).far (p:=⟨y,0,none⟩) d1 u3).far (p:=⟨y,1,none⟩) d1 u4).alloc o));have HY:Hid (∀u1 u2 u3 u4 o,Blk (((((wr.setCell ⟨x,0,none⟩ u1).setCell ⟨x,1,none⟩ u2).setCell ⟨y,0,none⟩ u3).setCell ⟨y,1,none⟩ u4).alloc o) y 106 #[u3,u4]):=h_ (fun u1 u2 u3 u4 o=>(((((Blk.far hY (p:=⟨x,0,none⟩) d2 u1).far (p:=⟨x,1,none⟩) d2 u2).set_ 0 u3).set_ 1 u4).alloc o));have rc:=h_ Hd;clear hq rd hX hY Hd;go_wp2;go_roundw
     case rel=>exact⟨j+1,by omega,by go_num,by rw[HS.out];exact HX.out _ _ _ _ _,by rw[HS.out];exact HY.out _ _ _ _ _,by have:=rc.out;exact bel_⟩
     case measure=>simp[intOf];omega
    ·have GS:j=G.length:=o_
     subst GS;have Wu:=H6.below Hd H6.lt;have Wv:=BZ.below Hd BZ.lt;obtain⟨r_0,r_1,r_f0,r_f1⟩:=Wu.b2;obtain⟨q_0,q_1,q_f0,q_f1⟩:=Wv.b2;have Gx:=Wu.lt;have we:=Wv.lt;generalize boxK ns G G.length=K at*;have hQl1:=BZ.lt;have H4:=Ha.trans (Hd.mono Ha.size);have H9:=h_ H4;clear rd Wu Wv Hd gc H6 BZ Ha H4
     go_wp2_with fail
     go_region
     all_goals go_wp2
     all_goals exact bodyPost_ret (v:= .tuple #[.agg #[.int .i64 K.1.1,.int .i64 K.1.2],.agg #[.int .i64 K.2.1,.int .i64 K.2.2]]) (by simp[results,Tryz.results153,go_sem,r_0,r_1,q_0,q_1,Gx,we]) rfl ⟨rfl,by have:=H9.out;exact bel_⟩
theorem z2C (vn vl:Value) (ns ls:List Pr) (f:Int) (w:World) (hn:RP w vn ns) (hl:RP w vl ls):
  CB_ 152 #[.agg #[vn,vl],.int .i64 f] w (.int .i64 (boxF ns ls f).2.2):=by
 have Hi:Below w.heap.size w (w.alloc (.cells #[vn,vl] 27)):=bel_
 have hb:=Vh vn vl ns ls f _ (hn.below Hi) (hl.below Hi);obtain⟨K,hK⟩:∃K,boxF ns ls f=K:=⟨_,rfl⟩;rw[hK] at hb⊢;have HB:=h_ hb;clear hK hb
 go_enter Tryz.func152,Tryz.ntmps152
 go_wp2_with fail
 refine HB.out.mono ?_
 rintro e w1 ⟨rfl,Hb⟩;have Ha:=Hi.trans (Hb.mono Hi.size);have Fd:=Ha.size;clear Hb;go_wp2;go_ret
 exact⟨rfl,by exact bel_⟩
theorem z5J {ns ls:List Pr} {d e:Nat} (h:(boxF ns ls d).2.2=(boxF ns ls e).2.2):cmpR ns ls d e=(boxF ns ls d).1.1 -(boxF ns ls e).1.1:=by unfold cmpR;rw[aao h]
theorem z5l {ns ls:List Pr} {d e:Nat} (h:¬(boxF ns ls d).2.2=(boxF ns ls e).2.2):cmpR ns ls d e=(boxF ns ls e).2.2 -(boxF ns ls d).2.2:=by unfold cmpR;rw[aaq h]
theorem z5s (gW:Nat) (vn vl:Value) (ns ls:List Pr) (d e:Nat) (w:World) (hW:Blk w gW 27 #[vn,vl]) (hn:RP w vn ns) (hl:RP w vl ls):
  Calls Tryz.prog 151 #[.int .i64 d,.int .i64 e,.pointer (some ⟨gW,0,none⟩)] w fun en w'=>en= .returned (.int .i64 (cmpR ns ls d e))/\Below w.heap.size w w':=by
 have GB:=z4M (ns:=ns) (ls:=ls) (f:=(d:Int));have hbe:=z4M (ns:=ns) (ls:=ls) (f:=(e:Int));obtain⟨⟨d1,d2,d3,d4⟩,d5,d6,d7,d8⟩:=GB;obtain⟨⟨e1,e2,e3,e4⟩,e5,e6,e7,e8⟩:=hbe;have HS:=h_ (fun h=>z5J (ns:=ns) (ls:=ls) (d:=d) (e:=e) h);have HD:=h_ (fun h=>z5l (ns:=ns) (ls:=ls) (d:=d) (e:=e) h);have hTd:=fun (v:World) (h1:RP v vn ns) (h2:RP v vl ls)=>z2C vn vl ns ls d v h1 h2
 have hTe:=fun (v:World) (h1:RP v vn ns) (h2:RP v vl ls)=>z2C vn vl ns ls e v h1 h2
 have hBd:=fun (v:World) (h1:RP v vn ns) (h2:RP v vl ls)=>Vh vn vl ns ls d v h1 h2
 have hBe:=fun (v:World) (h1:RP v vn ns) (h2:RP v vl ls)=>Vh vn vl ns ls e v h1 h2
 generalize cmpR ns ls d e=R at*;obtain⟨x,hx⟩:∃x,boxF ns ls (d:Int)=x:=⟨_,rfl⟩;obtain⟨y,hy⟩:∃y,boxF ns ls (e:Int)=y:=⟨_,rfl⟩;rw[hx] at d1 d2 d3 d4 d5 d6 d7 d8 HS HD hTd hBd;rw[hy] at e1 e2 e3 e4 e5 e6 e7 e8 HS HD hTe hBe;have HTd:=h_ hTd;have HTe:=h_ hTe;have HBd:=h_ hBd;have HBe:=h_ hBe;obtain⟨a_0,a_1⟩:=hW.c2;have hWl:=hW.lt;clear hx hy hTd hTe hBd hBe
 go_enter Tryz.func151,Tryz.ntmps151
 go_wp2_with fail
 (refine z7 k_ k_ (fun hG=>?_))
 repeat (go_big_quiet_step (first|(go_at_call_of 152 d;exact zE (HTd.out _ (RS.grw _ hn) (RS.grw _ hl)))|(go_at_call_of 152 e;exact zE (HTe.out _ (RS.grw _ hn) (RS.grw _ hl)))))
 refine wpQuiet_nil ?_
 clear hG;rintro w1 ⟨⟨_,Hb⟩,rfl⟩;have BP:=hn.below Hb;have FU:=hl.below Hb;have gc:=hW.below Hb hWl;have hw1l:=gc.lt;clear a_0 a_1
 by_cases Fz:x.2.2=y.2.2
 ·have e9:(x.2.2==y.2.2)=true:=beq_iff_eq.2 Fz
  have e10:(x.2.2 != y.2.2)=false:=by rw[bne,e9];rfl
  have HR:=h_ (HS.out Fz);clear Fz;obtain⟨a_0,a_1⟩:=gc.c2
  go_wp2_with fail
  refine(HBd.out _ BP FU).mono ?_
  rintro en w2 ⟨rfl,Hh⟩;have gG:=Hb.trans (Hh.mono Hb.size);have gX:=gc.below Hh hw1l;have hw2l:=gX.lt;have bE:=BP.below Hh;have CI:=FU.below Hh;have Hg:Below w2.heap.size w2 ((w2.alloc (.cells #[.int .i64 x.1.1,.int .i64 x.1.2] 106)).alloc (.cells #[.int .i64 x.2.1,.int .i64 x.2.2] 106)):=bel_
  have mQ:=h_ (HBe.out _ (bE.below Hg) (CI.below Hg));have q0:((w2.alloc (.cells #[.int .i64 x.1.1,.int .i64 x.1.2] 106)).alloc (.cells #[.int .i64 x.2.1,.int .i64 x.2.2] 106)).cell? ⟨w2.heap.size,0,none⟩=some (.int .i64 x.1.1):=((Blk.newAt (cs:= #[.int .i64 x.1.1,.int .i64 x.1.2]) rfl).alloc _).cell 0;have GF:((w2.alloc (.cells #[.int .i64 x.1.1,.int .i64 x.1.2] 106)).alloc (.cells #[.int .i64 x.2.1,.int .i64 x.2.2] 106)).heap.size =w2.heap.size+1+1:=by simp
  have MF:=gG.trans (Hg.mono gG.size);obtain⟨b_0,b_1⟩:=gX.c2;clear Hb Hh gc Hg a_0 a_1 gG
  go_wp2_with fail
  obtain⟨w3,f8⟩:∃u,u=((w2.alloc (.cells #[.int .i64 x.1.1,.int .i64 x.1.2] 106)).alloc (.cells #[.int .i64 x.2.1,.int .i64 x.2.2] 106)):=⟨_,rfl⟩;rw[<-f8] at q0 GF MF mQ⊢;clear f8;refine mQ.out.mono ?_
  rintro en w4 ⟨rfl,H5⟩;have q1:=(H5.cell (p:=⟨w2.heap.size,0,none⟩) (show w2.heap.size<w3.heap.size by omega)).trans q0;have BA:=H5.size;have l1:w2.heap.size<w4.heap.size:=o_
  have hb14:=MF.trans (H5.mono MF.size);have hs14:=hb14.size;clear H5 q0 MF mQ b_0 b_1;go_wp2;go_ret
  exact⟨zi (by rw[HR.out]),by exact bel_⟩
 ·have e9:(x.2.2==y.2.2)=false:=beq_eq_false_iff_ne.2 Fz
  have e10:(x.2.2 != y.2.2)=true:=by rw[bne,e9];rfl
  have HR:=h_ (HD.out Fz);clear Fz;go_wp2;go_ret
  exact⟨zi (by rw[HR.out]),by exact bel_⟩
attribute [local go_sem ↓] zU zT
theorem z7U (vn vl:Value) (ns ls:List Pr) (f:Int) (w:World) (hn:RP w vn ns) (hl:RP w vl ls):
  Calls Tryz.prog 191 #[.agg #[vn,vl],.int .i64 f] w (z6E (boxF ns ls f) w):=by
 obtain⟨An,cn,rfl,FQ,GW,Hp⟩:=hn.formI;unfold maxLen at GW;obtain⟨w0,GG⟩:∃u,u=((w.alloc (.cells #[.slice An ns.length cn,vl] 27)).alloc (.cells #[.int .i64 0,.int .i64 0] 106)).alloc (.cells #[.int .i64 0,.int .i64 0] 106):=⟨_,rfl⟩;have Hi:Below w.heap.size w w0:=by rw[GG];exact bel_
 have gE:Blk w0 w.heap.size 27 #[.slice An ns.length cn,vl]:=by rw[GG];exact((Blk.newAt rfl).alloc _).alloc _
 have FS:Blk w0 (w.heap.size+1) 106 #[.int .i64 0,.int .i64 0]:=by rw[GG];exact(Blk.newAt (by simp)).alloc _
 have Nx:Blk w0 (w.heap.size+1+1) 106 #[.int .i64 0,.int .i64 0]:=by rw[GG];exact Blk.newAt (by simp)
 have NZ:=h_ (JW (.slice An ns.length cn) vl ns ls f w0 (hn.below Hi) (hl.below Hi));have Bs:=h_ GG;have hle:=Qc ns ls f;have Ba:=h_ (QH (ns:=ns) (ls:=ls) (f:=f));have mS:=h_ (fun h=>z4K (ns:=ns) (ls:=ls) (f:=f) h);have cB:=h_ (fun h=>z2L (ns:=ns) (ls:=ls) (f:=f) h);have RV:=h_ Hp;generalize boxF ns ls f=BX at*;generalize qY ns ls f=G at*
 go_enter Tryz.func191,Tryz.ntmps191
 go_wp2_with fail
 rw[<-Bs.out];refine NZ.out.mono ?_
 rintro e w1 ⟨v1,rfl,Hj,Hb⟩;have Ha:=Hi.trans (Hb.mono Hi.size);have gc:=gE.below Hb gE.lt;have H6:=FS.below Hb FS.lt;have BZ:=Nx.below Hb Nx.lt
 by_cases h0:G.length=0
 ·obtain⟨Av,cv,rfl⟩:=OwnE.form (t:=3) (enc:=vI) Hj
  have e0:((G.length:Int)==0)=true:=by rw[h0];rfl
  have HR:=mS.out h0;subst HR;obtain⟨r_0,r_1,r_f0,r_f1⟩:=H6.b2;obtain⟨q_0,q_1,q_f0,q_f1⟩:=BZ.b2;have Gx:=H6.lt;have we:=BZ.lt;have hB:Below w.heap.size w ((((w1.setCell ⟨w.heap.size+1,0,none⟩ (.int .i64 0)).setCell ⟨w.heap.size+1,1,none⟩ (.int .i64 0)).setCell ⟨w.heap.size+1+1,0,none⟩ (.int .i64 0)).setCell ⟨w.heap.size+1+1,1,none⟩ (.int .i64 0)):=bel_
  have HB:=h_ hB;go_wp2;exact bodyPost_ret (v:= .tuple #[.agg #[.int .i64 0,.int .i64 0],.agg #[.int .i64 0,.int .i64 0]]) (by simp[results,Tryz.results191,go_sem,r_0,r_1,q_0,q_1,Gx,we]) rfl ⟨rfl,HB.out⟩
 ·have HR:=cB.out h0
  subst HR;obtain⟨b4,c1,rfl,gl,MD,H5,hcell⟩:=Hj.blk o_;obtain⟨q0,rg,wg⟩:=Ba.out 0 o_;obtain⟨bn,offn,rfl,Gh,MM⟩:=RV.out o_;have e0:((G.length:Int)==0)=false:=beq_eq_false_iff_ne.2 o_;have N5:=h_ hcell;have cZ:Hid (∀k,k<ns.length->w1.cell? ⟨bn,offn+k*2,none⟩=some (.int .i64 (ndI ns k).1)/\w1.cell? ⟨bn,offn+k*2+1,none⟩=some (.int .i64 (ndI ns k).2)):=h_ (fun k hk=>⟨(Ha.cell (p:=⟨bn,offn+k*2,none⟩) Gh).trans (MM k hk).1,(Ha.cell (p:=⟨bn,offn+k*2+1,none⟩) Gh).trans (MM k hk).2⟩);have Fy:=N5.out 0 o_;rw[rg] at Fy;obtain⟨y0,y1⟩:=cZ.out q0 wg;have Ny:bn<w1.heap.size:=aaD Gh Ha.size;have iz1:(0:Int)<(G.length:Int):=o_
  have iq1:(0:Int)<=(q0:Int):=o_
  have iq2:(q0:Int)<(ns.length:Int):=o_
  have RW:Hid (boxK ns G 0=(ndI ns q0,ndI ns q0)):=h_ (by show(ndI ns (G.getD 0 0),ndI ns (G.getD 0 0))=_;rw[rg]);obtain⟨a_0,a_1⟩:=gc.c2;have H7:=gc.lt;generalize Ws:(ndI ns q0).1=na at*;generalize Wt:(ndI ns q0).2=nb at*
  go_wp2_with fail
  go_cut [7] (fun s7 wx=>∃x:Nat,s7= .pointer (some ⟨x,0,none⟩)/\w1.heap.size<=x/\Below w1.heap.size w1 wx/\Nd2 wx x na nb)
  case first=>
   go_region
   all_goals go_wp2
   all_goals go_meet
   all_goals refine⟨_,rfl,sz_,by exact bel_,?_⟩
   all_goals first|(refine Blk.newAt ?_;first|rfl|(simp;done))|(refine Blk.alloc (Blk.newAt ?_) _;first|rfl|(simp;done))
  case rest=>
   obtain⟨x,rfl,hxl,Gl,B7⟩:=hcut;obtain⟨w2,gw⟩:∃u,u=wc:=⟨_,rfl⟩;subst gw;have hx2:=Blk.lt B7;obtain⟨xc0,xc1⟩:=Blk.c2 B7;have fi:Nd2 (w2.alloc (.cells #[.int .i64 na,.int .i64 nb] 106)) x (boxK ns G 0).1.1 (boxK ns G 0).1.2:=by rw[RW.out];rw[<-Ws,<-Wt] at B7;exact Blk.alloc B7 _
   have RJ:Nd2 (w2.alloc (.cells #[.int .i64 na,.int .i64 nb] 106)) w2.heap.size (boxK ns G 0).2.1 (boxK ns G 0).2.2:=by rw[RW.out,<-Ws,<-Wt];exact Blk.newAt rfl
   have r5:=Gl.alloc Gl.size (.cells #[.int .i64 na,.int .i64 nb] 106);have wh:w1.heap.size<=w2.heap.size:=Gl.size;have Fz:x≠w2.heap.size:=o_
   go_wp2;generalize w2.heap.size=y at*
   go_loopw [9] (fun s wr=>∃j:Nat,j<=G.length/\s= .int .i64 j/\Nd2 wr x (boxK ns G j).1.1 (boxK ns G j).1.2/\Nd2 wr y (boxK ns G j).2.1 (boxK ns G j).2.2/\Below w1.heap.size w1 wr) (fun s _=>G.length -(intOf s).toNat)
   case atStart=>exact⟨0,aab _,rfl,fi,RJ,r5⟩
   case round=>
    obtain⟨j,hj,rfl,hX,hY,Hd⟩:=hrel;have gI:=Hd.size;have xl:=Blk.lt hX;have yl:=Blk.lt hY;obtain⟨x0,x1,xf0,xf1⟩:=Blk.b2 hX;obtain⟨y0,y1,yf0,yf1⟩:=Blk.b2 hY;have rd:=gc.below Hd H7;obtain⟨a_0,a_1⟩:=rd.c2;have hWl:=rd.lt
    by_cases Hf:j<G.length
    ·have Hu:(j:Int)<(G.length:Int):=o_
     have ij1:(0:Int)<=(j:Int):=o_
     obtain⟨q,hq,mr⟩:=Ba.out j Hf;have Rw:=(Hd.cell (p:=⟨b4,j,none⟩) H5).trans (N5.out j Hf);rw[hq] at Rw;have z0:=(Hd.cell (p:=⟨bn,offn+q*2,none⟩) Ny).trans (cZ.out q mr).1;have z1:=(Hd.cell (p:=⟨bn,offn+q*2+1,none⟩) Ny).trans (cZ.out q mr).2;have iq1:(0:Int)<=(q:Int):=o_
     have iq2:(q:Int)<(ns.length:Int):=o_
     have hb4r:b4<wr.heap.size:=o_
     have hbnr:bn<wr.heap.size:=o_
     have HS:=h_ (z0k ns G j);rw[hq] at HS;have d1:¬x=y:=Fz;have d2:¬y=x:=fun e=>Fz e.symm
     have d3:¬x=wr.heap.size:=o_
     have d4:¬wr.heap.size=x:=o_
     have d5:¬y=wr.heap.size:=o_
     have d6:¬wr.heap.size=y:=o_
     generalize (ndI ns q).1=p1 at*;generalize (ndI ns q).2=p2 at*;generalize boxK ns G j=K at*;have HX:Hid (∀u1 u2 u3 u4 o,Blk (((((wr.setCell ⟨x,0,none⟩ u1).setCell ⟨x,1,none⟩ u2).setCell ⟨y,0,none⟩ u3).setCell ⟨y,1,none⟩ u4).alloc o) x 106 #[u1,u2]):=h_ (fun u1 u2 u3 u4 o=>(((((Blk.set_ hX 0 u1).set_ 1 u2).far (p:=⟨y,0,none⟩) d1 u3).far (p:=⟨y,1,none⟩) d1 u4).alloc o));have HY:Hid (∀u1 u2 u3 u4 o,Blk (((((wr.setCell ⟨x,0,none⟩ u1).setCell ⟨x,1,none⟩ u2).setCell ⟨y,0,none⟩ u3).setCell ⟨y,1,none⟩ u4).alloc o) y 106 #[u3,u4]):=h_ (fun u1 u2 u3 u4 o=>(((((Blk.far hY (p:=⟨x,0,none⟩) d2 u1).far (p:=⟨x,1,none⟩) d2 u2).set_ 0 u3).set_ 1 u4).alloc o));have rc:=h_ Hd
     go_wp2_with fail
     go_region
     all_goals go_wp2
     all_goals go_roundw
     case rel=>exact⟨j+1,by omega,by go_num,by rw[HS.out];exact HX.out _ _ _ _ _,by rw[HS.out];exact HY.out _ _ _ _ _,by have:=rc.out;exact bel_⟩
     case measure=>simp[intOf];omega
    ·have GS:j=G.length:=o_
     subst GS;have Wu:=H6.below Hd H6.lt;have Wv:=BZ.below Hd BZ.lt;obtain⟨r_0,r_1,r_f0,r_f1⟩:=Wu.b2;obtain⟨q_0,q_1,q_f0,q_f1⟩:=Wv.b2;have Gx:=Wu.lt;have we:=Wv.lt;generalize boxK ns G G.length=K at*;have hQl1:=BZ.lt;have H4:=Ha.trans (Hd.mono Ha.size);have H9:=h_ H4
     go_wp2_with fail
     go_region
     all_goals go_wp2
     all_goals exact bodyPost_ret (v:= .tuple #[.agg #[.int .i64 K.1.1,.int .i64 K.1.2],.agg #[.int .i64 K.2.1,.int .i64 K.2.2]]) (by simp[results,Tryz.results191,go_sem,r_0,r_1,q_0,q_1,Gx,we]) rfl ⟨rfl,by have:=H9.out;exact bel_⟩
end Go.Proofs.YtnjcpljhmhdhkaaGreat
