/- part 27 -/
import Derived.Test.YtnjcpljhmhdhkaaGreatUPk19
import Derived.Deep.RegionHeld3
import Derived.Deep.DeepCutAuto
set_option linter.unusedSimpArgs false
set_option linter.unusedVariables false
set_option maxRecDepth 100000
set_option maxHeartbeats 16000000
namespace Go.Proofs.YtnjcpljhmhdhkaaGreat
open Go.RowKit
theorem VE (vn vl:Value) (ns ls:List Pr) (f:Int) (w:World) (hn:RP w vn ns) (hl:RP w vl ls):
  Calls Tryz.prog 189 #[.agg #[vn,vl],.int .i64 f] w (RetN (qV ns ls f) w):=by
 have fe:Below w.heap.size w (w.alloc (.cells #[vn,vl] 27)):=bel_
 have BP:Blk (w.alloc (.cells #[vn,vl] 27)) w.heap.size 27 #[vn,vl]:=Blk.newAt rfl;have GB:=zq ns ls;have CX:=h_ (fun (v:World) (hb:Below w.heap.size w v)=>jP vn vl ns ls v (hn.below hb) (hl.below hb));obtain⟨i0,hi,iz0,iz1,iz2⟩:=info_parts ql
 cases Gp:inB f 0 (((z9 ns ls).length :Int) -1)
 ·have HR:=h_ (kF (f:=f) Gp)
  generalize z9 ns ls=F at*;have Uc:=h_ Gp;clear Gp
  go_enter Tryz.func189,Tryz.ntmps189
  go_wp2_with fail
  refine(CX.out _ fe).mono ?_
  rintro e w1 ⟨v1,rfl,Hj,h9⟩;obtain⟨A1,c1,rfl⟩:=Hj.form;have h8:=fe.trans (h9.mono fe.size)
  go_wp2_with fail
  refine(zm f 0 _ false _ Uc.out).mono ?_
  rintro e w' ⟨rfl,rfl⟩;go_wp2;go_ret
  exact⟨_,rfl,by rw[HR.out];exact OwnI.nil _ _,fun _=>rfl,h8⟩
 ·obtain⟨k,rfl⟩:∃k:Nat,f=k:=⟨f.toNat,by have:=zd.1 Gp;omega⟩
  have hk:k<(z9 ns ls).length :=by have:=zd.1 Gp;omega
  have HR:=h_ (QJ hk);obtain⟨Hn,Nf,NJ,BN⟩:=y6 hk;generalize z9 ns ls=F at*;generalize hff:F.getD k []=ff at*;have Hy:=h_ hff;have Ym:=h_ Nf;have Ud:=h_ (fun j hj=>z0Z (ls:=ls) (f:=ff) (k:=j) hj);have mQ:=h_ (fun j hj=>XH (ls:=ls) (f:=ff) (k:=j) hj);have mU:Hid (nodK ls ff 0=[]):=h_ rfl;have HNF:Hid (nodF ls ff=nodK ls ff ff.length):=h_ rfl;have HFL:=h_ (VQ ls ff);have Uc:=h_ Gp;have F5:(k:Int)<(F.length:Int):=o_
  have ik1:(0:Int)<=(k:Int):=o_
  clear Gp Hn Nf hff
  go_enter Tryz.func189,Tryz.ntmps189
  go_wp2_with fail
  refine(CX.out _ fe).mono ?_
  rintro e w1 ⟨v1,rfl,Hj,h9⟩;have h8:=fe.trans (h9.mono fe.size);have gg:=BP.below h9 BP.lt;obtain⟨b4,c1,rr,rfl,Gb,uA,Hv,Bs,Nd⟩:=Hj.get hk;rw[Hy.out] at Nd;have fG:=za ff;obtain⟨b5,c2,rfl,fa,GR,gf,BQ⟩:=Nd.blk o_;rw[fG] at BQ Bs fa;have Yn:=h_ BQ;have Gi:OwnI w1.heap.size w1 (.slice none 0 0) []:=OwnI.nil _ _;clear h9 fe BP Hj BQ Nd uA GR fG
  go_wp2_with fail
  refine(zm _ 0 _ true _ Uc.out).mono ?_
  rintro e w' ⟨rfl,rfl⟩;have hW1l:=gg.lt;go_wp2
  go_loopw [6,22] (fun v x wr=>∃j:Nat,j<=ff.length/\x= .int .i64 j/\OwnI w1.heap.size wr v (nodK ls ff j)/\Below w1.heap.size w1 wr) (fun _ x _=>ff.length -(intOf x).toNat)
  case atStart=>exact⟨0,aab _,rfl,by rw[mU.out];exact Gi,aaj _ _⟩
  case round=>
   clear Gi;obtain⟨j,hj,rfl,ho,Hb⟩:=hrel;have hW:=gg.below Hb hW1l;have Yo:=Hb.size;obtain⟨a_0,a_1⟩:=hW.c2
   by_cases Hd:j<ff.length
   ·have Hr:(j:Int)<(ff.length:Int):=o_
    have ij1:(0:Int)<=(j:Int):=o_
    have hx:=(Hb.cell (p:=⟨b5,j,none⟩) gf).trans (Yn.out j Hd);rw[qj] at hx;have Cc:ff.getD j 0<2*ls.length:=Ym.out _ (by rw[List.getD,aac Hd];exact abh Hd);have HS:=h_ (Ud.out j Hd);have hgl:=mQ.out j hj;generalize ff.getD j 0=d at*;have Nx:RP wr vl ls:=hl.below (h8.trans (Hb.mono h8.size))
    go_wp2_with fail
    refine(yT _ _ ls d _ Nx Cc).mono ?_
    rintro e w3 ⟨rfl,Hf⟩;have Hq:=ho.kept Hf;have gz:=Hb.trans (Hf.mono Hb.size);have fA:=Hf.size;generalize zc ls d=z at*;generalize nodK ls ff j=G at*;clear Hf ho hW Hb hx Nx a_0 a_1
    go_wp2_with (at_builtin;refine zR rfl _ _ rfl w1.heap.size _ G z rfl w3.heap.size rfl (qH rfl) (Hq.alloc _) o_ (by simp;omega) ?_)
    intro v2 w2 Hm Gr gS;have gn:Below w1.heap.size w1 w2:=(gz.alloc gz.size (.cells #[.int .i64 z] 3)).grown Gr (by simp;omega) (fun q hq=>by have:=(Hq.lt q hq).1;omega);clear Gr gS Hq gz;go_wp2;go_roundw
    case rel=>exact⟨j+1,by omega,by go_num,by rw[HS.out];exact Hm,gn⟩
    case measure=>simp[intOf];omega
   ·have GV:j=ff.length:=o_
    subst GV;have Yg:Hid (ff.length=0->False):=h_ (fun h=>by omega);go_wp2;go_ret
    exact⟨_,rfl,by rw[HR.out,HNF.out];exact ho.mono h8.size,fun h=>(Yg.out (by rw[HR.out,HFL.out] at h;exact h)).elim,h8.trans (Hb.mono h8.size)⟩
theorem z9K {w:World} {A:Option Addr} {n c:Nat} {l:List Int} (h:RI w (.slice A n c) l) (k:Nat) (hk:k<=l.length):RI w (.slice A k c) (l.take k):=by
 obtain⟨h0,A',c',he,h1,h2,h3⟩:=h
 injection he with e1 e2 e3
 subst e1;subst e3
 refine⟨by simp,A,c,by rw[abn,Nat.min_eq_left hk],by simp;omega,by simp;omega,fun hp=>?_⟩
 rw[abn] at hp;obtain⟨b,off,hA,hb,Ho⟩:=h3 o_;refine⟨b,off,hA,hb,fun j u hu=>Ho j u ?_⟩
 rw[List.map_take,List.getElem?_take] at hu
 split at hu
 ·exact hu
 ·cases hu
theorem z8p {ns ls:List Pr} {f:Int} (h:f=je ns ls):yf ns ls f=false:=by simp[yf,h]
theorem zaM {G:List Int} {k:Nat} (hk:k<G.length) (h:G.getD k 0∈G.take k):∃i,i<k/\G.getD i 0=G.getD k 0:=by
 obtain⟨i,hi,e⟩:=abb h;rw[abn] at hi;refine⟨i,by omega,?_⟩
 rw[abq] at e;rw[<-e,aa7,aac o_];rfl
theorem zav {G:List Int} {k:Nat} (hk:k<G.length) (h:G.getD k 0∉G.take k):∀i,i<k->G.getD i 0≠G.getD k 0:=by
 intro i hi e
 apply h
 rw[<-e,aa7,aac (show i<G.length by omega)]
 show G[i]∈_
 have:G[i]=(G.take k)[i]'(by simp;omega):=by rw[abq]
 rw[this];exact abh _
theorem z3W (vn vl:Value) (ns ls:List Pr) (f:Int) (w:World) (hn:RP w vn ns) (hl:RP w vl ls):
  CB_ 111 #[.agg #[vn,vl],.int .i64 f] w (.bool (yf ns ls f)):=by
 have fe:Below w.heap.size w (w.alloc (.cells #[vn,vl] 27)):=bel_
 have BP:Blk (w.alloc (.cells #[vn,vl] 27)) w.heap.size 27 #[vn,vl]:=Blk.newAt rfl;have hle:=QA ns ls f;have mU:=h_ (fun h=>z2Q (ns:=ns) (ls:=ls) (f:=f) h);have F9:=h_ (fun i j h1 h2 h3=>z32 (ns:=ns) (ls:=ls) (f:=f) (i:=i) (j:=j) h1 h2 h3);have b7:=h_ (fun h=>z8p (ns:=ns) (ls:=ls) (f:=f) h);have HY:=h_ (fun h0 h=>z4g (ns:=ns) (ls:=ls) (f:=f) h0 h);have U1:=h_ (fun (v:World) (hb:Below w.heap.size w v)=>VE vn vl ns ls f v (hn.below hb) (hl.below hb));have M8:=h_ (fun (v:World) (hb:Below w.heap.size w v)=>Xy vn vl ns ls v (hn.below hb) (hl.below hb));generalize qV ns ls f=G at*;generalize je ns ls=o at*;have nz:=fun (u:World) (a:Option Addr) (l c:Nat)=>Lib.run_eql_slice_nil (P:=Tryz.prog) u 31 3 a l c 0 0 Tryz.underlying31
 go_enter Tryz.func111,Tryz.ntmps111
 go_wp2_with fail
 refine(U1.out _ fe).mono ?_
 rintro e w1 ⟨v1,rfl,Hj,M1,h9⟩;have h8:=fe.trans (h9.mono fe.size);have gg:=BP.below h9 BP.lt;clear h9 fe BP
 by_cases h0:G.length=0
 ·have e1:=M1 h0
  subst e1;have HR:=h_ (mU.out h0);clear Hj M1 h0;go_wp2;go_ret
  exact⟨z8 HR.out.symm,h8⟩
 ·have nZ:=Hj.reads
  obtain⟨b4,c1,rfl,Gb,uA,Hv,hcell⟩:=Hj.blk o_;have uB:=h_ hcell;clear Hj hcell M1;obtain⟨a_0,a_1⟩:=gg.c2
  go_wp2_with fail
  refine(M8.out _ h8).mono ?_
  rintro e w2 ⟨rfl,He⟩;have Ha:=h8.trans (He.mono h8.size);have VB:=nZ.below He;have HCE2:Hid (∀q,q<G.length->w2.cell? ⟨b4,q,none⟩=some (.int .i64 (G.getD q 0))):=h_ (fun q hq=>(He.cell (p:=⟨b4,q,none⟩) Hv).trans (uB.out q hq));clear h8 gg He nZ uB a_0 a_1
  by_cases Yp:f=o
  ·have e1:(f==o)=true:=beq_iff_eq.2 Yp
   have HR:=h_ (b7.out Yp);go_wp2;go_ret
   exact⟨z8 HR.out.symm,Ha⟩
  ·have e1:(f==o)=false:=beq_eq_false_iff_ne.2 Yp
   have HYY:Hid (disK G G.length->yf ns ls f=true):=h_ (fun h=>by rw[HY.out o_ h];simp[Yp]);go_wp2
   go_loop [21] (fun x=>∃k:Nat,k<=G.length/\x= .int .i64 k/\Hid (disK G k)) (fun x=>G.length -(intOf x).toNat)
   case atStart=>exact⟨0,aab _,rfl,h_ (z1c G)⟩
   case round=>
    obtain⟨k,hk,rfl,HK⟩:=hrel
    by_cases Hd:k<G.length
    ·have Hr:(k:Int)<(G.length:Int):=o_
     have ik1:(0:Int)<=(k:Int):=o_
     have ik2:(k:Int)<=(c1:Int):=o_
     have fK:=HCE2.out k Hd;have htk:=z9K VB k hk;have HNO2:=h_ (fun h=>zaM (G:=G) Hd h);have HYE:=h_ (fun h=>zav (G:=G) Hd h);have Ba:Hid (∀i,i<k->G.getD i 0=G.getD k 0->yf ns ls f=false):=h_ (fun i hi h=>F9.out i k hi Hd h);generalize hz:G.getD k 0=z at*;obtain⟨hd,hhd⟩:∃b,decide (z∈G.take k)=b:=⟨_,rfl⟩;have HHD:=h_ hhd;clear hhd
     go_wp2_with fail
     refine(z8K _ (G.take k) z _ htk).mono ?_
     rintro e w3 ⟨rfl,rfl⟩;rw[HHD.out];have hHD:=HHD.out
     cases hd
     ·have uw:z∉G.take k:=by simpa using hHD
      have HD:=h_ (z0E HK.out (fun i hi=>by rw[hz];exact HYE.out uw i hi));clear uw hHD HHD;go_wp2;go_round
      case rel=>exact⟨k+1,by omega,by go_num,HD⟩
      case measure=>simp[intOf];omega
     ·have hm:z∈G.take k:=by simpa using hHD
      have HR:Hid (yf ns ls f=false):=h_ (by obtain⟨i,h1,h2⟩:=HNO2.out hm;exact Ba.out i h1 h2);clear hm hHD HHD;go_wp2;go_ret
      exact⟨z8 HR.out.symm,Ha⟩
    ·have Hw:k=G.length:=o_
     subst Hw;have HR:=h_ (HYY.out HK.out);go_wp2;go_ret
     exact⟨z8 HR.out.symm,Ha⟩
attribute [local go_sem ↓] qb qf
def Nd2 (w:World) (x:Nat) (a b:Int):Prop:=Blk w x 106 #[.int .i64 a,.int .i64 b]
def z8R (p:Pr×Pr) (w:World) (e:Ending) (w':World):Prop:=e= .returned (.tuple #[.agg #[.int .i64 p.1.1,.int .i64 p.1.2],.agg #[.int .i64 p.2.1,.int .i64 p.2.2]])/\Below w.heap.size w w'
theorem z68 {ns ls:List Pr} {f:Int} (h:(qV ns ls f).length =0):boxF ns ls f=((0,0),(0,0)):=by unfold boxF;rw[aao h]
theorem z3a {ns ls:List Pr} {f:Int} (h:¬(qV ns ls f).length =0):boxF ns ls f=boxK ns (qV ns ls f) (qV ns ls f).length :=by unfold boxF;rw[aaq h]
theorem z1t (ns:List Pr) (G:List Int) (k:Nat):boxK ns G (k+1)=((mn2 (boxK ns G k).1.1 (ndI ns (G.getD k 0)).1,mn2 (boxK ns G k).1.2 (ndI ns (G.getD k 0)).2),(mx2 (boxK ns G k).2.1 (ndI ns (G.getD k 0)).1,mx2 (boxK ns G k).2.2 (ndI ns (G.getD k 0)).2)):=rfl
theorem XX (vn vl:Value) (ns ls:List Pr) (f:Int) (w:World) (hn:RP w vn ns) (hl:RP w vl ls):
  Calls Tryz.prog 153 #[.agg #[vn,vl],.int .i64 f] w (z8R (boxF ns ls f) w):=by
 obtain⟨An,cn,rfl,ci,fC,Ht⟩:=hn.formI;unfold maxLen at fC;obtain⟨w0,Ge⟩:∃u,u=((w.alloc (.cells #[.slice An ns.length cn,vl] 27)).alloc (.cells #[.int .i64 0,.int .i64 0] 106)).alloc (.cells #[.int .i64 0,.int .i64 0] 106):=⟨_,rfl⟩;have Hg:Below w.heap.size w w0:=by rw[Ge];exact bel_
 have gD:Blk w0 w.heap.size 27 #[.slice An ns.length cn,vl]:=by rw[Ge];exact((Blk.newAt rfl).alloc _).alloc _
 have bX:Blk w0 (w.heap.size+1) 106 #[.int .i64 0,.int .i64 0]:=by rw[Ge];exact(Blk.newAt (by simp)).alloc _
 have hQ0:Blk w0 (w.heap.size+1+1) 106 #[.int .i64 0,.int .i64 0]:=by rw[Ge];exact Blk.newAt (by simp)
 have U1:=h_ (VE (.slice An ns.length cn) vl ns ls f w0 (hn.below Hg) (hl.below Hg));have Bx:=h_ Ge;have hle:=QA ns ls f;have b7:=h_ (Z6 (ns:=ns) (ls:=ls) (f:=f));have mU:=h_ (fun h=>z68 (ns:=ns) (ls:=ls) (f:=f) h);have F9:=h_ (fun h=>z3a (ns:=ns) (ls:=ls) (f:=f) h);have wg:=h_ Ht;clear hn hl Ge Ht;generalize boxF ns ls f=BX at*;generalize qV ns ls f=G at*;have nz:=fun (u:World) (a:Option Addr) (l c:Nat)=>Lib.run_eql_slice_nil (P:=Tryz.prog) u 31 3 a l c 0 0 Tryz.underlying31
 go_enter Tryz.func153,Tryz.ntmps153
 go_wp2_with fail
 rw[<-Bx.out];refine U1.out.mono ?_
 rintro e w1 ⟨v1,rfl,Hj,M1,h9⟩;clear Bx U1;have h8:=Hg.trans (h9.mono Hg.size);have gg:=gD.below h9 gD.lt;have gu:=bX.below h9 bX.lt;have nF:=hQ0.below h9 hQ0.lt;clear h9 Hg gD bX hQ0
 by_cases h0:G.length=0
 ·have e1:=M1 h0
  subst e1;have HR:=mU.out h0;subst HR;obtain⟨r_0,r_1,r_f0,r_f1⟩:=gu.b2;obtain⟨q_0,q_1,q_f0,q_f1⟩:=nF.b2;have FC:=gu.lt;have hQl:=nF.lt;have hB:Below w.heap.size w ((((w1.setCell ⟨w.heap.size+1,0,none⟩ (.int .i64 0)).setCell ⟨w.heap.size+1,1,none⟩ (.int .i64 0)).setCell ⟨w.heap.size+1+1,0,none⟩ (.int .i64 0)).setCell ⟨w.heap.size+1+1,1,none⟩ (.int .i64 0)):=bel_
  have HB:=h_ hB;clear hB Hj M1 h0 gg gu nF h8;go_wp2;exact bodyPost_ret (v:= .tuple #[.agg #[.int .i64 0,.int .i64 0],.agg #[.int .i64 0,.int .i64 0]]) (by simp[results,Tryz.results153,go_sem,r_0,r_1,q_0,q_1,FC,hQl]) rfl ⟨rfl,HB.out⟩
 ·have HR:=F9.out h0
  subst HR;obtain⟨b4,c1,rfl,Gb,uA,Hv,hcell⟩:=Hj.blk o_;obtain⟨q0,uJ,hq0l⟩:=b7.out 0 o_;obtain⟨bn,offn,rfl,GE,nG⟩:=wg.out o_;have uB:=h_ hcell;have cX:Hid (∀k,k<ns.length->w1.cell? ⟨bn,offn+k*2,none⟩=some (.int .i64 (ndI ns k).1)/\w1.cell? ⟨bn,offn+k*2+1,none⟩=some (.int .i64 (ndI ns k).2)):=h_ (fun k hk=>⟨(h8.cell (p:=⟨bn,offn+k*2,none⟩) GE).trans (nG k hk).1,(h8.cell (p:=⟨bn,offn+k*2+1,none⟩) GE).trans (nG k hk).2⟩);have GU:=uB.out 0 o_;rw[uJ] at GU;obtain⟨y0,y1⟩:=cX.out q0 hq0l;have rs:bn<w1.heap.size:=aaE GE h8.size;have iz1:(0:Int)<(G.length:Int):=o_
  have iq1:(0:Int)<=(q0:Int):=o_
  have iq2:(q0:Int)<(ns.length:Int):=o_
  have wh:Hid (boxK ns G 0=(ndI ns q0,ndI ns q0)):=h_ (by show(ndI ns (G.getD 0 0),ndI ns (G.getD 0 0))=_;rw[uJ]);clear Hj M1 hcell nG uA uJ mU F9 wg;obtain⟨a_0,a_1⟩:=gg.c2;have H8:=gg.lt;generalize hNA:(ndI ns q0).1=na at*;generalize hNB:(ndI ns q0).2=nb at*
  go_wp2_with fail
  go_cut [7,8] (fun s7 s8 wx=>∃x y:Nat,s7= .pointer (some ⟨x,0,none⟩)/\s8= .pointer (some ⟨y,0,none⟩)/\w1.heap.size<=x/\w1.heap.size<=y/\x≠y/\Below w1.heap.size w1 wx/\Nd2 wx x na nb/\Nd2 wx y na nb)
  case first=>
   go_region
   all_goals go_wp2
   all_goals go_meet
   all_goals refine⟨_,_,rfl,rfl,sz_,sz_,by simp,by exact bel_,?_,?_⟩
   all_goals first|(refine Blk.newAt ?_;first|rfl|(simp;done))|(refine Blk.alloc (Blk.newAt ?_) _;first|rfl|(simp;done))
  case rest=>
   obtain⟨x,y,rfl,rfl,hxl,fM,GI,Gs,CB,hY2'⟩:=hcut;obtain⟨w2,gS⟩:∃u,u=wc:=⟨_,rfl⟩;subst gS;have G7:Nd2 w2 x (boxK ns G 0).1.1 (boxK ns G 0).1.2:=by rw[wh.out];rw[<-hNA,<-hNB] at CB;exact CB
   have MN:Nd2 w2 y (boxK ns G 0).2.1 (boxK ns G 0).2.2:=by rw[wh.out];rw[<-hNA,<-hNB] at hY2';exact hY2'
   clear CB hY2' GU y0 y1 a_0 a_1 wh hNA hNB iq1 iq2;go_wp2
   go_loopw [35] (fun s wr=>∃j:Nat,j<=G.length/\s= .int .i64 j/\Nd2 wr x (boxK ns G j).1.1 (boxK ns G j).1.2/\Nd2 wr y (boxK ns G j).2.1 (boxK ns G j).2.2/\Below w1.heap.size w1 wr) (fun s _=>G.length -(intOf s).toNat)
   case atStart=>exact⟨0,aab _,rfl,G7,MN,Gs⟩
   case round=>
    clear G7 MN Gs;obtain⟨j,hj,rfl,hX,hY,Hb⟩:=hrel;have gj:=Hb.size;have xl:=Blk.lt hX;have yl:=Blk.lt hY;obtain⟨x0,x1,xf0,xf1⟩:=Blk.b2 hX;obtain⟨y0,y1,yf0,yf1⟩:=Blk.b2 hY;have uI:=gg.below Hb H8;obtain⟨a_0,a_1⟩:=uI.c2
    by_cases Hd:j<G.length
    ·have Hr:(j:Int)<(G.length:Int):=o_
     have ij1:(0:Int)<=(j:Int):=o_
     obtain⟨q,hq,mA⟩:=b7.out j Hd;have hxj:=(Hb.cell (p:=⟨b4,j,none⟩) Hv).trans (uB.out j Hd);rw[hq] at hxj;have z0:=(Hb.cell (p:=⟨bn,offn+q*2,none⟩) rs).trans (cX.out q mA).1;have z1:=(Hb.cell (p:=⟨bn,offn+q*2+1,none⟩) rs).trans (cX.out q mA).2;have iq1:(0:Int)<=(q:Int):=o_
     have iq2:(q:Int)<(ns.length:Int):=o_
     have HS:=h_ (z1t ns G j);rw[hq] at HS;have d1:¬x=y:=GI;have d2:¬y=x:=fun e=>GI e.symm
     have d3:¬x=wr.heap.size:=o_
     have d4:¬wr.heap.size=x:=o_
     have d5:¬y=wr.heap.size:=o_
     have d6:¬wr.heap.size=y:=o_
     generalize (ndI ns q).1=p1 at*;generalize (ndI ns q).2=p2 at*;generalize boxK ns G j=K at*;have HX:Hid (∀u1 u2 u3 u4 o,Blk (((((wr.setCell ⟨x,0,none⟩ u1).setCell ⟨x,1,none⟩ u2).setCell ⟨y,0,none⟩ u3).setCell ⟨y,1,none⟩ u4).alloc o) x 106 #[u1,u2]):=h_ (fun u1 u2 u3 u4 o=>(((((Blk.set_ hX 0 u1).set_ 1 u2).far (p:=⟨y,0,none⟩) d1 u3).far (p:=⟨y,1,none⟩) d1 u4).alloc o));have HY:Hid (∀u1 u2 u3 u4 o,Blk (((((wr.setCell ⟨x,0,none⟩ u1).setCell ⟨x,1,none⟩ u2).setCell ⟨y,0,none⟩ u3).setCell ⟨y,1,none⟩ u4).alloc o) y 106 #[u3,u4]):=h_ (fun u1 u2 u3 u4 o=>(((((Blk.far hY (p:=⟨x,0,none⟩) d2 u1).far (p:=⟨x,1,none⟩) d2 u2).set_ 0 u3).set_ 1 u4).alloc o));have mv:=h_ Hb;clear hq uI hX hY Hb;go_wp2;go_roundw
     case rel=>exact⟨j+1,by omega,by go_num,by rw[HS.out];exact HX.out _ _ _ _ _,by rw[HS.out];exact HY.out _ _ _ _ _,by have:=mv.out;exact bel_⟩
     case measure=>simp[intOf];omega
    ·have GV:j=G.length:=o_
     subst GV;have hRr:=gu.below Hb gu.lt;have hQr:=nF.below Hb nF.lt;obtain⟨r_0,r_1,r_f0,r_f1⟩:=hRr.b2;obtain⟨q_0,q_1,q_f0,q_f1⟩:=hQr.b2;have FC:=hRr.lt;have hQl:=hQr.lt;generalize boxK ns G G.length=K at*;have hQl1:=nF.lt;have gc:=h8.trans (Hb.mono h8.size);have gm:=h_ gc;clear uI hRr hQr Hb gg gu nF h8 gc
     go_wp2_with fail
     go_region
     all_goals go_wp2
     all_goals exact bodyPost_ret (v:= .tuple #[.agg #[.int .i64 K.1.1,.int .i64 K.1.2],.agg #[.int .i64 K.2.1,.int .i64 K.2.2]]) (by simp[results,Tryz.results153,go_sem,r_0,r_1,q_0,q_1,FC,hQl]) rfl ⟨rfl,by have:=gm.out;exact bel_⟩
end Go.Proofs.YtnjcpljhmhdhkaaGreat
