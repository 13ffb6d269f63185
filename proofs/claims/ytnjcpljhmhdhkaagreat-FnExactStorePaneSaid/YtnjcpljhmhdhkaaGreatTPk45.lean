/- part 45 -/
import Derived.Test.YtnjcpljhmhdhkaaGreatTPk44
import Derived.Deep.RegionHeld3
import Derived.Deep.DeepCutAuto
set_option linter.unusedSimpArgs false
set_option linter.unusedVariables false
set_option maxRecDepth 100000
set_option maxHeartbeats 16000000
namespace Go.Proofs.YtnjcpljhmhdhkaaGreat
open Go.RowKit
attribute [local go_sem ↓] zY zZ
def Nd2 (w:World) (x:Nat) (a b:Int):Prop:=Blk w x 106 #[.int .i64 a,.int .i64 b]
def z4g (p:Pr×Pr) (w:World) (e:Ending) (w':World):Prop:=e= .returned (.tuple #[.agg #[.int .i64 p.1.1,.int .i64 p.1.2],.agg #[.int .i64 p.2.1,.int .i64 p.2.2]])∧Below w.heap.size w w'
theorem z2t {ns ls:List Pr} {f:Int} (h:(qr ns ls f).length =0):boxF ns ls f=((0,0),(0,0)):=by unfold boxF;rw[if_pos h]
theorem z07 {ns ls:List Pr} {f:Int} (h:¬(qr ns ls f).length =0):boxF ns ls f=boxK ns (qr ns ls f) (qr ns ls f).length :=by unfold boxF;rw[if_neg h]
theorem JQ (ns:List Pr) (G:List Int) (k:Nat):boxK ns G (k+1)=((mn2 (boxK ns G k).1.1 (ndI ns (G.getD k 0)).1,mn2 (boxK ns G k).1.2 (ndI ns (G.getD k 0)).2),(mx2 (boxK ns G k).2.1 (ndI ns (G.getD k 0)).1,mx2 (boxK ns G k).2.2 (ndI ns (G.getD k 0)).2)):=rfl
theorem Zr (vn vl:Value) (ns ls:List Pr) (f:Int) (w:World) (hn:RP w vn ns) (hl:RP w vl ls):
  Calls Tryz.prog 153 #[.agg #[vn,vl],.int .i64 f] w (z4g (boxF ns ls f) w):=by
 obtain⟨An,cn,rfl,hcn,hmn,hcelln⟩:=hn.formI;unfold maxLen at hmn;obtain⟨w0,hw0⟩:∃u,u=((w.alloc (.cells #[.slice An ns.length cn,vl] 27)).alloc (.cells #[.int .i64 0,.int .i64 0] 106)).alloc (.cells #[.int .i64 0,.int .i64 0] 106):=⟨_,rfl⟩;have hb0:Below w.heap.size w w0:=by rw[hw0];exact bel_
 have hW0:Blk w0 w.heap.size 27 #[.slice An ns.length cn,vl]:=by rw[hw0];exact((Blk.newAt rfl).alloc _).alloc _
 have hR0:Blk w0 (w.heap.size+1) 106 #[.int .i64 0,.int .i64 0]:=by rw[hw0];exact(Blk.newAt (by simp)).alloc _
 have hQ0:Blk w0 (w.heap.size+1+1) 106 #[.int .i64 0,.int .i64 0]:=by rw[hw0];exact Blk.newAt (by simp)
 have HPN:=Lib.hid (Jc (.slice An ns.length cn) vl ns ls f w0 (hn.below hb0) (hl.below hb0));have HW0:=Lib.hid hw0;have hle:=kN ns ls f;have HNO:=Lib.hid (xn (ns:=ns) (ls:=ls) (f:=f));have HN0:=Lib.hid (fun h=>z2t (ns:=ns) (ls:=ls) (f:=f) h);have HN1:=Lib.hid (fun h=>z07 (ns:=ns) (ls:=ls) (f:=f) h);have HCN:=Lib.hid hcelln;clear hn hl hw0 hcelln;generalize boxF ns ls f=BX at*;generalize qr ns ls f=G at*;have hnil:=fun (u:World) (a:Option Addr) (l c:Nat)=>Lib.run_eql_slice_nil (P:=Tryz.prog) u 31 3 a l c 0 0 Tryz.underlying31
 go_enter Tryz.func153,Tryz.ntmps153
 go_wp2_with fail
 rw[←HW0.out];refine HPN.out.mono ?_
 rintro e w1 ⟨v1,rfl,ho1,hv1,hb1⟩;clear HW0 HPN;have hbw1:=hb0.trans (hb1.mono hb0.size);have hW1:=hW0.below hb1 hW0.lt;have hR1:=hR0.below hb1 hR0.lt;have hQ1:=hQ0.below hb1 hQ0.lt;clear hb1 hb0 hW0 hR0 hQ0
 by_cases h0:G.length=0
 ·have e1:=hv1 h0
  subst e1;have HR:=HN0.out h0;subst HR;obtain⟨r_0,r_1,r_f0,r_f1⟩:=hR1.b2;obtain⟨q_0,q_1,q_f0,q_f1⟩:=hQ1.b2;have hRl:=hR1.lt;have hQl:=hQ1.lt;have hB:Below w.heap.size w ((((w1.setCell ⟨w.heap.size+1,0,none⟩ (.int .i64 0)).setCell ⟨w.heap.size+1,1,none⟩ (.int .i64 0)).setCell ⟨w.heap.size+1+1,0,none⟩ (.int .i64 0)).setCell ⟨w.heap.size+1+1,1,none⟩ (.int .i64 0)):=by exact bel_
  have HB:=Lib.hid hB;clear hB ho1 hv1 h0 hW1 hR1 hQ1 hbw1;go_wp2;exact bodyPost_ret (v:= .tuple #[.agg #[.int .i64 0,.int .i64 0],.agg #[.int .i64 0,.int .i64 0]]) (by simp[results,Tryz.results153,go_sem,r_0,r_1,q_0,q_1,hRl,hQl]) rfl ⟨rfl,HB.out⟩
 ·have HR:=HN1.out h0
  subst HR;obtain⟨b4,c1,rfl,hc1,hB4,hb4,hcell⟩:=ho1.blk (by omega);obtain⟨q0,hq0,hq0l⟩:=HNO.out 0 (by omega);obtain⟨bn,offn,rfl,hbn,hcln⟩:=HCN.out (by omega);have HCE:=Lib.hid hcell;have HCL:Hid (∀k,k<ns.length→w1.cell? ⟨bn,offn+k*2,none⟩=some (.int .i64 (ndI ns k).1)∧w1.cell? ⟨bn,offn+k*2+1,none⟩=some (.int .i64 (ndI ns k).2)):=Lib.hid (fun k hk=>⟨(hbw1.cell (p:=⟨bn,offn+k*2,none⟩) hbn).trans (hcln k hk).1,(hbw1.cell (p:=⟨bn,offn+k*2+1,none⟩) hbn).trans (hcln k hk).2⟩);have hx0:=HCE.out 0 (by omega);rw[hq0] at hx0;obtain⟨y0,y1⟩:=HCL.out q0 hq0l;have hbn1:bn<w1.heap.size:=Nat.lt_of_lt_of_le hbn hbw1.size;have iz1:(0:Int)<(G.length:Int):=by omega
  have iq1:(0:Int)≤(q0:Int):=by omega
  have iq2:(q0:Int)<(ns.length:Int):=by omega
  have HK0:Hid (boxK ns G 0=(ndI ns q0,ndI ns q0)):=Lib.hid (by show(ndI ns (G.getD 0 0),ndI ns (G.getD 0 0))=_;rw[hq0]);clear ho1 hv1 hcell hcln hB4 hq0 HN0 HN1 HCN;obtain⟨a_0,a_1⟩:=hW1.c2;have hz1:=hW1.lt;generalize hNA:(ndI ns q0).1=na at*;generalize hNB:(ndI ns q0).2=nb at*
  go_wp2_with fail
  go_cut [7,8] (fun s7 s8 wx=>∃x y:Nat,s7= .pointer (some ⟨x,0,none⟩)∧s8= .pointer (some ⟨y,0,none⟩)∧w1.heap.size≤x∧w1.heap.size≤y∧x≠y∧Below w1.heap.size w1 wx∧Nd2 wx x na nb∧Nd2 wx y na nb)
  case first=>
   go_region
   all_goals go_wp2
   all_goals go_meet
   all_goals refine⟨_,_,rfl,rfl,sz_,sz_,by simp,by exact bel_,?_,?_⟩
   all_goals first|(refine Blk.newAt ?_;first|rfl|(simp;done))|(refine Blk.alloc (Blk.newAt ?_) _;first|rfl|(simp;done))
  case rest=>
   obtain⟨x,y,rfl,rfl,hxl,hyl,hxy,hbc,hX2',hY2'⟩:=hcut;obtain⟨w2,hw2⟩:∃u,u=wc:=⟨_,rfl⟩;subst hw2;have hX2:Nd2 w2 x (boxK ns G 0).1.1 (boxK ns G 0).1.2:=by rw[HK0.out];rw[←hNA,←hNB] at hX2';exact hX2'
   have hY2:Nd2 w2 y (boxK ns G 0).2.1 (boxK ns G 0).2.2:=by rw[HK0.out];rw[←hNA,←hNB] at hY2';exact hY2'
   clear hX2' hY2' hx0 y0 y1 a_0 a_1 HK0 hNA hNB iq1 iq2;go_wp2
   go_loopw [35] (fun s wr=>∃j:Nat,j≤G.length∧s= .int .i64 j∧Nd2 wr x (boxK ns G j).1.1 (boxK ns G j).1.2∧Nd2 wr y (boxK ns G j).2.1 (boxK ns G j).2.2∧Below w1.heap.size w1 wr) (fun s _=>G.length -(intOf s).toNat)
   case atStart=>exact⟨0,Nat.zero_le _,rfl,hX2,hY2,hbc⟩
   case round=>
    clear hX2 hY2 hbc;obtain⟨j,hj,rfl,hX,hY,hbl⟩:=hrel;have hsz:=hbl.size;have xl:=Blk.lt hX;have yl:=Blk.lt hY;obtain⟨x0,x1,xf0,xf1⟩:=Blk.b2 hX;obtain⟨y0,y1,yf0,yf1⟩:=Blk.b2 hY;have hWr:=hW1.below hbl hz1;obtain⟨a_0,a_1⟩:=hWr.c2;have hWl:=hWr.lt
    by_cases hlt:j<G.length
    ·have hlt1:(j:Int)<(G.length:Int):=by omega
     have ij1:(0:Int)≤(j:Int):=by omega
     obtain⟨q,hq,hql⟩:=HNO.out j hlt;have hxj:=(hbl.cell (p:=⟨b4,j,none⟩) hb4).trans (HCE.out j hlt);rw[hq] at hxj;have z0:=(hbl.cell (p:=⟨bn,offn+q*2,none⟩) hbn1).trans (HCL.out q hql).1;have z1:=(hbl.cell (p:=⟨bn,offn+q*2+1,none⟩) hbn1).trans (HCL.out q hql).2;have iq1:(0:Int)≤(q:Int):=by omega
     have iq2:(q:Int)<(ns.length:Int):=by omega
     have hb4r:b4<wr.heap.size:=by omega
     have hbnr:bn<wr.heap.size:=by omega
     have HS:=Lib.hid (JQ ns G j);rw[hq] at HS;have d1:¬x=y:=hxy;have d2:¬y=x:=fun e=>hxy e.symm
     have d3:¬x=wr.heap.size:=by omega
     have d4:¬wr.heap.size=x:=by omega
     have d5:¬y=wr.heap.size:=by omega
     have d6:¬wr.heap.size=y:=by omega
     generalize (ndI ns q).1=p1 at*;generalize (ndI ns q).2=p2 at*;generalize boxK ns G j=K at*;have HX:Hid (∀u1 u2 u3 u4 o,Blk (((((wr.setCell ⟨x,0,none⟩ u1).setCell ⟨x,1,none⟩ u2).setCell ⟨y,0,none⟩ u3).setCell ⟨y,1,none⟩ u4).alloc o) x 106 #[u1,u2]):=Lib.hid (fun u1 u2 u3 u4 o=>(((((Blk.set_ hX 0 u1).set_ 1 u2).far (p:=⟨y,0,none⟩) d1 u3).far (p:=⟨y,1,none⟩) d1 u4).alloc o));have HY:Hid (∀u1 u2 u3 u4 o,Blk (((((wr.setCell ⟨x,0,none⟩ u1).setCell ⟨x,1,none⟩ u2).setCell ⟨y,0,none⟩ u3).setCell ⟨y,1,none⟩ u4).alloc o) y 106 #[u3,u4]):=Lib.hid (fun u1 u2 u3 u4 o=>(((((Blk.far hY (p:=⟨x,0,none⟩) d2 u1).far (p:=⟨x,1,none⟩) d2 u2).set_ 0 u3).set_ 1 u4).alloc o));have HBL:=Lib.hid hbl;clear hq hWr hX hY hbl;go_wp2;go_roundw
     case rel=>exact⟨j+1,by omega,by go_num,by rw[HS.out];exact HX.out _ _ _ _ _,by rw[HS.out];exact HY.out _ _ _ _ _,by have:=HBL.out;exact bel_⟩
     case measure=>simp[intOf];omega
    ·have hjj:j=G.length:=by omega
     subst hjj;have hRr:=hR1.below hbl hR1.lt;have hQr:=hQ1.below hbl hQ1.lt;obtain⟨r_0,r_1,r_f0,r_f1⟩:=hRr.b2;obtain⟨q_0,q_1,q_f0,q_f1⟩:=hQr.b2;have hRl:=hRr.lt;have hQl:=hQr.lt;generalize boxK ns G G.length=K at*;have hRl1:=hR1.lt;have hQl1:=hQ1.lt;have n1:¬x=w.heap.size+1:=by omega
     have n2:¬x=w.heap.size+1+1:=by omega
     have n3:¬y=w.heap.size+1:=by omega
     have n4:¬y=w.heap.size+1+1:=by omega
     have hbb:=hbw1.trans (hbl.mono hbw1.size);have HBB:=Lib.hid hbb;clear hWr hRr hQr hbl hW1 hR1 hQ1 hbw1 hbb
     go_wp2_with fail
     go_region
     all_goals go_wp2
     all_goals exact bodyPost_ret (v:= .tuple #[.agg #[.int .i64 K.1.1,.int .i64 K.1.2],.agg #[.int .i64 K.2.1,.int .i64 K.2.2]]) (by simp[results,Tryz.results153,go_sem,r_0,r_1,q_0,q_1,hRl,hQl]) rfl ⟨rfl,by have:=HBB.out;exact bel_⟩
attribute [local go_sem ↓] zY zZ
theorem z4K (vn vl:Value) (ns ls:List Pr) (f:Int) (w:World) (hn:RP w vn ns) (hl:RP w vl ls):
  Calls Tryz.prog 191 #[.agg #[vn,vl],.int .i64 f] w (z4g (boxF ns ls f) w):=by
 obtain⟨An,cn,rfl,hcn,hmn,hcelln⟩:=hn.formI;unfold maxLen at hmn;obtain⟨w0,hw0⟩:∃u,u=((w.alloc (.cells #[.slice An ns.length cn,vl] 27)).alloc (.cells #[.int .i64 0,.int .i64 0] 106)).alloc (.cells #[.int .i64 0,.int .i64 0] 106):=⟨_,rfl⟩;have hb0:Below w.heap.size w w0:=by rw[hw0];exact bel_
 have hW0:Blk w0 w.heap.size 27 #[.slice An ns.length cn,vl]:=by rw[hw0];exact((Blk.newAt rfl).alloc _).alloc _
 have hR0:Blk w0 (w.heap.size+1) 106 #[.int .i64 0,.int .i64 0]:=by rw[hw0];exact(Blk.newAt (by simp)).alloc _
 have hQ0:Blk w0 (w.heap.size+1+1) 106 #[.int .i64 0,.int .i64 0]:=by rw[hw0];exact Blk.newAt (by simp)
 have HPN:=Lib.hid (ZQ (.slice An ns.length cn) vl ns ls f w0 (hn.below hb0) (hl.below hb0));have HW0:=Lib.hid hw0;have hle:=kN ns ls f;have HNO:=Lib.hid (xn (ns:=ns) (ls:=ls) (f:=f));have HN0:=Lib.hid (fun h=>z2t (ns:=ns) (ls:=ls) (f:=f) h);have HN1:=Lib.hid (fun h=>z07 (ns:=ns) (ls:=ls) (f:=f) h);have HCN:=Lib.hid hcelln;clear hn hl hw0 hcelln;generalize boxF ns ls f=BX at*;generalize qr ns ls f=G at*
 go_enter Tryz.func191,Tryz.ntmps191
 go_wp2_with fail
 rw[←HW0.out];refine HPN.out.mono ?_
 rintro e w1 ⟨v1,rfl,ho1,hb1⟩;clear HW0 HPN;have hbw1:=hb0.trans (hb1.mono hb0.size);have hW1:=hW0.below hb1 hW0.lt;have hR1:=hR0.below hb1 hR0.lt;have hQ1:=hQ0.below hb1 hQ0.lt;clear hb1 hb0 hW0 hR0 hQ0
 by_cases h0:G.length=0
 ·obtain⟨Av,cv,rfl⟩:=OwnE.form (t:=3) (enc:=vI) ho1
  have e0:((G.length:Int)==0)=true:=by rw[h0];rfl
  have HR:=HN0.out h0;subst HR;obtain⟨r_0,r_1,r_f0,r_f1⟩:=hR1.b2;obtain⟨q_0,q_1,q_f0,q_f1⟩:=hQ1.b2;have hRl:=hR1.lt;have hQl:=hQ1.lt;have hB:Below w.heap.size w ((((w1.setCell ⟨w.heap.size+1,0,none⟩ (.int .i64 0)).setCell ⟨w.heap.size+1,1,none⟩ (.int .i64 0)).setCell ⟨w.heap.size+1+1,0,none⟩ (.int .i64 0)).setCell ⟨w.heap.size+1+1,1,none⟩ (.int .i64 0)):=by exact bel_
  have HB:=Lib.hid hB;clear hB ho1 h0 hW1 hR1 hQ1 hbw1;go_wp2;exact bodyPost_ret (v:= .tuple #[.agg #[.int .i64 0,.int .i64 0],.agg #[.int .i64 0,.int .i64 0]]) (by simp[results,Tryz.results191,go_sem,r_0,r_1,q_0,q_1,hRl,hQl]) rfl ⟨rfl,HB.out⟩
 ·have HR:=HN1.out h0
  subst HR;obtain⟨b4,c1,rfl,hc1,hB4,hb4,hcell⟩:=ho1.blk (by omega);obtain⟨q0,hq0,hq0l⟩:=HNO.out 0 (by omega);obtain⟨bn,offn,rfl,hbn,hcln⟩:=HCN.out (by omega);have e0:((G.length:Int)==0)=false:=beq_eq_false_iff_ne.2 (by omega);have HCE:=Lib.hid hcell;have HCL:Hid (∀k,k<ns.length→w1.cell? ⟨bn,offn+k*2,none⟩=some (.int .i64 (ndI ns k).1)∧w1.cell? ⟨bn,offn+k*2+1,none⟩=some (.int .i64 (ndI ns k).2)):=Lib.hid (fun k hk=>⟨(hbw1.cell (p:=⟨bn,offn+k*2,none⟩) hbn).trans (hcln k hk).1,(hbw1.cell (p:=⟨bn,offn+k*2+1,none⟩) hbn).trans (hcln k hk).2⟩);have hx0:=HCE.out 0 (by omega);rw[hq0] at hx0;obtain⟨y0,y1⟩:=HCL.out q0 hq0l;have hbn1:bn<w1.heap.size:=Nat.lt_of_lt_of_le hbn hbw1.size;have iz1:(0:Int)<(G.length:Int):=by omega
  have iq1:(0:Int)≤(q0:Int):=by omega
  have iq2:(q0:Int)<(ns.length:Int):=by omega
  have HK0:Hid (boxK ns G 0=(ndI ns q0,ndI ns q0)):=Lib.hid (by show(ndI ns (G.getD 0 0),ndI ns (G.getD 0 0))=_;rw[hq0]);clear ho1 hcell hcln hB4 hq0 HN0 HN1 HCN;obtain⟨a_0,a_1⟩:=hW1.c2;have hz1:=hW1.lt;generalize hNA:(ndI ns q0).1=na at*;generalize hNB:(ndI ns q0).2=nb at*
  go_wp2_with fail
  go_cut [7] (fun s7 wx=>∃x:Nat,s7= .pointer (some ⟨x,0,none⟩)∧w1.heap.size≤x∧Below w1.heap.size w1 wx∧Nd2 wx x na nb)
  case first=>
   go_region
   all_goals go_wp2
   all_goals go_meet
   all_goals refine⟨_,rfl,sz_,by exact bel_,?_⟩
   all_goals first|(refine Blk.newAt ?_;first|rfl|(simp;done))|(refine Blk.alloc (Blk.newAt ?_) _;first|rfl|(simp;done))
  case rest=>
   obtain⟨x,rfl,hxl,hbc,hX2'⟩:=hcut;obtain⟨w2,hw2⟩:∃u,u=wc:=⟨_,rfl⟩;subst hw2;have hx2:=Blk.lt hX2';obtain⟨xc0,xc1⟩:=Blk.c2 hX2';have hX2:Nd2 (w2.alloc (.cells #[.int .i64 na,.int .i64 nb] 106)) x (boxK ns G 0).1.1 (boxK ns G 0).1.2:=by rw[HK0.out];rw[←hNA,←hNB] at hX2';exact Blk.alloc hX2' _
   have hY2:Nd2 (w2.alloc (.cells #[.int .i64 na,.int .i64 nb] 106)) w2.heap.size (boxK ns G 0).2.1 (boxK ns G 0).2.2:=by rw[HK0.out,←hNA,←hNB];exact Blk.newAt rfl
   have hbc2:=hbc.alloc hbc.size (.cells #[.int .i64 na,.int .i64 nb] 106);have hyl:w1.heap.size≤w2.heap.size:=hbc.size;have hxy:x≠w2.heap.size:=by omega
   clear hX2' hx0 y0 y1 a_0 a_1 HK0 hNA hNB iq1 iq2 hbc;go_wp2;generalize w2.heap.size=y at*
   go_loopw [9] (fun s wr=>∃j:Nat,j≤G.length∧s= .int .i64 j∧Nd2 wr x (boxK ns G j).1.1 (boxK ns G j).1.2∧Nd2 wr y (boxK ns G j).2.1 (boxK ns G j).2.2∧Below w1.heap.size w1 wr) (fun s _=>G.length -(intOf s).toNat)
   case atStart=>exact⟨0,Nat.zero_le _,rfl,hX2,hY2,hbc2⟩
   case round=>
    clear hX2 hY2 hbc2 xc0 xc1 hx2;obtain⟨j,hj,rfl,hX,hY,hbl⟩:=hrel;have hsz:=hbl.size;have xl:=Blk.lt hX;have yl:=Blk.lt hY;obtain⟨x0,x1,xf0,xf1⟩:=Blk.b2 hX;obtain⟨y0,y1,yf0,yf1⟩:=Blk.b2 hY;have hWr:=hW1.below hbl hz1;obtain⟨a_0,a_1⟩:=hWr.c2;have hWl:=hWr.lt
    by_cases hlt:j<G.length
    ·have hlt1:(j:Int)<(G.length:Int):=by omega
     have ij1:(0:Int)≤(j:Int):=by omega
     obtain⟨q,hq,hql⟩:=HNO.out j hlt;have hxj:=(hbl.cell (p:=⟨b4,j,none⟩) hb4).trans (HCE.out j hlt);rw[hq] at hxj;have z0:=(hbl.cell (p:=⟨bn,offn+q*2,none⟩) hbn1).trans (HCL.out q hql).1;have z1:=(hbl.cell (p:=⟨bn,offn+q*2+1,none⟩) hbn1).trans (HCL.out q hql).2;have iq1:(0:Int)≤(q:Int):=by omega
     have iq2:(q:Int)<(ns.length:Int):=by omega
     have hb4r:b4<wr.heap.size:=by omega
     have hbnr:bn<wr.heap.size:=by omega
     have HS:=Lib.hid (JQ ns G j);rw[hq] at HS;have d1:¬x=y:=hxy;have d2:¬y=x:=fun e=>hxy e.symm
     have d3:¬x=wr.heap.size:=by omega
     have d4:¬wr.heap.size=x:=by omega
     have d5:¬y=wr.heap.size:=by omega
     have d6:¬wr.heap.size=y:=by omega
     generalize (ndI ns q).1=p1 at*;generalize (ndI ns q).2=p2 at*;generalize boxK ns G j=K at*;have HX:Hid (∀u1 u2 u3 u4 o,Blk (((((wr.setCell ⟨x,0,none⟩ u1).setCell ⟨x,1,none⟩ u2).setCell ⟨y,0,none⟩ u3).setCell ⟨y,1,none⟩ u4).alloc o) x 106 #[u1,u2]):=Lib.hid (fun u1 u2 u3 u4 o=>(((((Blk.set_ hX 0 u1).set_ 1 u2).far (p:=⟨y,0,none⟩) d1 u3).far (p:=⟨y,1,none⟩) d1 u4).alloc o));have HY:Hid (∀u1 u2 u3 u4 o,Blk (((((wr.setCell ⟨x,0,none⟩ u1).setCell ⟨x,1,none⟩ u2).setCell ⟨y,0,none⟩ u3).setCell ⟨y,1,none⟩ u4).alloc o) y 106 #[u3,u4]):=Lib.hid (fun u1 u2 u3 u4 o=>(((((Blk.far hY (p:=⟨x,0,none⟩) d2 u1).far (p:=⟨x,1,none⟩) d2 u2).set_ 0 u3).set_ 1 u4).alloc o));have HBL:=Lib.hid hbl;clear hq hWr hX hY hbl
     go_wp2_with fail
     go_region
     all_goals go_wp2
     all_goals go_roundw
     case rel=>exact⟨j+1,by omega,by go_num,by rw[HS.out];exact HX.out _ _ _ _ _,by rw[HS.out];exact HY.out _ _ _ _ _,by have:=HBL.out;exact bel_⟩
     case measure=>simp[intOf];omega
    ·have hjj:j=G.length:=by omega
     subst hjj;have hRr:=hR1.below hbl hR1.lt;have hQr:=hQ1.below hbl hQ1.lt;obtain⟨r_0,r_1,r_f0,r_f1⟩:=hRr.b2;obtain⟨q_0,q_1,q_f0,q_f1⟩:=hQr.b2;have hRl:=hRr.lt;have hQl:=hQr.lt;generalize boxK ns G G.length=K at*;have hRl1:=hR1.lt;have hQl1:=hQ1.lt;have n1:¬x=w.heap.size+1:=by omega
     have n2:¬x=w.heap.size+1+1:=by omega
     have n3:¬y=w.heap.size+1:=by omega
     have n4:¬y=w.heap.size+1+1:=by omega
     have hbb:=hbw1.trans (hbl.mono hbw1.size);have HBB:=Lib.hid hbb;clear hWr hRr hQr hbl hW1 hR1 hQ1 hbw1 hbb
     go_wp2_with fail
     go_region
     all_goals go_wp2
     all_goals exact bodyPost_ret (v:= .tuple #[.agg #[.int .i64 K.1.1,.int .i64 K.1.2],.agg #[.int .i64 K.2.1,.int .i64 K.2.2]]) (by simp[results,Tryz.results191,go_sem,r_0,r_1,q_0,q_1,hRl,hQl]) rfl ⟨rfl,by have:=HBB.out;exact bel_⟩
theorem z0q (vn vl:Value) (ns ls:List Pr) (f:Int) (w:World) (hn:RP w vn ns) (hl:RP w vl ls):
  Calls Tryz.prog 152 #[.agg #[vn,vl],.int .i64 f] w fun e w'=>e= .returned (.int .i64 (boxF ns ls f).2.2)∧Below w.heap.size w w':=by
 have hb0:Below w.heap.size w (w.alloc (.cells #[vn,vl] 27)):=by exact bel_
 have hb:=Zr vn vl ns ls f _ (hn.below hb0) (hl.below hb0);obtain⟨K,hK⟩:∃K,boxF ns ls f=K:=⟨_,rfl⟩;rw[hK] at hb⊢;have HB:=Lib.hid hb;clear hK hb
 go_enter Tryz.func152,Tryz.ntmps152
 go_wp2_with fail
 refine HB.out.mono ?_
 rintro e w1 ⟨rfl,hb1⟩;have hbw1:=hb0.trans (hb1.mono hb0.size);have hs1:=hbw1.size;clear hb1;go_wp2;go_ret
 exact⟨rfl,by exact bel_⟩
theorem z2L {ns ls:List Pr} {d e:Nat} (h:(boxF ns ls d).2.2=(boxF ns ls e).2.2):cmpR ns ls d e=(boxF ns ls d).1.1 -(boxF ns ls e).1.1:=by unfold cmpR;rw[if_pos h]
theorem z3n {ns ls:List Pr} {d e:Nat} (h:¬(boxF ns ls d).2.2=(boxF ns ls e).2.2):cmpR ns ls d e=(boxF ns ls e).2.2 -(boxF ns ls d).2.2:=by unfold cmpR;rw[if_neg h]
theorem z3g (gW:Nat) (vn vl:Value) (ns ls:List Pr) (d e:Nat) (w:World) (hW:Blk w gW 27 #[vn,vl]) (hn:RP w vn ns) (hl:RP w vl ls):
  Calls Tryz.prog 151 #[.int .i64 d,.int .i64 e,.pointer (some ⟨gW,0,none⟩)] w fun en w'=>en= .returned (.int .i64 (cmpR ns ls d e))∧Below w.heap.size w w':=by
 have hbd:=z2r (ns:=ns) (ls:=ls) (f:=(d:Int));have hbe:=z2r (ns:=ns) (ls:=ls) (f:=(e:Int));obtain⟨⟨d1,d2,d3,d4⟩,d5,d6,d7,d8⟩:=hbd;obtain⟨⟨e1,e2,e3,e4⟩,e5,e6,e7,e8⟩:=hbe;have HS:=Lib.hid (fun h=>z2L (ns:=ns) (ls:=ls) (d:=d) (e:=e) h);have HD:=Lib.hid (fun h=>z3n (ns:=ns) (ls:=ls) (d:=d) (e:=e) h);have hTd:=fun (v:World) (h1:RP v vn ns) (h2:RP v vl ls)=>z0q vn vl ns ls d v h1 h2
 have hTe:=fun (v:World) (h1:RP v vn ns) (h2:RP v vl ls)=>z0q vn vl ns ls e v h1 h2
 have hBd:=fun (v:World) (h1:RP v vn ns) (h2:RP v vl ls)=>Zr vn vl ns ls d v h1 h2
 have hBe:=fun (v:World) (h1:RP v vn ns) (h2:RP v vl ls)=>Zr vn vl ns ls e v h1 h2
 generalize cmpR ns ls d e=R at*;obtain⟨x,hx⟩:∃x,boxF ns ls (d:Int)=x:=⟨_,rfl⟩;obtain⟨y,hy⟩:∃y,boxF ns ls (e:Int)=y:=⟨_,rfl⟩;rw[hx] at d1 d2 d3 d4 d5 d6 d7 d8 HS HD hTd hBd;rw[hy] at e1 e2 e3 e4 e5 e6 e7 e8 HS HD hTe hBe;have HTd:=Lib.hid hTd;have HTe:=Lib.hid hTe;have HBd:=Lib.hid hBd;have HBe:=Lib.hid hBe;obtain⟨a_0,a_1⟩:=hW.c2;have hWl:=hW.lt;clear hx hy hTd hTe hBd hBe
 go_enter Tryz.func151,Tryz.ntmps151
 go_wp2_with fail
 (refine z9 (by kernel_rfl) (by kernel_rfl) (fun hG=>?_))
 repeat (go_big_quiet_step (first|(go_at_call_of 152 d;exact zv (HTd.out _ (RS.grw _ hn) (RS.grw _ hl)))|(go_at_call_of 152 e;exact zv (HTe.out _ (RS.grw _ hn) (RS.grw _ hl)))))
 refine wpQuiet_nil ?_
 clear hG;rintro w1 ⟨⟨_,hb1⟩,rfl⟩;have hn1:=hn.below hb1;have hl1:=hl.below hb1;have hW1:=hW.below hb1 hWl;have hw1l:=hW1.lt;clear a_0 a_1
 by_cases hxy:x.2.2=y.2.2
 ·have e9:(x.2.2==y.2.2)=true:=beq_iff_eq.2 hxy
  have e10:(x.2.2 != y.2.2)=false:=by rw[bne,e9];rfl
  have HR:=Lib.hid (HS.out hxy);clear hxy;obtain⟨a_0,a_1⟩:=hW1.c2
  go_wp2_with fail
  refine(HBd.out _ hn1 hl1).mono ?_
  rintro en w2 ⟨rfl,hb2⟩;have hb12:=hb1.trans (hb2.mono hb1.size);have hW2:=hW1.below hb2 hw1l;have hw2l:=hW2.lt;have hn2:=hn1.below hb2;have hl2:=hl1.below hb2;have hsz2:=hb2.size;have hb3:Below w2.heap.size w2 ((w2.alloc (.cells #[.int .i64 x.1.1,.int .i64 x.1.2] 106)).alloc (.cells #[.int .i64 x.2.1,.int .i64 x.2.2] 106)):=by exact bel_
  have HBE:=Lib.hid (HBe.out _ (hn2.below hb3) (hl2.below hb3));have q0:((w2.alloc (.cells #[.int .i64 x.1.1,.int .i64 x.1.2] 106)).alloc (.cells #[.int .i64 x.2.1,.int .i64 x.2.2] 106)).cell? ⟨w2.heap.size,0,none⟩=some (.int .i64 x.1.1):=((Blk.newAt (cs:= #[.int .i64 x.1.1,.int .i64 x.1.2]) rfl).alloc _).cell 0;have hs3:((w2.alloc (.cells #[.int .i64 x.1.1,.int .i64 x.1.2] 106)).alloc (.cells #[.int .i64 x.2.1,.int .i64 x.2.2] 106)).heap.size =w2.heap.size+1+1:=by simp
  have hb13:=hb12.trans (hb3.mono hb12.size);obtain⟨b_0,b_1⟩:=hW2.c2;clear hb1 hb2 hW1 hb3 a_0 a_1 hb12
  go_wp2_with fail
  obtain⟨w3,hw3⟩:∃u,u=((w2.alloc (.cells #[.int .i64 x.1.1,.int .i64 x.1.2] 106)).alloc (.cells #[.int .i64 x.2.1,.int .i64 x.2.2] 106)):=⟨_,rfl⟩;rw[←hw3] at q0 hs3 hb13 HBE⊢;clear hw3;refine HBE.out.mono ?_
  rintro en w4 ⟨rfl,hb4⟩;have q1:=(hb4.cell (p:=⟨w2.heap.size,0,none⟩) (show w2.heap.size<w3.heap.size by omega)).trans q0;have hz4:=hb4.size;have l1:w2.heap.size<w4.heap.size:=by omega
  have hb14:=hb13.trans (hb4.mono hb13.size);have hs14:=hb14.size;clear hb4 q0 hb13 HBE b_0 b_1;go_wp2;go_ret
  exact⟨ze (by rw[HR.out]),by exact bel_⟩
 ·have e9:(x.2.2==y.2.2)=false:=beq_eq_false_iff_ne.2 hxy
  have e10:(x.2.2 != y.2.2)=true:=by rw[bne,e9];rfl
  have HR:=Lib.hid (HD.out hxy);clear hxy;go_wp2;go_ret
  exact⟨ze (by rw[HR.out]),by exact bel_⟩
theorem JA (base f g cap:Nat) (lb:Array Value) (G:List Nat) (c:Nat→Nat→Int) (lt:Nat→Nat→Bool) (w:World) (hc:QT f lb G c (some g) w) (hlt:∀d e,decide (c d e<0)=lt d e)
  (ho:OwnI base w (.slice (some ⟨g,0,none⟩) G.length cap) (natI G)) (h12:G.length≤40) (ef:Enters Tryz.prog f):
  Calls Tryz.prog 246 #[.slice (some ⟨g,0,none⟩) G.length cap,.int .i64 0,.int .i64 G.length,.func (.func f) #[] lb] w
   fun e w'=>e= .returned (.tuple #[])∧OwnI base w' (.slice (some ⟨g,0,none⟩) G.length cap) (natI (isoK lt G G.length))∧w.grownBy w' (some g):=by
 go_enter Tryz.func246,Tryz.ntmps246
 go_wp2
 go_loopw [8] (fun x wr=>∃i:Nat,1≤i∧(i≤G.length∨G.length=0)∧x= .int .i64 i∧OwnI base wr (.slice (some ⟨g,0,none⟩) G.length cap) (isoH lt G (min i G.length))∧w.grownBy wr (some g)) (fun x _=>G.length -(intOf x).toNat)
 case atStart=>
  refine⟨1,Nat.le_refl _,by omega,rfl,?_,vE _ _⟩
  rcases Nat.eq_zero_or_pos G.length with h0|h0
  ·rw[h0,show min 1 0=0 from rfl,Qj];rw[h0] at ho;exact ho
  ·rw[show min 1 G.length=1 by omega,Xn lt G h0];exact ho
 case round=>
  obtain⟨i,hi1,hi2,rfl,ho2,hg⟩:=hrel;have EF:=Lib.hid ef;clear ho ef
  by_cases hin:i<G.length
  ·rw[show min i G.length=i by omega,←xy lt G i hin] at ho2
   have HE:=Lib.hid (ZB lt G i hin);have hgi:G.getD i 0=G[i]:=by simp[List.getD,hin]
   have hgm:G.getD i 0∈G:=by rw[hgi];exact List.getElem_mem hin
   have HKL:=Lib.hid (ja lt G i (by omega));have HKM:=Lib.hid (fun e h=>Zj lt G e i (by omega) h);rw[←hgi] at HE;have HRS:=Lib.hid (fun p hp=>V1 lt G i p hin hp);have HRB:=Lib.hid (fun p hp=>ZR lt G i p hin hp);have HSW:=Lib.hid (fun p hp=>Vq lt G i p hin hp);have HRL:=Lib.hid (fun p hp=>z0s lt G i p hin hp);clear hgi;generalize hD:G.getD i 0=D at*;have HDD:=Lib.hid hD;clear hD;go_wp2
   go_loopw [9] (fun x wr2=>∃p:Nat,p≤i∧x= .int .i64 p∧OwnI base wr2 (.slice (some ⟨g,0,none⟩) G.length cap) (isoR lt G i p)∧w.grownBy wr2 (some g)∧Hid (posN (lt D) (isoK lt G i) i=posN (lt D) (isoK lt G i) p)) (fun x _=>(intOf x).toNat)
   case atStart=>exact⟨i,Nat.le_refl _,rfl,ho2,hg,Lib.hid rfl⟩
   case round=>
    clear ho2 hg;obtain⟨p,hp,rfl,ho2,hg,HP⟩:=hrel
    by_cases hp0:0<p
    ·obtain⟨r,rfl⟩:∃r,p=r+1:=⟨p -1,by omega⟩
     have hri:r<i:=by omega
     have xs:=ho2.cell (q:=r+1) (by rw[HRL.out _ hp];omega);have xb:=ho2.cell (q:=r) (by rw[HRL.out _ hp];omega);rw[HRS.out _ hp] at xs;rw[HRB.out r hri] at xb;have hem:(isoK lt G i).getD r 0∈G:=HKM.out _ (by rw[List.getD,List.getElem?_eq_getElem (by rw[HKL.out];exact hri)];exact List.getElem_mem _);have HPS:Hid (posN (lt D) (isoK lt G i) (r+1)=if lt D ((isoK lt G i).getD r 0) then posN (lt D) (isoK lt G i) r else r+1):=Lib.hid rfl;have HS:=Lib.hid (HSW.out r hri);have hl1:=hlt D ((isoK lt G i).getD r 0);have hcd:=fun v (hv:w.grownBy v (some g))=>hc v D ((isoK lt G i).getD r 0) hgm hem hv
     generalize (isoK lt G i).getD r 0=e at*;rw[←hl1] at HPS;generalize c D e=z at*;have HC:=Lib.hid hcd;clear hcd hl1 hem;have hp1:(0:Int)<((r+1:Nat):Int):=by omega
     have hsub:(((r+1:Nat):Int)) -1=(r:Int):=by omega
     have ir1:(0:Int)≤(r:Int):=by omega
     have ir2:(r:Int)<(G.length:Int):=by omega
     have ir3:((r+1:Nat):Int)<(G.length:Int):=by omega
     have ir4:(0:Int)≤((r+1:Nat):Int):=by omega
     have hgs:=(ho2.lt g rfl).2;have f0:=ho2.frz r;have f1:=ho2.frz (r+1);clear hc hlt;have hef:∀(args:Array Value) (w:World),(callFunc f args).run Tryz.prog w= .ok (.enter f args) w:=EF.out
     go_wp2_with fail
     (refine z9 (by kernel_rfl) (by kernel_rfl) (fun hG=>?_))
     repeat (go_big_quiet_step ((go_at_fn f;exact zv (HC.out _ (yt hg (Grw.below _))))))
     refine wpQuiet_nil ?_
     clear hG;rintro w3 ⟨⟨_,hb3⟩,rfl⟩;have ho3:=ho2.kept hb3;have hg3:=yt hg hb3;have g0:=ho3.frz r;have g1:=ho3.frz (r+1);have ys:=ho3.cell (q:=r+1) (by rw[HRL.out _ hp];omega);have yb:=ho3.cell (q:=r) (by rw[HRL.out _ hp];omega);rw[HRS.out _ hp] at ys
     have yb':w3.cell? ⟨g,r,none⟩=some (.int .i64 e):=by
      have:=(hb3.cell (p:=⟨g,r,none⟩) hgs).trans xb;exact this
     clear yb f0 f1 xs xb hg hb3 hef
     by_cases hz:z<0
     ·have e1:decide (z<0)=true:=by simp[hz]
      have HO:=Lib.hid (show OwnI base ((w3.setCell ⟨g,r+1,none⟩ (.int .i64 e)).setCell ⟨g,r,none⟩ (.int .i64 D)) (.slice (some ⟨g,0,none⟩) G.length cap) (isoR lt G i r) by
       rw[←HS.out];exact(ho3.set_ (r+1) _).set_ r _)
      have HG:=Lib.hid (yr (yr hg3 (r+1) (.int .i64 e)) r (.int .i64 D));have HP2:Hid (posN (lt D) (isoK lt G i) i=posN (lt D) (isoK lt G i) r):=Lib.hid (by rw[HP.out,HPS.out,if_pos e1]);clear ho2 ho3 hg3
      go_wp2_with fail
      go_region
      all_goals go_wp2
      all_goals go_roundw
      case rel=>exact⟨r,by omega,by go_num,HO.out,J0 HG.out,HP2⟩
      case measure=>simp[intOf]
     ·have e1:decide (z<0)=false:=by simp[hz]
      have HP2:Hid (posN (lt D) (isoK lt G i) i=r+1):=Lib.hid (by rw[HP.out,HPS.out,e1];rfl);have HO:Hid (OwnI base w3 (.slice (some ⟨g,0,none⟩) G.length cap) (isoH lt G (i+1))):=Lib.hid (by rw[←HE.out,HP2.out];exact ho3);clear ho2 ho3;go_wp2;go_roundw
      case rel=>exact⟨i+1,by omega,by omega,by go_num,by rw[show min (i+1) G.length=i+1 by omega];exact HO.out,hg3⟩
      case measure=>simp[intOf];omega
    ·have hp0':p=0:=by omega
     subst hp0';have HP2:Hid (posN (lt D) (isoK lt G i) i=0):=Lib.hid HP.out;have HO:Hid (OwnI base wr (.slice (some ⟨g,0,none⟩) G.length cap) (isoH lt G (i+1))):=Lib.hid (by rw[←HE.out,HP2.out];exact ho2);clear ho2 hc hlt hp0
     go_wp2_with fail
     (refine z9 (by kernel_rfl) (by kernel_rfl) (fun hG=>?_))
     repeat (go_big_quiet_step (fail))
     refine wpQuiet_nil ?_
     clear hG;rintro w3 ⟨⟨_,hb3⟩,rfl⟩;have ho3:=HO.out.kept hb3;have hg3:=yt hg hb3;go_wp2;go_roundw
     case rel=>exact⟨i+1,by omega,by omega,by go_num,by rw[show min (i+1) G.length=i+1 by omega];exact ho3,hg3⟩
     case measure=>simp[intOf];omega
  ·have HO:Hid (OwnI base wr (.slice (some ⟨g,0,none⟩) G.length cap) (natI (isoK lt G G.length))):=Lib.hid (by
    rw[show min i G.length=G.length by omega,XA] at ho2;exact ho2)
   clear hc hlt ho2;go_wp2
   go_end0
   exact⟨rfl,HO.out,hg⟩
theorem z18 (base f g cap:Nat) (lb:Array Value) (G:List Nat) (c:Nat→Nat→Int) (lt:Nat→Nat→Bool) (w:World) (hc:QT f lb G c (some g) w) (hlt:∀d e,decide (c d e<0)=lt d e)
  (ho:OwnI base w (.slice (some ⟨g,0,none⟩) G.length cap) (natI G)) (h20:G.length<20) (ef:Enters Tryz.prog f):
  Calls Tryz.prog 210 #[.slice (some ⟨g,0,none⟩) G.length cap,.int .i64 G.length,.func (.func f) #[] lb] w
   fun e w'=>e= .returned (.tuple #[])∧OwnI base w' (.slice (some ⟨g,0,none⟩) G.length cap) (natI (isoK lt G G.length))∧w.grownBy w' (some g):=by
 have h1:¬(20:Int)≤(G.length:Int):=by omega
 have h2:¬(20:Int)<(G.length:Int):=by omega
 go_enter Tryz.func210,Tryz.ntmps210
 go_wp2;refine wp_loop_rounds 1 ?_
 rw[rounds_succ]
 go_wp2_with fail
 refine(JA base f g cap lb G c lt _ hc hlt ho (by omega) ef).mono ?_
 rintro e w1 ⟨rfl,ho1,hg1⟩;go_wp2;refine wp_loop_rounds 1 ?_
 rw[rounds_succ];go_wp2
 go_end0
 exact⟨rfl,ho1,hg1⟩
theorem ZD (base f g cap:Nat) (lb:Array Value) (G:List Nat) (c:Nat→Nat→Int) (lt:Nat→Nat→Bool) (w:World) (hc:QT f lb G c (some g) w) (hlt:∀d e,decide (c d e<0)=lt d e)
  (ho:OwnI base w (.slice (some ⟨g,0,none⟩) G.length cap) (natI G)) (h20:G.length<20) (ef:Enters Tryz.prog f):
  Calls Tryz.prog 150 #[.slice (some ⟨g,0,none⟩) G.length cap,.func (.func f) #[] lb] w
   fun e w'=>e= .returned (.tuple #[])∧OwnI base w' (.slice (some ⟨g,0,none⟩) G.length cap) (natI (isoK lt G G.length))∧w.grownBy w' (some g):=by
 go_enter Tryz.func150,Tryz.ntmps150
 go_wp2_with fail
 refine(z18 base f g cap lb G c lt _ hc hlt ho h20 ef).mono ?_
 rintro e w1 ⟨rfl,ho1,hg1⟩;go_wp2
 go_end0
 exact⟨rfl,ho1,hg1⟩
theorem J5 (f:Nat) (lb:Array Value) (w:World):
  Calls Tryz.prog 150 #[.slice none 0 0,.func (.func f) #[] lb] w
   fun e w'=>e= .returned (.tuple #[])∧Below w.heap.size w w':=by
 go_enter Tryz.func150,Tryz.ntmps150
 go_wp2_with fail
 refine Calls.mono (R:=fun e w'=>e= .returned (.tuple #[])∧Below w.heap.size w w') ?_ ?_
 ·go_enter Tryz.func210,Tryz.ntmps210
  go_wp2;refine wp_loop_rounds 1 ?_
  rw[rounds_succ]
  go_wp2_with fail
  refine(QF f lb _).mono ?_
  rintro e w1 ⟨rfl,hb1⟩;go_wp2;refine wp_loop_rounds 1 ?_
  rw[rounds_succ];go_wp2
  go_end0
  exact⟨rfl,hb1⟩
 ·rintro e w1 ⟨rfl,hb1⟩
  go_wp2
  go_end0
  exact⟨rfl,hb1⟩
end Go.Proofs.YtnjcpljhmhdhkaaGreat
