/- part 21 -/
import Derived.Test.YtnjcpljhmhdhkaaGreatTPk14
import Derived.Test.YtnjcpljhmhdhkaaGreatTPk20
set_option linter.unusedSimpArgs false
set_option linter.unusedVariables false
set_option maxRecDepth 100000
set_option maxHeartbeats 8000000
namespace Go.Proofs.YtnjcpljhmhdhkaaGreat
open Go.RowKit
noncomputable def jT (nn nl:List Pr):List Pr→List Pr→List Sp→Bool
 |N,L,[]=>qz nn nl N L
 |N,L,s::r=>qz s.ns s.ls N L&&(km N L s.k s.a s.b&&jT nn nl (vv N L s.k s.a s.b) (vq N L s.k s.a s.b) r)
noncomputable def okD (D:Dr):Bool:=winB D.fn D.fl&&(decide (D.ss.length≤40)&&jT D.nn D.nl D.fn D.fl D.ss)
def V8 (w:World) (X Y:Nat) (v0 v1 v2 v3 v4:Value) (D:Dr) (res:Bool) (k:Nat) (wr:World):Prop:=
 ∃(N L:List Pr) (un ul:Value),Blk wr X 30 #[v0,v1,v2,v3,v4]∧Blk wr Y 27 #[un,ul]∧RP wr un N∧RP wr ul L∧N.length≤12∧L.length≤20+k∧
  jT D.nn D.nl N L (D.ss.drop k)=res∧Below w.heap.size w wr
theorem z4P (v0 v1 v2 v3 v4:Value) (D:Dr) (res:Bool) (w:World) (h:RD w v0 v1 v2 v3 v4 D) (hx:Hid (okD D=res)):
  Calls Tryz.prog 136 #[.agg #[v0,v1,v2,v3,v4]] w fun e w'=>e= .returned (.bool res)∧Below w.heap.size w w':=by
 obtain⟨bw,hbw⟩:∃bw,winB D.fn D.fl=bw:=⟨_,rfl⟩;obtain⟨A,c,e4,hc,hm,hcell⟩:=h.ss;unfold maxLen at hm;subst e4;obtain⟨A0,c0,e0,_⟩:=h.fn.form;obtain⟨A1,c1,e1,_⟩:=h.fl.form;subst e0 e1;have HD:=Lib.hid h;have hrn:=h.fn;have hrl:=h.fl;clear h
 cases bw
 ·have er:res=false:=by rw[←hx.out];unfold okD;rw[hbw];rfl
  subst er;clear hx hcell
  go_enter Tryz.func136,Tryz.ntmps136
  go_wp2_with fail
  refine(zE _ _ D.fn D.fl false _ (hrn.below (by exact bel_)) (hrl.below (by exact bel_)) hbw).mono ?_
  rintro e w1 ⟨rfl,hb1⟩;(first|(with_reducible have hcf1:=z8 hb1)|have hcf1:=bcell hb1);obtain⟨hc1,hf1⟩:=hcf1;have hz1:=hb1.size;(try simp at hz1);(try have hp1_0:=p0_ w w1);(try have hp1_1:=p1_ w w1);(try have hp1_2:=p2_ w w1);(try have hp1_3:=p3_ w w1)
  go_wp2;go_ret
  exact⟨rfl,by exact bel_⟩
 ·have hw12:=(zI.1 hbw).2.1
  have hw20:=(zI.1 hbw).2.2.1
  by_cases h40:40<D.ss.length
  ·have er:res=false:=by rw[←hx.out];unfold okD;rw[hbw,decide_eq_false (by omega)];rfl
   subst er;have h40':(40:Int)<(D.ss.length:Int):=by omega
   clear hx hcell h40
   go_enter Tryz.func136,Tryz.ntmps136
   go_wp2_with fail
   refine(zE _ _ D.fn D.fl true _ (hrn.below (by exact bel_)) (hrl.below (by exact bel_)) hbw).mono ?_
   rintro e w1 ⟨rfl,hb1⟩;have hz1:=hb1.size;have hV1:Blk w1 w.heap.size 30 #[.slice A0 D.fn.length c0,.slice A1 D.fl.length c1,v2,v3,.slice A D.ss.length c]:=Blk.below (Blk.newAt rfl) hb1 sz_;have hbw1:Below w.heap.size w w1:=by exact bel_
   clear hb1;obtain⟨a_0,a_1,a_2,a_3,a_4⟩:=hV1.c5;go_wp2;go_ret
   exact⟨rfl,by exact bel_⟩
  ·have er:jT D.nn D.nl D.fn D.fl D.ss=res:=by rw[←hx.out];unfold okD;rw[hbw,decide_eq_true (by omega)];rfl
   have HR:=Lib.hid er;have h40':¬(40:Int)<(D.ss.length:Int):=by omega
   clear hx er
   go_enter Tryz.func136,Tryz.ntmps136
   go_wp2_with fail
   refine(zE _ _ D.fn D.fl true _ (hrn.below (by exact bel_)) (hrl.below (by exact bel_)) hbw).mono ?_
   rintro e w1 ⟨rfl,hb1⟩;have hz1:=hb1.size;simp at hz1
   have hV1:Blk w1 w.heap.size 30 #[.slice A0 D.fn.length c0,.slice A1 D.fl.length c1,v2,v3,.slice A D.ss.length c]:=Blk.below (Blk.newAt rfl) hb1 sz_;have hbw1:Below w.heap.size w w1:=by exact bel_
   clear hb1 hbw;obtain⟨a_0,a_1,a_2,a_3,a_4⟩:=hV1.c5;have e0:w.heap.size<w1.heap.size:=by omega
   go_wp2_with fail
   obtain⟨u1,hu1⟩:∃u1,u1=w1.alloc (.cells #[.slice A0 D.fn.length c0,.slice A1 D.fl.length c1] 27):=⟨_,rfl⟩;rw[←hu1];have HS:Hid (V8 w w.heap.size w1.heap.size (.slice A0 D.fn.length c0) (.slice A1 D.fl.length c1) v2 v3 (.slice A D.ss.length c) D res 0 u1):=Lib.hid ⟨D.fn,D.fl,.slice A0 D.fn.length c0,.slice A1 D.fl.length c1,hu1▸hV1.alloc _,hu1▸Blk.newAt rfl,hu1▸hrn.below (hbw1.alloc (by omega) _),hu1▸hrl.below (hbw1.alloc (by omega) _),hw12,by omega,HR.out,hu1▸hbw1.alloc (by omega) _⟩;have hY:w.heap.size<w1.heap.size:=e0;generalize w1.heap.size=Y at*;clear hu1 hbw1 hV1 a_0 a_1 a_2 a_3 a_4 hz1 e0 HR
   go_loopw [4] (fun i wr=>∃k:Nat,k≤D.ss.length∧i= .int .i64 k∧Hid (V8 w w.heap.size Y (.slice A0 D.fn.length c0) (.slice A1 D.fl.length c1) v2 v3 (.slice A D.ss.length c) D res k wr)) (fun i _=>D.ss.length -(intOf i).toNat)
   case atStart=>exact⟨0,Nat.zero_le _,rfl,HS⟩
   case round=>
    obtain⟨k,hk,rfl,HT⟩:=hrel;clear HS;obtain⟨N,L,un,ul,hbx,hby,hun,hul,hN,hL,hres,hbl⟩:=HT.out;have hsz:=hbl.size;have hRD:=Lib.hid (HD.out.below hbl);obtain⟨x_0,x_1,x_2,x_3,x_4⟩:=hbx.c5;obtain⟨y_0,y_1⟩:=hby.c2
    by_cases hlt:k<D.ss.length
    ·obtain⟨b,off,rfl,hb,hcl⟩:=hcell (by omega)
     obtain⟨k0,k1,k2,vn,vl,k3,k4,hn,hl⟩:=hcl k hlt;have q0:=(hbl.cell (p:=⟨b,off+k*5,none⟩) hb).trans k0;have q1:=(hbl.cell (p:=⟨b,off+k*5+1,none⟩) hb).trans k1;have q2:=(hbl.cell (p:=⟨b,off+k*5+2,none⟩) hb).trans k2;have q3:=(hbl.cell (p:=⟨b,off+k*5+3,none⟩) hb).trans k3;have q4:=(hbl.cell (p:=⟨b,off+k*5+4,none⟩) hb).trans k4;obtain⟨Av,cv,ev,_⟩:=hn.form;obtain⟨Au,cu,eu,_⟩:=hl.form;subst ev eu;have hn':=Lib.hid (hn.below hbl);have hl':=Lib.hid (hl.below hbl);rw[List.drop_eq_getElem_cons hlt] at hres;unfold jT at hres;obtain⟨sw,hsw⟩:∃sw,qz D.ss[k].ns D.ss[k].ls N L=sw:=⟨_,rfl⟩;have HSW:=Lib.hid hsw;rw[hsw] at hres;have HRES:=Lib.hid hres;generalize D.ss[k]=s at*;clear k0 k1 k2 k3 k4 hcl hcell hn hl HT hsw hres;have hunH:=Lib.hid hun;have hulH:=Lib.hid hul;have HXB:=Lib.hid hbx;have HYB:=Lib.hid hby
     have hylt:=hby.lt;clear hun hul hbx hby
     go_wp2_with fail
     obtain⟨w2,hw2⟩:∃w2,w2=wr.alloc (.cells #[.int .i64 s.k,.int .i64 s.a,.int .i64 s.b,.slice Av s.ns.length cv,.slice Au s.ls.length cu] 113):=⟨_,rfl⟩;rw[←hw2];have hbw2:Below w.heap.size w w2:=hw2▸hbl.alloc hsz _;have hbr2:Below wr.heap.size wr w2:=hw2▸(Below.refl _ _).alloc (Nat.le_refl _) _;have hZ:Blk w2 wr.heap.size 113 #[.int .i64 s.k,.int .i64 s.a,.int .i64 s.b,.slice Av s.ns.length cv,.slice Au s.ls.length cu]:=hw2▸Blk.newAt rfl;have hX2:=HXB.out.below hbr2 HXB.out.lt;have hY2:=HYB.out.below hbr2 hylt;clear hw2 q0 q1 q2 q3 q4 x_0 x_1 x_2 x_3 x_4 y_0 y_1;refine(ks _ _ _ _ s.ns s.ls N L sw _ (hn'.out.below hbr2) (hl'.out.below hbr2) (hunH.out.below hbr2) (hulH.out.below hbr2) HSW).mono ?_
     rintro e w3 ⟨rfl,hb3⟩;have hbw3:Below w.heap.size w w3:=hbw2.trans (hb3.mono hbw2.size);have hX3:=hX2.below hb3 hX2.lt;have hY3:=hY2.below hb3 hY2.lt;have hZ3:=hZ.below hb3 hZ.lt;have hbr3:Below wr.heap.size wr w3:=hbr2.trans (hb3.mono hbr2.size);have hun3:=hunH.out.below hbr3;have hul3:=hulH.out.below hbr3;clear hb3 hbw2 hX2 hY2 hZ hbr2 hbr3 hn' hl' hunH hulH HXB HYB;generalize wr.heap.size=Z at*
     cases sw
     ·have er:res=false:=HRES.out.symm
      subst er;go_wp2;go_ret
      exact⟨rfl,hbw3⟩
     ·have hres2:(km N L s.k s.a s.b&&jT D.nn D.nl (vv N L s.k s.a s.b) (vq N L s.k s.a s.b) (D.ss.drop (k+1)))=res:=HRES.out
      obtain⟨N',hN'⟩:∃N',vv N L s.k s.a s.b=N':=⟨_,rfl⟩;obtain⟨L',hL'⟩:∃L',vq N L s.k s.a s.b=L':=⟨_,rfl⟩;obtain⟨bb,hbb⟩:∃bb,km N L s.k s.a s.b=bb:=⟨_,rfl⟩;obtain⟨l1,l2⟩:=z0G N L s.k s.a s.b;rw[hN',hL',hbb] at hres2;rw[hN'] at l1;rw[hL'] at l2;have H1:=Lib.hid hN';have H2:=Lib.hid hL';have H3:=Lib.hid hbb;have HR2:=Lib.hid hres2;clear hN' hL' hbb hres2 HRES HSW;obtain⟨z_0,z_1,z_2,z_3,z_4⟩:=hZ3.c5;obtain⟨y_0,y_1⟩:=hY3.c2
      go_wp2_with fail
      refine(z3R _ _ N L N' L' s.k s.a s.b bb _ hun3 hul3 (by omega) (by omega) H1 H2 H3).mono ?_
      rintro e w4 ⟨An,cn,Al,cl,rfl,ho4,hb4⟩;have hbw4:Below w.heap.size w w4:=hbw3.trans (hb4.mono hbw3.size);have HX4:=Lib.hid (hX3.below hb4 hX3.lt);have hY4:=hY3.below hb4 hY3.lt;have hY3l:=hY3.lt;have ho5:=Lib.hid (((ho4.setLow (p:=⟨Y,0,none⟩) hY3l (.slice An N'.length cn)).setLow (p:=⟨Y,1,none⟩) hY3l (.slice Al L'.length cl)).alloc' (.cells #[.slice An N'.length cn,.slice Al L'.length cl] 27));clear hb4 hX3 hY3 hZ3 ho4 hbw3 z_0 z_1 z_2 z_3 z_4 y_0 y_1 hun3 hul3 H1 H2 H3;have e4:Y<w4.heap.size:=hY4.lt
      cases bb
      ·have er:res=false:=HR2.out.symm
       subst er;go_wp2;go_ret
       exact⟨rfl,by exact bel_⟩
      ·have HR3:Hid (jT D.nn D.nl N' L' (D.ss.drop (k+1))=res):=Lib.hid HR2.out
       have HFIN:Hid (V8 w w.heap.size Y (.slice A0 D.fn.length c0) (.slice A1 D.fl.length c1) v2 v3 (.slice (some ⟨b,off,none⟩) D.ss.length c) D res (k+1) (((w4.setCell ⟨Y,0,none⟩ (.slice An N'.length cn)).setCell ⟨Y,1,none⟩ (.slice Al L'.length cl)).alloc (.cells #[.slice An N'.length cn,.slice Al L'.length cl] 27))):=by
        have hY5:=((hY4.set_ 0 (.slice An N'.length cn)).set_ 1 (.slice Al L'.length cl)).alloc (.cells #[.slice An N'.length cn,.slice Al L'.length cl] 27);have hX5:=((HX4.out.far (p:=⟨Y,0,none⟩) (by show _≠Y;omega) (.slice An N'.length cn)).far (p:=⟨Y,1,none⟩) (by show _≠Y;omega) (.slice Al L'.length cl)).alloc (.cells #[.slice An N'.length cn,.slice Al L'.length cl] 27);exact Lib.hid ⟨N',L',_,_,hX5,hY5,ho5.out.1.reads,ho5.out.2.1.reads,by omega,by omega,HR3.out,by exact bel_⟩
       obtain⟨y_0,y_1,y_f0,y_f1⟩:=hY4.b2;go_wp2;go_roundw
       case rel=>exact⟨k+1,by omega,by go_num,HFIN⟩
       case measure=>simp[intOf];omega
    ·have hkk:k=D.ss.length:=by omega
     subst hkk;rw[List.drop_length] at hres;unfold jT at hres;have HRES:=Lib.hid hres;have hnn:=hRD.out.nn;have hnl:=hRD.out.nl;clear hres HT hcell
     go_wp2_with fail
     refine(ks _ _ _ _ D.nn D.nl N L res _ hnn hnl hun hul HRES).mono ?_
     rintro e w3 ⟨rfl,hb3⟩;have hbw3:Below w.heap.size w w3:=hbl.trans (hb3.mono hsz);clear hb3;go_wp2;go_ret
     exact⟨rfl,hbw3⟩
theorem z4N (v0 v1 v2 v3 v4:Value) (D:Dr) (res:Bool) (w:World) (h:RD w v0 v1 v2 v3 v4 D) (hx:Hid (okD D=res)):
  Calls Tryz.prog 25 #[.agg #[v0,v1,v2,v3,v4]] w fun e w'=>e= .returned (.bool res)∧Below w.heap.size w w':=by
 obtain⟨bw,hbw⟩:∃bw,winB D.fn D.fl=bw:=⟨_,rfl⟩;obtain⟨A,c,e4,hc,hm,hcell⟩:=h.ss;unfold maxLen at hm;subst e4;obtain⟨A0,c0,e0,_⟩:=h.fn.form;obtain⟨A1,c1,e1,_⟩:=h.fl.form;subst e0 e1;have HD:=Lib.hid h;have hrn:=h.fn;have hrl:=h.fl;clear h
 cases bw
 ·have er:res=false:=by rw[←hx.out];unfold okD;rw[hbw];rfl
  subst er;clear hx hcell
  go_enter Tryz.func25,Tryz.ntmps25
  go_wp2_with fail
  refine(zP _ _ D.fn D.fl false _ (hrn.below (by exact bel_)) (hrl.below (by exact bel_)) hbw).mono ?_
  rintro e w1 ⟨rfl,hb1⟩;(first|(with_reducible have hcf1:=z8 hb1)|have hcf1:=bcell hb1);obtain⟨hc1,hf1⟩:=hcf1;have hz1:=hb1.size;(try simp at hz1);(try have hp1_0:=p0_ w w1);(try have hp1_1:=p1_ w w1);(try have hp1_2:=p2_ w w1);(try have hp1_3:=p3_ w w1)
  go_wp2;go_ret
  exact⟨rfl,by exact bel_⟩
 ·have hw12:=(zI.1 hbw).2.1
  have hw20:=(zI.1 hbw).2.2.1
  by_cases h40:40<D.ss.length
  ·have er:res=false:=by rw[←hx.out];unfold okD;rw[hbw,decide_eq_false (by omega)];rfl
   subst er;have h40':(40:Int)<(D.ss.length:Int):=by omega
   clear hx hcell h40
   go_enter Tryz.func25,Tryz.ntmps25
   go_wp2_with fail
   refine(zP _ _ D.fn D.fl true _ (hrn.below (by exact bel_)) (hrl.below (by exact bel_)) hbw).mono ?_
   rintro e w1 ⟨rfl,hb1⟩;have hz1:=hb1.size;have hV1:Blk w1 w.heap.size 30 #[.slice A0 D.fn.length c0,.slice A1 D.fl.length c1,v2,v3,.slice A D.ss.length c]:=Blk.below (Blk.newAt rfl) hb1 sz_;have hbw1:Below w.heap.size w w1:=by exact bel_
   clear hb1;obtain⟨a_0,a_1,a_2,a_3,a_4⟩:=hV1.c5;go_wp2;go_ret
   exact⟨rfl,by exact bel_⟩
  ·have er:jT D.nn D.nl D.fn D.fl D.ss=res:=by rw[←hx.out];unfold okD;rw[hbw,decide_eq_true (by omega)];rfl
   have HR:=Lib.hid er;have h40':¬(40:Int)<(D.ss.length:Int):=by omega
   clear hx er
   go_enter Tryz.func25,Tryz.ntmps25
   go_wp2_with fail
   refine(zP _ _ D.fn D.fl true _ (hrn.below (by exact bel_)) (hrl.below (by exact bel_)) hbw).mono ?_
   rintro e w1 ⟨rfl,hb1⟩;have hz1:=hb1.size;simp at hz1
   have hV1:Blk w1 w.heap.size 30 #[.slice A0 D.fn.length c0,.slice A1 D.fl.length c1,v2,v3,.slice A D.ss.length c]:=Blk.below (Blk.newAt rfl) hb1 sz_;have hbw1:Below w.heap.size w w1:=by exact bel_
   clear hb1 hbw;obtain⟨a_0,a_1,a_2,a_3,a_4⟩:=hV1.c5;have e0:w.heap.size<w1.heap.size:=by omega
   go_wp2_with fail
   obtain⟨u1,hu1⟩:∃u1,u1=w1.alloc (.cells #[.slice A0 D.fn.length c0,.slice A1 D.fl.length c1] 27):=⟨_,rfl⟩;rw[←hu1];have HS:Hid (V8 w w.heap.size w1.heap.size (.slice A0 D.fn.length c0) (.slice A1 D.fl.length c1) v2 v3 (.slice A D.ss.length c) D res 0 u1):=Lib.hid ⟨D.fn,D.fl,.slice A0 D.fn.length c0,.slice A1 D.fl.length c1,hu1▸hV1.alloc _,hu1▸Blk.newAt rfl,hu1▸hrn.below (hbw1.alloc (by omega) _),hu1▸hrl.below (hbw1.alloc (by omega) _),hw12,by omega,HR.out,hu1▸hbw1.alloc (by omega) _⟩;have hY:w.heap.size<w1.heap.size:=e0;generalize w1.heap.size=Y at*;clear hu1 hbw1 hV1 a_0 a_1 a_2 a_3 a_4 hz1 e0 HR
   go_loopw [23] (fun i wr=>∃k:Nat,k≤D.ss.length∧i= .int .i64 k∧Hid (V8 w w.heap.size Y (.slice A0 D.fn.length c0) (.slice A1 D.fl.length c1) v2 v3 (.slice A D.ss.length c) D res k wr)) (fun i _=>D.ss.length -(intOf i).toNat)
   case atStart=>exact⟨0,Nat.zero_le _,rfl,HS⟩
   case round=>
    obtain⟨k,hk,rfl,HT⟩:=hrel;clear HS;obtain⟨N,L,un,ul,hbx,hby,hun,hul,hN,hL,hres,hbl⟩:=HT.out;have hsz:=hbl.size;have hRD:=Lib.hid (HD.out.below hbl);obtain⟨x_0,x_1,x_2,x_3,x_4⟩:=hbx.c5;obtain⟨y_0,y_1⟩:=hby.c2
    by_cases hlt:k<D.ss.length
    ·obtain⟨b,off,rfl,hb,hcl⟩:=hcell (by omega)
     obtain⟨k0,k1,k2,vn,vl,k3,k4,hn,hl⟩:=hcl k hlt;have q0:=(hbl.cell (p:=⟨b,off+k*5,none⟩) hb).trans k0;have q1:=(hbl.cell (p:=⟨b,off+k*5+1,none⟩) hb).trans k1;have q2:=(hbl.cell (p:=⟨b,off+k*5+2,none⟩) hb).trans k2;have q3:=(hbl.cell (p:=⟨b,off+k*5+3,none⟩) hb).trans k3;have q4:=(hbl.cell (p:=⟨b,off+k*5+4,none⟩) hb).trans k4;obtain⟨Av,cv,ev,_⟩:=hn.form;obtain⟨Au,cu,eu,_⟩:=hl.form;subst ev eu;have hn':=Lib.hid (hn.below hbl);have hl':=Lib.hid (hl.below hbl);rw[List.drop_eq_getElem_cons hlt] at hres;unfold jT at hres;obtain⟨sw,hsw⟩:∃sw,qz D.ss[k].ns D.ss[k].ls N L=sw:=⟨_,rfl⟩;have HSW:=Lib.hid hsw;rw[hsw] at hres;have HRES:=Lib.hid hres;generalize D.ss[k]=s at*;clear k0 k1 k2 k3 k4 hcl hcell hn hl HT hsw hres;have hunH:=Lib.hid hun;have hulH:=Lib.hid hul;have HXB:=Lib.hid hbx;have HYB:=Lib.hid hby
     have hylt:=hby.lt;clear hun hul hbx hby
     go_wp2_with fail
     obtain⟨w2,hw2⟩:∃w2,w2=wr.alloc (.cells #[.int .i64 s.k,.int .i64 s.a,.int .i64 s.b,.slice Av s.ns.length cv,.slice Au s.ls.length cu] 113):=⟨_,rfl⟩;rw[←hw2];have hbw2:Below w.heap.size w w2:=hw2▸hbl.alloc hsz _;have hbr2:Below wr.heap.size wr w2:=hw2▸(Below.refl _ _).alloc (Nat.le_refl _) _;have hZ:Blk w2 wr.heap.size 113 #[.int .i64 s.k,.int .i64 s.a,.int .i64 s.b,.slice Av s.ns.length cv,.slice Au s.ls.length cu]:=hw2▸Blk.newAt rfl;have hX2:=HXB.out.below hbr2 HXB.out.lt;have hY2:=HYB.out.below hbr2 hylt;clear hw2 q0 q1 q2 q3 q4 x_0 x_1 x_2 x_3 x_4 y_0 y_1;refine(kw _ _ _ _ s.ns s.ls N L sw _ (hn'.out.below hbr2) (hl'.out.below hbr2) (hunH.out.below hbr2) (hulH.out.below hbr2) HSW).mono ?_
     rintro e w3 ⟨rfl,hb3⟩;have hbw3:Below w.heap.size w w3:=hbw2.trans (hb3.mono hbw2.size);have hX3:=hX2.below hb3 hX2.lt;have hY3:=hY2.below hb3 hY2.lt;have hZ3:=hZ.below hb3 hZ.lt;have hbr3:Below wr.heap.size wr w3:=hbr2.trans (hb3.mono hbr2.size);have hun3:=hunH.out.below hbr3;have hul3:=hulH.out.below hbr3;clear hb3 hbw2 hX2 hY2 hZ hbr2 hbr3 hn' hl' hunH hulH HXB HYB;generalize wr.heap.size=Z at*
     cases sw
     ·have er:res=false:=HRES.out.symm
      subst er;go_wp2;go_ret
      exact⟨rfl,hbw3⟩
     ·have hres2:(km N L s.k s.a s.b&&jT D.nn D.nl (vv N L s.k s.a s.b) (vq N L s.k s.a s.b) (D.ss.drop (k+1)))=res:=HRES.out
      obtain⟨N',hN'⟩:∃N',vv N L s.k s.a s.b=N':=⟨_,rfl⟩;obtain⟨L',hL'⟩:∃L',vq N L s.k s.a s.b=L':=⟨_,rfl⟩;obtain⟨bb,hbb⟩:∃bb,km N L s.k s.a s.b=bb:=⟨_,rfl⟩;obtain⟨l1,l2⟩:=z0G N L s.k s.a s.b;rw[hN',hL',hbb] at hres2;rw[hN'] at l1;rw[hL'] at l2;have H1:=Lib.hid hN';have H2:=Lib.hid hL';have H3:=Lib.hid hbb;have HR2:=Lib.hid hres2;clear hN' hL' hbb hres2 HRES HSW;obtain⟨z_0,z_1,z_2,z_3,z_4⟩:=hZ3.c5;obtain⟨y_0,y_1⟩:=hY3.c2
      go_wp2_with fail
      refine(z4F _ _ N L N' L' s.k s.a s.b bb _ hun3 hul3 (by omega) (by omega) H1 H2 H3).mono ?_
      rintro e w4 ⟨An,cn,Al,cl,rfl,ho4,hb4⟩;have hbw4:Below w.heap.size w w4:=hbw3.trans (hb4.mono hbw3.size);have HX4:=Lib.hid (hX3.below hb4 hX3.lt);have hY4:=hY3.below hb4 hY3.lt;have hY3l:=hY3.lt;have ho5:=Lib.hid (((ho4.setLow (p:=⟨Y,0,none⟩) hY3l (.slice An N'.length cn)).setLow (p:=⟨Y,1,none⟩) hY3l (.slice Al L'.length cl)).alloc' (.cells #[.slice An N'.length cn,.slice Al L'.length cl] 27));clear hb4 hX3 hY3 hZ3 ho4 hbw3 z_0 z_1 z_2 z_3 z_4 y_0 y_1 hun3 hul3 H1 H2 H3;have e4:Y<w4.heap.size:=hY4.lt
      cases bb
      ·have er:res=false:=HR2.out.symm
       subst er;go_wp2;go_ret
       exact⟨rfl,by exact bel_⟩
      ·have HR3:Hid (jT D.nn D.nl N' L' (D.ss.drop (k+1))=res):=Lib.hid HR2.out
       have HFIN:Hid (V8 w w.heap.size Y (.slice A0 D.fn.length c0) (.slice A1 D.fl.length c1) v2 v3 (.slice (some ⟨b,off,none⟩) D.ss.length c) D res (k+1) (((w4.setCell ⟨Y,0,none⟩ (.slice An N'.length cn)).setCell ⟨Y,1,none⟩ (.slice Al L'.length cl)).alloc (.cells #[.slice An N'.length cn,.slice Al L'.length cl] 27))):=by
        have hY5:=((hY4.set_ 0 (.slice An N'.length cn)).set_ 1 (.slice Al L'.length cl)).alloc (.cells #[.slice An N'.length cn,.slice Al L'.length cl] 27);have hX5:=((HX4.out.far (p:=⟨Y,0,none⟩) (by show _≠Y;omega) (.slice An N'.length cn)).far (p:=⟨Y,1,none⟩) (by show _≠Y;omega) (.slice Al L'.length cl)).alloc (.cells #[.slice An N'.length cn,.slice Al L'.length cl] 27);exact Lib.hid ⟨N',L',_,_,hX5,hY5,ho5.out.1.reads,ho5.out.2.1.reads,by omega,by omega,HR3.out,by exact bel_⟩
       obtain⟨y_0,y_1,y_f0,y_f1⟩:=hY4.b2;go_wp2;go_roundw
       case rel=>exact⟨k+1,by omega,by go_num,HFIN⟩
       case measure=>simp[intOf];omega
    ·have hkk:k=D.ss.length:=by omega
     subst hkk;rw[List.drop_length] at hres;unfold jT at hres;have HRES:=Lib.hid hres;have hnn:=hRD.out.nn;have hnl:=hRD.out.nl;clear hres HT hcell
     go_wp2_with fail
     refine(kw _ _ _ _ D.nn D.nl N L res _ hnn hnl hun hul HRES).mono ?_
     rintro e w3 ⟨rfl,hb3⟩;have hbw3:Below w.heap.size w w3:=hbl.trans (hb3.mono hsz);clear hb3;go_wp2;go_ret
     exact⟨rfl,hbw3⟩
end Go.Proofs.YtnjcpljhmhdhkaaGreat
