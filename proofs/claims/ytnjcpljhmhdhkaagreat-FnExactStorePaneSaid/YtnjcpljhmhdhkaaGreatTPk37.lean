/- part 37 -/
import Derived.Test.YtnjcpljhmhdhkaaGreatTPk34
set_option linter.unusedSimpArgs false
set_option linter.unusedVariables false
set_option maxRecDepth 100000
set_option maxHeartbeats 4000000
namespace Go.Proofs.YtnjcpljhmhdhkaaGreat
open Go.RowKit
attribute [local go_sem ↓] zY zZ
theorem Zv (vn vl:Value) (ns ls:List Pr) (k:Nat) (w:World) (hn:RP w vn ns) (hl:RP w vl ls) (hk:k<ns.length) (hn12:ns.length≤12) (hm20:ls.length≤20) (hld:∀j:Nat,j<ls.length→zj ns (ndI ls j)=true):
  Calls Tryz.prog 144 #[.agg #[vn,vl],.int .i64 k] w fun e w'=>∃b off n c,∃p:Nat,e= .returned (.slice (some ⟨b,off,none⟩) n c)∧0<n∧b<w'.heap.size∧w'.cell? ⟨b,off,none⟩=some (.int .i64 p)∧
   (zh ns.length ls ls.length).getD k 0=(p:Int)∧p≤k∧Below w.heap.size w w':=by
 refine(QI vn vl ns ls k w hn hl hk hn12 hm20 hld).mono ?_
 rintro e w' ⟨v,rfl,ho,hb⟩;obtain⟨p,h1,h2,h3⟩:=z1y (Xe hld) hk;obtain⟨hp,hp'⟩:=List.getElem?_eq_some_iff.1 h3;obtain⟨A,c,rfl,_,_,hcell⟩:=ho.reads.form;obtain⟨b,off,rfl,hlt,hc⟩:=hcell (by rw[zc];exact hp);refine⟨b,off,_,c,p,rfl,by rw[zc];exact hp,hlt,?_,h1,h2,hb⟩
 have:=hc 0 (by rw[zc];exact hp);rw[Nat.add_zero] at this;rw[this];unfold natI;rw[List.getD,List.getElem?_map,h3];rfl
theorem XR (vn vl:Value) (ns ls:List Pr) (w:World) (hn:RP w vn ns) (hl:RP w vl ls):
  Calls Tryz.prog 148 #[.agg #[vn,vl]] w fun e w'=>e= .returned (.int .i64 (jg ns ls))∧Below w.heap.size w w':=by
 cases hw:winB ns ls
 ·have HR:Hid (jg ns ls=0):=Lib.hid (by simp[jg,hw])
  go_enter Tryz.func148,Tryz.ntmps148
  go_wp2_with fail
  refine(zP _ _ ns ls _ _ (hn.below (by exact bel_)) (hl.below (by exact bel_)) hw).mono ?_
  rintro e w1 ⟨rfl,hb1⟩;(first|(with_reducible have hcf1:=z8 hb1)|have hcf1:=bcell hb1);obtain⟨hc1,hf1⟩:=hcf1;have hz1:=hb1.size;(try simp at hz1);(try have hp1_0:=p0_ w w1);(try have hp1_1:=p1_ w w1);(try have hp1_2:=p2_ w w1);(try have hp1_3:=p3_ w w1)
  go_wp2;go_ret
  exact⟨ze HR.out.symm,by exact bel_⟩
 ·have HR:Hid (jg ns ls=(yc ns.length ls ns.length:Int)):=Lib.hid (by simp[jg,hw])
  have hwin:=zI.1 hw;have hn12:=hwin.2.1;have hm20:=hwin.2.2.1;have HLD:Hid (∀j:Nat,j<ls.length→zj ns (ndI ls j)=true):=Lib.hid (fun j hj=>(hwin.2.2.2.2.2 j hj).1);clear hwin;obtain⟨An,cn,rfl,hcn,hmn,_⟩:=hn.formI;unfold maxLen at hmn
  go_enter Tryz.func148,Tryz.ntmps148
  go_wp2_with fail
  refine(zP _ _ ns ls _ _ (hn.below (by exact bel_)) (hl.below (by exact bel_)) hw).mono ?_
  rintro e w1 ⟨rfl,hb1⟩;(first|(with_reducible have hcf1:=z8 hb1)|have hcf1:=bcell hb1);obtain⟨hc1,hf1⟩:=hcf1;have hz1:=hb1.size;(try simp at hz1);(try have hp1_0:=p0_ w w1);(try have hp1_1:=p1_ w w1);(try have hp1_2:=p2_ w w1);(try have hp1_3:=p3_ w w1)
  have hW1:Blk w1 w.heap.size 27 #[.slice An ns.length cn,vl]:=Blk.below (Blk.newAt rfl) hb1 sz_;have hbw1:Below w.heap.size w w1:=by exact bel_
  clear hb1 hc1 hf1;obtain⟨a_0,a_1⟩:=hW1.c2;go_wp2
  go_loopw [3,11] (fun x i wr=>∃k:Nat,k≤ns.length∧i= .int .i64 k∧x= .int .i64 (yc ns.length ls k)∧Blk wr w.heap.size 27 #[.slice An ns.length cn,vl]∧Below w.heap.size w wr) (fun _ i _=>ns.length -(intOf i).toNat)
  case atStart=>exact⟨0,Nat.zero_le _,rfl,rfl,hW1,hbw1⟩
  case round=>
   obtain⟨k,hk,rfl,rfl,hW,hbl⟩:=hrel;clear hW1 hbw1 a_0 a_1;have hsz:=hW.lt;have hjl:=xF ns.length ls k;obtain⟨a_0,a_1⟩:=hW.c2
   by_cases hlt:k<ns.length
   ·have HY:=Lib.hid (fun h=>JJ (n:=ns.length) (ls:=ls) (k:=k) h)
    have HNO:=Lib.hid (fun h=>z0z (n:=ns.length) (ls:=ls) (k:=k) h);generalize yc ns.length ls k=J at*
    go_wp2_with fail
    refine(Zv _ _ ns ls k _ (hn.below hbl) (hl.below hbl) hlt hn12 hm20 HLD.out).mono ?_
    rintro e w2 ⟨b,off,n,c,p,rfl,hn0,hbl2,hc2,hp,hpk,hb2⟩;have hW2:=hW.below hb2 hsz;have hbw2:=hbl.trans (hb2.mono hbl.size);have hi1:(0:Int)<(n:Int):=by omega
    clear hb2 hW hbl a_0 a_1
    by_cases hpe:p=k
    ·have HS:=Lib.hid (HY.out (by rw[hp,hpe]))
     have e1:((p:Int)==(k:Int))=true:=beq_iff_eq.2 (by omega);clear hp HY HNO hpe;go_wp2;go_roundw
     case rel=>exact⟨k+1,by omega,by go_num,by rw[HS.out];go_num,hW2,hbw2⟩
     case measure=>simp[intOf];omega
    ·have HS:=Lib.hid (HNO.out (by rw[hp];omega))
     have e1:((p:Int)==(k:Int))=false:=beq_eq_false_iff_ne.2 (by omega);clear hp HY HNO hpe;go_wp2;go_roundw
     case rel=>exact⟨k+1,by omega,by go_num,by rw[HS.out],hW2,hbw2⟩
     case measure=>simp[intOf];omega
   ·have hkk:k=ns.length:=by omega
    subst hkk;go_wp2;go_ret
    exact⟨ze HR.out.symm,hbl⟩
theorem z0S (vn vl:Value) (ns ls:List Pr) (w:World) (hn:RP w vn ns) (hl:RP w vl ls):
  Calls Tryz.prog 204 #[.agg #[vn,vl]] w fun e w'=>e= .returned (.int .i64 (jg ns ls))∧Below w.heap.size w w':=by
 cases hw:winB ns ls
 ·have HR:Hid (jg ns ls=0):=Lib.hid (by simp[jg,hw])
  go_enter Tryz.func204,Tryz.ntmps204
  go_wp2_with fail
  refine(zE _ _ ns ls _ _ (hn.below (by exact bel_)) (hl.below (by exact bel_)) hw).mono ?_
  rintro e w1 ⟨rfl,hb1⟩;(first|(with_reducible have hcf1:=z8 hb1)|have hcf1:=bcell hb1);obtain⟨hc1,hf1⟩:=hcf1;have hz1:=hb1.size;(try simp at hz1);(try have hp1_0:=p0_ w w1);(try have hp1_1:=p1_ w w1);(try have hp1_2:=p2_ w w1);(try have hp1_3:=p3_ w w1)
  go_wp2;go_ret
  exact⟨ze HR.out.symm,by exact bel_⟩
 ·have HR:Hid (jg ns ls=(yc ns.length ls ns.length:Int)):=Lib.hid (by simp[jg,hw])
  have hwin:=zI.1 hw;have hn0:=hwin.1;have hn12:=hwin.2.1;have hm20:=hwin.2.2.1;have HLD:Hid (∀j:Nat,j<ls.length→zj ns (ndI ls j)=true):=Lib.hid (fun j hj=>(hwin.2.2.2.2.2 j hj).1);clear hwin
  go_enter Tryz.func204,Tryz.ntmps204
  go_wp2_with fail
  refine(zE _ _ ns ls _ _ (hn.below (by exact bel_)) (hl.below (by exact bel_)) hw).mono ?_
  rintro e w1 ⟨rfl,hb1⟩;(first|(with_reducible have hcf1:=z8 hb1)|have hcf1:=bcell hb1);obtain⟨hc1,hf1⟩:=hcf1;have hz1:=hb1.size;(try simp at hz1);(try have hp1_0:=p0_ w w1);(try have hp1_1:=p1_ w w1);(try have hp1_2:=p2_ w w1);(try have hp1_3:=p3_ w w1)
  have hW1:Blk w1 w.heap.size 27 #[vn,vl]:=Blk.below (Blk.newAt rfl) hb1 sz_;have hbw1:Below w.heap.size w w1:=by exact bel_
  clear hb1 hc1 hf1;obtain⟨a_0,a_1⟩:=hW1.c2
  go_wp2_with fail
  refine(Jj _ _ ns ls _ (hn.below hbw1) (hl.below hbw1) hm20 hn12 hn0 HLD.out).mono ?_
  rintro e w2 ⟨v2,rfl,ho2,hb2⟩;have hlen:=qG ns.length ls ls.length;have hbw2:=hbw1.trans (hb2.mono hbw1.size);obtain⟨A,c,rfl,_,_,hcell⟩:=ho2.reads.form;rw[hlen] at hcell⊢;obtain⟨b,off,rfl,hbl2,hcl⟩:=hcell hn0;have HCL:=Lib.hid hcl;clear hcell hcl hlen ho2 hb2 hW1 hbw1 a_0 a_1;go_wp2
  go_loopw [4,5] (fun x i wr=>∃k:Nat,k≤ns.length∧i= .int .i64 k∧x= .int .i64 (yc ns.length ls k)∧wr=w2) (fun _ i _=>ns.length -(intOf i).toNat)
  case atStart=>exact⟨0,Nat.zero_le _,rfl,rfl,rfl⟩
  case round=>
   obtain⟨k,hk,rfl,rfl,rfl⟩:=hrel;have hjl:=xF ns.length ls k
   by_cases hlt:k<ns.length
   ·have HY:=Lib.hid (fun h=>JJ (n:=ns.length) (ls:=ls) (k:=k) h)
    have HNO:=Lib.hid (fun h=>z0z (n:=ns.length) (ls:=ls) (k:=k) h);have hck:=HCL.out k hlt;generalize yc ns.length ls k=J at*;generalize (zh ns.length ls ls.length).getD k 0=p at*;have hi1:(k:Int)<(ns.length:Int):=by omega
    have hi0:(0:Int)≤(k:Int):=by omega
    by_cases hpe:p=(k:Int)
    ·have HS:=Lib.hid (HY.out hpe)
     have e1:(p==(k:Int))=true:=beq_iff_eq.2 hpe;clear HY HNO hpe;go_wp2;go_roundw
     case rel=>exact⟨k+1,by omega,by go_num,by rw[HS.out];go_num,by trivial⟩
     case measure=>simp[intOf];omega
    ·have HS:=Lib.hid (HNO.out hpe)
     have e1:(p==(k:Int))=false:=beq_eq_false_iff_ne.2 hpe;clear HY HNO hpe;go_wp2;go_roundw
     case rel=>exact⟨k+1,by omega,by go_num,by rw[HS.out],by trivial⟩
     case measure=>simp[intOf];omega
   ·have hkk:k=ns.length:=by omega
    subst hkk;go_wp2;go_ret
    exact⟨ze HR.out.symm,hbw2⟩
theorem z19 (vn vl:Value) (ns ls:List Pr) (x:Int) (w:World) (hn:RP w vn ns) (hl:RP w vl ls) (hx:jg ns ls=x):
  Calls Tryz.prog 204 #[.agg #[vn,vl]] w fun e w'=>e= .returned (.int .i64 x)∧Below w.heap.size w w':=by
 subst hx;exact z0S vn vl ns ls w hn hl
theorem z1K (vn vl:Value) (ns ls:List Pr) (x:Int) (w:World) (hn:RP w vn ns) (hl:RP w vl ls) (hx:jg ns ls=x):
  Calls Tryz.prog 148 #[.agg #[vn,vl]] w fun e w'=>e= .returned (.int .i64 x)∧Below w.heap.size w w':=by
 subst hx;exact XR vn vl ns ls w hn hl
theorem z06 (vn vl:Value) (ns ls:List Pr) (w:World) (hn:RP w vn ns) (hl:RP w vl ls):
  Calls Tryz.prog 142 #[.agg #[vn,vl]] w fun e w'=>e= .returned (.int .i64 (qm ns ls))∧Below w.heap.size w w':=by
 cases hw:winB ns ls
 ·have HR:Hid (qm ns ls=0):=Lib.hid (by simp[qm,hw])
  go_enter Tryz.func142,Tryz.ntmps142
  go_wp2_with fail
  refine(zE _ _ ns ls _ _ (hn.below (by exact bel_)) (hl.below (by exact bel_)) hw).mono ?_
  rintro e w1 ⟨rfl,hb1⟩;(first|(with_reducible have hcf1:=z8 hb1)|have hcf1:=bcell hb1);obtain⟨hc1,hf1⟩:=hcf1;have hz1:=hb1.size;(try simp at hz1);(try have hp1_0:=p0_ w w1);(try have hp1_1:=p1_ w w1);(try have hp1_2:=p2_ w w1);(try have hp1_3:=p3_ w w1)
  go_wp2;go_ret
  exact⟨ze HR.out.symm,by exact bel_⟩
 ·have hwin:=zI.1 hw
  have hn12:=hwin.2.1;have hm20:=hwin.2.2.1;have hpb:=Qr ns ls;obtain⟨P,hP⟩:∃P,jg ns ls=P:=⟨_,rfl⟩;have HR:Hid (qm ns ls=(ls.length:Int) -ns.length+1+P):=Lib.hid (by unfold qm;rw[hw,if_pos rfl,hP]);rw[hP] at hpb;have HP:=Lib.hid hP;clear hwin hP;obtain⟨An,cn,rfl,hcn,hmn,_⟩:=hn.formI;obtain⟨Al,cl,rfl,hcl,hml,_⟩:=hl.formI;unfold maxLen at hmn hml
  go_enter Tryz.func142,Tryz.ntmps142
  go_wp2_with fail
  refine(zE _ _ ns ls _ _ (hn.below (by exact bel_)) (hl.below (by exact bel_)) hw).mono ?_
  rintro e w1 ⟨rfl,hb1⟩;(first|(with_reducible have hcf1:=z8 hb1)|have hcf1:=bcell hb1);obtain⟨hc1,hf1⟩:=hcf1;have hz1:=hb1.size;(try simp at hz1);(try have hp1_0:=p0_ w w1);(try have hp1_1:=p1_ w w1);(try have hp1_2:=p2_ w w1);(try have hp1_3:=p3_ w w1)
  have hW1:Blk w1 w.heap.size 27 #[.slice An ns.length cn,.slice Al ls.length cl]:=Blk.below (Blk.newAt rfl) hb1 sz_;have hbw1:Below w.heap.size w w1:=by exact bel_
  have rn1:=hn.below hbw1;have rl1:=hl.below hbw1;have hlt1:=hW1.lt;have hw1a:IntKind.i64.wrap ((ls.length:Int) -(ns.length:Int))=(ls.length:Int) -(ns.length:Int):=IntWalk.i64_in _ (by omega);have hw1b:IntKind.i64.wrap ((ls.length:Int) -(ns.length:Int)+1)=(ls.length:Int) -(ns.length:Int)+1:=IntWalk.i64_in _ (by omega);have hw1c:IntKind.i64.wrap ((ls.length:Int) -(ns.length:Int)+1+P)=(ls.length:Int) -(ns.length:Int)+1+P:=IntWalk.i64_in _ (by omega);clear hb1 hc1 hf1 hn hl;obtain⟨a_0,a_1⟩:=hW1.c2
  go_wp2_with fail
  (refine z9 (by kernel_rfl) (by kernel_rfl) (fun hG=>?_))
  repeat (go_big_quiet_step ((go_at_call 204;exact zv (z19 _ _ ns ls P _ (rn1.below (Grw.below _)) (rl1.below (Grw.below _)) HP.out))))
  refine wpQuiet_nil ?_
  clear hG hw1a hw1b hw1c;rintro w2 ⟨⟨_,hs2⟩,rfl⟩;have hbw2:=hbw1.trans (hs2.mono hbw1.size);go_wp2;go_ret
  exact⟨ze HR.out.symm,hbw2⟩
theorem Xx (vn vl:Value) (ns ls:List Pr) (w:World) (hn:RP w vn ns) (hl:RP w vl ls):
  Calls Tryz.prog 84 #[.agg #[vn,vl]] w fun e w'=>e= .returned (.int .i64 (qm ns ls))∧Below w.heap.size w w':=by
 cases hw:winB ns ls
 ·have HR:Hid (qm ns ls=0):=Lib.hid (by simp[qm,hw])
  go_enter Tryz.func84,Tryz.ntmps84
  go_wp2_with fail
  refine(zP _ _ ns ls _ _ (hn.below (by exact bel_)) (hl.below (by exact bel_)) hw).mono ?_
  rintro e w1 ⟨rfl,hb1⟩;(first|(with_reducible have hcf1:=z8 hb1)|have hcf1:=bcell hb1);obtain⟨hc1,hf1⟩:=hcf1;have hz1:=hb1.size;(try simp at hz1);(try have hp1_0:=p0_ w w1);(try have hp1_1:=p1_ w w1);(try have hp1_2:=p2_ w w1);(try have hp1_3:=p3_ w w1)
  go_wp2;go_ret
  exact⟨ze HR.out.symm,by exact bel_⟩
 ·have hwin:=zI.1 hw
  have hn12:=hwin.2.1;have hm20:=hwin.2.2.1;have hpb:=Qr ns ls;obtain⟨P,hP⟩:∃P,jg ns ls=P:=⟨_,rfl⟩;have HR:Hid (qm ns ls=(ls.length:Int) -ns.length+1+P):=Lib.hid (by unfold qm;rw[hw,if_pos rfl,hP]);rw[hP] at hpb;have HP:=Lib.hid hP;clear hwin hP;obtain⟨An,cn,rfl,hcn,hmn,_⟩:=hn.formI;obtain⟨Al,cl,rfl,hcl,hml,_⟩:=hl.formI;unfold maxLen at hmn hml
  go_enter Tryz.func84,Tryz.ntmps84
  go_wp2_with fail
  refine(zP _ _ ns ls _ _ (hn.below (by exact bel_)) (hl.below (by exact bel_)) hw).mono ?_
  rintro e w1 ⟨rfl,hb1⟩;(first|(with_reducible have hcf1:=z8 hb1)|have hcf1:=bcell hb1);obtain⟨hc1,hf1⟩:=hcf1;have hz1:=hb1.size;(try simp at hz1);(try have hp1_0:=p0_ w w1);(try have hp1_1:=p1_ w w1);(try have hp1_2:=p2_ w w1);(try have hp1_3:=p3_ w w1)
  have hW1:Blk w1 w.heap.size 27 #[.slice An ns.length cn,.slice Al ls.length cl]:=Blk.below (Blk.newAt rfl) hb1 sz_;have hbw1:Below w.heap.size w w1:=by exact bel_
  have rn1:=hn.below hbw1;have rl1:=hl.below hbw1;have hlt1:=hW1.lt;have hw1a:IntKind.i64.wrap ((ls.length:Int) -(ns.length:Int))=(ls.length:Int) -(ns.length:Int):=IntWalk.i64_in _ (by omega);have hw1b:IntKind.i64.wrap ((ls.length:Int) -(ns.length:Int)+1)=(ls.length:Int) -(ns.length:Int)+1:=IntWalk.i64_in _ (by omega);have hw1c:IntKind.i64.wrap ((ls.length:Int) -(ns.length:Int)+1+P)=(ls.length:Int) -(ns.length:Int)+1+P:=IntWalk.i64_in _ (by omega);clear hb1 hc1 hf1 hn hl;obtain⟨a_0,a_1⟩:=hW1.c2
  go_wp2_with fail
  (refine z9 (by kernel_rfl) (by kernel_rfl) (fun hG=>?_))
  repeat (go_big_quiet_step ((go_at_call 148;exact zv (z1K _ _ ns ls P _ (rn1.below (Grw.below _)) (rl1.below (Grw.below _)) HP.out))))
  refine wpQuiet_nil ?_
  clear hG hw1a hw1b hw1c;rintro w2 ⟨⟨_,hs2⟩,rfl⟩;have hbw2:=hbw1.trans (hs2.mono hbw1.size);go_wp2;go_ret
  exact⟨ze HR.out.symm,hbw2⟩
theorem z0W (vn vl:Value) (ns ls:List Pr) (w:World) (hn:RP w vn ns) (hl:RP w vl ls):
  Calls Tryz.prog 75 #[.agg #[vn,vl]] w fun e w'=>e= .returned (.int .i64 (yh ns ls))∧Below w.heap.size w w':=by
 have hb:=ZS ns ls;have HR:Hid (yh ns ls=mx2 0 (qm ns ls -1)):=Lib.hid (by rw[vh];unfold yh;split<;>omega)
 go_enter Tryz.func75,Tryz.ntmps75
 go_wp2_with fail
 refine(z06 _ _ ns ls _ (hn.below (by exact bel_)) (hl.below (by exact bel_))).mono ?_
 rintro e w1 ⟨rfl,hb1⟩;have hbw1:Below w.heap.size w w1:=by exact bel_
 clear hb1;generalize qm ns ls=C at*;go_wp2;go_ret
 exact⟨ze HR.out.symm,hbw1⟩
theorem z1q (vn vl:Value) (ns ls:List Pr) (w:World) (hn:RP w vn ns) (hl:RP w vl ls):
  Calls Tryz.prog 22 #[.agg #[vn,vl]] w fun e w'=>e= .returned (.int .i64 (yh ns ls))∧Below w.heap.size w w':=by
 have hb:=ZS ns ls;have HR:Hid (yh ns ls=mx2 0 (qm ns ls -1)):=Lib.hid (by rw[vh];unfold yh;split<;>omega)
 go_enter Tryz.func22,Tryz.ntmps22
 go_wp2_with fail
 refine(Xx _ _ ns ls _ (hn.below (by exact bel_)) (hl.below (by exact bel_))).mono ?_
 rintro e w1 ⟨rfl,hb1⟩;have hbw1:Below w.heap.size w w1:=by exact bel_
 clear hb1;generalize qm ns ls=C at*;go_wp2;go_ret
 exact⟨ze HR.out.symm,hbw1⟩
theorem Vb (vn vl:Value) (ns ls:List Pr) (x:Int) (w:World) (hn:RP w vn ns) (hl:RP w vl ls) (hx:yh ns ls=x):
  Calls Tryz.prog 75 #[.agg #[vn,vl]] w fun e w'=>e= .returned (.int .i64 x)∧Below w.heap.size w w':=by
 subst hx;exact z0W vn vl ns ls w hn hl
theorem kI (vn vl:Value) (ns ls:List Pr) (x:Int) (w:World) (hn:RP w vn ns) (hl:RP w vl ls) (hx:yh ns ls=x):
  Calls Tryz.prog 22 #[.agg #[vn,vl]] w fun e w'=>e= .returned (.int .i64 x)∧Below w.heap.size w w':=by
 subst hx;exact z1q vn vl ns ls w hn hl
end Go.Proofs.YtnjcpljhmhdhkaaGreat
