/- part 33 -/
import Derived.Test.YtnjcpljhmhdhkaaGreatUPk30
set_option linter.unusedSimpArgs false
set_option linter.unusedVariables false
set_option maxRecDepth 100000
set_option maxHeartbeats 16000000
namespace Go.Proofs.YtnjcpljhmhdhkaaGreat
open Go.RowKit
theorem z6R {ns ls:List Pr} (hw:zf ns ls=false):ordW ns ls=[]:=by
 have hF:z9 ns ls=[]:=by unfold z9;rw[hw];rfl
 unfold ordW ordL facL;rw[hF];rfl
theorem z9O {ns ls:List Pr} (hw:zf ns ls=true):(facL ns ls (z9 ns ls).length).length <20:=by
 have h1:=z3Z hw;unfold ordW at h1;rw[Qk] at h1;have h2:=z8m hw;rw[<-zE hw] at h2;obtain⟨W,hl⟩:=zI hw;have h3:=W.2.2.1;have h4:=W.1
 have h5:2<=ns.length:=by
  obtain⟨a,b,c,_⟩:=q9.1 ((W.2.2.2.2.2 0 hl).1);omega
 omega
theorem zaQ:Enters Tryz.prog 151:=enters_of Tryz.func151 k_ rfl
theorem z5A (vn vl:Value) (ns ls:List Pr) (w:World) (hn:RP w vn ns) (hl:RP w vl ls):
  Calls Tryz.prog 86 #[.agg #[vn,vl]] w (RetI (natI (ordW ns ls)) w):=by
 have Hg:Below w.heap.size w (w.alloc (.cells #[vn,vl] 27)):=bel_
 have gD:Blk (w.alloc (.cells #[vn,vl] 27)) w.heap.size 27 #[vn,vl]:=Blk.newAt rfl
 cases hq:zf ns ls
 ·have HR:=h_ (z6R hq)
  go_enter Tryz.func86,Tryz.ntmps86
  go_wp2_with fail
  refine(j5 _ _ ns ls _ _ (hn.below Hg) (hl.below Hg) hq).mono ?_
  rintro e w1 ⟨rfl,h9⟩;have h8:=Hg.trans (h9.mono Hg.size);go_wp2;go_ret
  exact⟨_,rfl,by rw[HR.out];exact OwnI.nil _ _,h8⟩
 ·have h20:=z9O hq
  have GB:=zq ns ls;have HR:Hid (ordW ns ls=isoK (ltR ns ls) (facL ns ls (z9 ns ls).length) (facL ns ls (z9 ns ls).length).length):=h_ rfl;have Uu:=h_ (fun k h=>ZV (ns:=ns) (ls:=ls) (k:=k) h);have HFI:=h_ (fun k h=>Ve (ns:=ns) (ls:=ls) (k:=k) h);have HFL:=h_ (fun k=>Zp ns ls k);have Y2:Hid (facL ns ls 0=[]):=h_ rfl;have HWH:=h_ (j5 vn vl ns ls _ _ (hn.below Hg) (hl.below Hg) hq);have HOU:=h_ (fun (v:World) (hb:Below w.heap.size w v)=>Xy vn vl ns ls v (hn.below hb) (hl.below hb));have CX:=h_ (fun (v:World) (hb:Below w.heap.size w v)=>jP vn vl ns ls v (hn.below hb) (hl.below hb));generalize je ns ls=o at*
  go_enter Tryz.func86,Tryz.ntmps86
  go_wp2_with fail
  refine HWH.out.mono ?_
  rintro e w1 ⟨rfl,h9⟩;have h8:=Hg.trans (h9.mono Hg.size);have gg:=gD.below h9 gD.lt;have H8:=gg.lt;obtain⟨a_0,a_1⟩:=gg.c2
  go_wp2_with fail
  refine(HOU.out _ h8).mono ?_
  rintro e w2 ⟨rfl,He⟩;have Ha:=h8.trans (He.mono h8.size);have gV:=gg.below He gg.lt;have Gd:=gV.lt;obtain⟨a_0,a_1⟩:=gV.c2
  go_wp2_with fail
  refine(CX.out _ Ha).mono ?_
  rintro e w3 ⟨v3,rfl,Hq,Hf⟩;obtain⟨A3,c3,rfl⟩:=Hq.form;have Hc:=Ha.trans (Hf.mono Ha.size);have GJ:=gV.below Hf gV.lt;have bT:OwnI (w.heap.size+1) w3 (.slice none 0 0) (natI (facL ns ls 0)):=by rw[Y2.out];exact OwnI.nil _ _
  generalize (z9 ns ls).length =F at*;go_wp2
  go_loopw [4,14] (fun v t wr=>∃k:Nat,k<=F/\t= .int .i64 k/\OwnI (w.heap.size+1) wr v (natI (facL ns ls k))/\Hid ((facL ns ls k).length =0->v= .slice none 0 0)/\Blk wr w.heap.size 27 #[vn,vl]/\Below w.heap.size w wr) (fun _ t _=>F -(intOf t).toNat)
  case atStart=>exact⟨0,aab _,rfl,bT,h_ (fun _=>rfl),GJ,Hc⟩
  case round=>
   obtain⟨k,hk,rfl,ho,HNV,hW,hB⟩:=hrel;have gj:=hW.lt;have hgl:=HFL.out k
   by_cases Hd:k<F
   ·have Hr:(k:Int)<(F:Int):=o_
    by_cases rx:(k:Int)=o
    ·have e1:((k:Int)==o)=true:=beq_iff_eq.2 rx
     have e2:((k:Int) != o)=false:=by rw[bne,e1];rfl
     have HX:=h_ (Uu.out k rx);go_wp2;go_roundw
     case rel=>exact⟨k+1,by omega,by go_num,by rw[HX.out];exact ho,by rw[HX.out];exact HNV,hW,hB⟩
     case measure=>simp[intOf];omega
    ·have e1:((k:Int)==o)=false:=beq_eq_false_iff_ne.2 rx
     have e2:((k:Int) != o)=true:=by rw[bne,e1];rfl
     have HX:=h_ (HFI.out k rx);generalize facL ns ls k=G at*
     go_wp2_with (at_builtin;refine zR rfl _ _ rfl (w.heap.size+1) _ (natI G) (k:Int) rfl wr.heap.size rfl (qH rfl) (ho.alloc _) (by rw[za];omega) (by simp;omega) ?_)
     intro v7 w7 bY FP _;have HW:=h_ (show Blk w7 w.heap.size 27 #[vn,vl] from(FP.block w.heap.size (by simp;omega) (fun e=>by have:=(ho.lt _ e.symm).1;omega)).trans (hW.alloc _));have HB:=h_ ((hB.alloc hB.size (.cells #[.int .i64 k] 3)).grown FP (by simp;omega) (fun q hq=>by have:=(ho.lt q hq).1;omega));have HO:Hid (OwnI (w.heap.size+1) w7 v7 (natI (facL ns ls (k+1)))):=h_ (by rw[HX.out];simpa[natI] using bY);have U3:Hid ((facL ns ls (k+1)).length =0->v7= .slice none 0 0):=h_ (fun h=>by rw[HX.out] at h;simp at h);go_wp2;go_roundw
     case rel=>exact⟨k+1,by omega,by go_num,HO.out,U3,HW.out,HB.out⟩
     case measure=>simp[intOf];omega
   ·have Hw:k=F:=o_
    subst Hw;have wj:=h_ HR.out
    by_cases h0:(facL ns ls k).length =0
    ·have nz:facL ns ls k=[]:=aby h0
     have e0:=HNV.out h0;subst e0
     go_wp2_with fail
     refine(Xc _ _ _).mono ?_
     rintro e w5 ⟨rfl,gf⟩;have HB:=h_ (hB.trans (gf.mono hB.size));go_wp2;go_ret
     exact⟨_,rfl,by rw[wj.out,nz];exact OwnI.nil _ _,HB.out⟩
    ·have hG:=h_ ho
     obtain⟨g,c,rfl,hgc,FG,WS,_⟩:=OwnI.blk ho (by rw[za];omega);rw[za] at hgc ho⊢
     have hCA:JL 151 #[.pointer (some ⟨w.heap.size,0,none⟩)] (facL ns ls k) (cmpR ns ls) (some g) wr:=by
      intro v d e _ _ hg;have wk:Below w.heap.size w v:=hB.grown hg hB.size (fun q hq=>by cases hq;omega);exact z6V w.heap.size vn vl ns ls d e v ((hg.block w.heap.size gj (fun e=>by cases e;omega)).trans hW) (hn.below wk) (hl.below wk)
     have HS:=h_ (VH (w.heap.size+1) 151 g c #[.pointer (some ⟨w.heap.size,0,none⟩)] (facL ns ls k) (cmpR ns ls) (ltR ns ls) wr hCA (fun _ _=>rfl) ho h20 zaQ);have HB:=h_ hB
     go_wp2_with fail
     refine HS.out.mono ?_
     rintro e w5 ⟨rfl,fQ,bv⟩;have FF:=h_ (HB.out.grown bv HB.out.size (fun q hq=>by cases hq;omega));have BR:=h_ (OwnI.mono fQ (show w.heap.size<=w.heap.size+1 by omega));go_wp2;go_ret
     exact⟨_,rfl,by rw[wj.out];exact BR.out,FF.out⟩
theorem z8j (vn vl:Value) (ns ls:List Pr) (f:Nat) (w:World) (hn:RP w vn ns) (hl:RP w vl ls):
  CB_ 23 #[.agg #[vn,vl],.int .i64 f] w (.int .i64 (numN ns ls f)):=by
 have Hg:Below w.heap.size w (w.alloc (.cells #[vn,vl] 27)):=bel_
 have HR:Hid (numN ns ls f=idxN (ordW ns ls) f+1):=h_ rfl
 have hol:(ordW ns ls).length <=40:=by
  unfold ordW;rw[Qk];have:=Zp ns ls (z9 ns ls).length;have:=zq ns ls;omega
 have hix: -1<=idxN (ordW ns ls) f/\idxN (ordW ns ls) f<=40:=by
  unfold idxN
  split
  ·rename_i h
   have:=abu h;omega
  ·omega
 go_enter Tryz.func23,Tryz.ntmps23
 go_wp2_with fail
 refine(z5A _ _ ns ls _ (hn.below Hg) (hl.below Hg)).mono ?_
 rintro e w1 ⟨v1,rfl,Hj,h9⟩;have h8:=Hg.trans (h9.mono Hg.size);have nZ:=Hj.reads
 go_wp2_with fail
 refine(ZJ _ (ordW ns ls) f _ nZ).mono ?_
 rintro e w2 ⟨rfl,rfl⟩;go_wp2;go_ret
 exact⟨zb (by rw[HR.out]),h8⟩
theorem za9 (ns ls:List Pr) (d e:Nat):ltR ns ls d e= !(decide ((boxF ns ls d).2.2<(boxF ns ls e).2.2)||(decide ((boxF ns ls e).2.2=(boxF ns ls d).2.2)&&decide ((boxF ns ls e).1.1<=(boxF ns ls d).1.1))):=by
 unfold ltR cmpR
 by_cases h:(boxF ns ls d).2.2=(boxF ns ls e).2.2
 ·rw[aao h,aa0]
  simp[h];omega
 ·have h':¬(boxF ns ls e).2.2=(boxF ns ls d).2.2:=fun q=>h q.symm
  rw[aaq h,aa0];simp[h'];omega
theorem z8Y {p q s t:Int} {x:Bool} (h:x= !(decide (p<q)||(decide (q=p)&&decide (s<=t)))):(x=false->p<q∨(¬p<q/\q=p/\s<=t))/\(x=true->(¬p<q/\¬q=p)∨(¬p<q/\q=p/\¬s<=t)):=by
 subst h
 by_cases h1:p<q<;>by_cases h2:q=p<;>by_cases h3:s<=t<;>first|(simp[h1,h2,h3];done)|omega
theorem allo1 {w:World} {o1:Obj} {b i:Nat} {x:Value} (h:w.cell? ⟨b,i,none⟩=some x) (hb:b<w.heap.size):(w.alloc o1).cell? ⟨b,i,none⟩=some x:=
 (((aaj w.heap.size w).alloc (aaa _) o1).cell (p:=⟨b,i,none⟩) hb).trans h
theorem allo2 {w:World} {o1 o2:Obj} {b i:Nat} {x:Value} (h:w.cell? ⟨b,i,none⟩=some x) (hb:b<w.heap.size):((w.alloc o1).alloc o2).cell? ⟨b,i,none⟩=some x:=
 allo1 (allo1 h hb) (by simp;omega)
theorem scO {w:World} {a b:Addr} {v:Value} (h:a≠b):(w.setCell a v).cell? b=w.cell? b:=World.cell?_setCell_other w a b v h
theorem scS {w:World} {a:Addr} {v u:Value} (h:w.cell? a=some u):(w.setCell a v).cell? a=some v:=World.cell?_setCell_same w a v h
section
variable {w:World} {a b c d p q p' q':Value} {t t':TypeId} {g h:Nat}
theorem laA0:((w.alloc (.cells #[a,b] t)).alloc (.cells #[c,d] t')).cell? ⟨w.heap.size,0,none⟩=some a:=allo1 ((Blk.newAt rfl).cell 0) (by simp)
theorem laA1:((w.alloc (.cells #[a,b] t)).alloc (.cells #[c,d] t')).cell? ⟨w.heap.size,1,none⟩=some b:=allo1 ((Blk.newAt rfl).cell 1) (by simp)
theorem laB0:((w.alloc (.cells #[a,b] t)).alloc (.cells #[c,d] t')).cell? ⟨w.heap.size+1,0,none⟩=some c:=(Blk.newAt (by simp)).cell 0
theorem laB1:((w.alloc (.cells #[a,b] t)).alloc (.cells #[c,d] t')).cell? ⟨w.heap.size+1,1,none⟩=some d:=(Blk.newAt (by simp)).cell 1
theorem ji {g i h j:Nat} (e:¬(g=h/\i=j)):(⟨g,i,none⟩:Addr)≠⟨h,j,none⟩:=fun q=>e (by injection q with q1 q2 _;exact⟨q1,q2⟩)
theorem laC0 (hg:g<w.heap.size) (z:w.cell? ⟨g,0,none⟩=some p):(((w.setCell ⟨g,0,none⟩ a).setCell ⟨g,1,none⟩ b).alloc (.cells #[c,d] t')).cell? ⟨g,0,none⟩=some a:=
 allo1 ((scO (ji o_)).trans (scS z)) (by simpa[World.setCell] using hg)
theorem laC1 (hg:g<w.heap.size) (z:w.cell? ⟨g,1,none⟩=some p):(((w.setCell ⟨g,0,none⟩ a).setCell ⟨g,1,none⟩ b).alloc (.cells #[c,d] t')).cell? ⟨g,1,none⟩=some b:=
 allo1 (scS ((scO (ji o_)).trans z)) (by simpa[World.setCell] using hg)
theorem laD0:(((w.setCell ⟨g,0,none⟩ a).setCell ⟨g,1,none⟩ b).alloc (.cells #[c,d] t')).cell? ⟨w.heap.size,0,none⟩=some c:=(Blk.newAt (by simp[World.setCell])).cell 0
theorem laD1:(((w.setCell ⟨g,0,none⟩ a).setCell ⟨g,1,none⟩ b).alloc (.cells #[c,d] t')).cell? ⟨w.heap.size,1,none⟩=some d:=(Blk.newAt (by simp[World.setCell])).cell 1
theorem laE0 (gr:¬g=h) (z:w.cell? ⟨g,0,none⟩=some p):((((w.setCell ⟨g,0,none⟩ a).setCell ⟨g,1,none⟩ b).setCell ⟨h,0,none⟩ c).setCell ⟨h,1,none⟩ d).cell? ⟨g,0,none⟩=some a:=
 (scO (ji o_)).trans ((scO (ji o_)).trans ((scO (ji o_)).trans (scS z)))
theorem laE1 (gr:¬g=h) (z:w.cell? ⟨g,1,none⟩=some p):((((w.setCell ⟨g,0,none⟩ a).setCell ⟨g,1,none⟩ b).setCell ⟨h,0,none⟩ c).setCell ⟨h,1,none⟩ d).cell? ⟨g,1,none⟩=some b:=
 (scO (ji o_)).trans ((scO (ji o_)).trans (scS ((scO (ji o_)).trans z)))
theorem laF0 (gr:¬g=h) (z:w.cell? ⟨h,0,none⟩=some p):((((w.setCell ⟨g,0,none⟩ a).setCell ⟨g,1,none⟩ b).setCell ⟨h,0,none⟩ c).setCell ⟨h,1,none⟩ d).cell? ⟨h,0,none⟩=some c:=
 (scO (ji o_)).trans (scS ((scO (ji o_)).trans ((scO (ji o_)).trans z)))
theorem laF1 (gr:¬g=h) (z:w.cell? ⟨h,1,none⟩=some p):((((w.setCell ⟨g,0,none⟩ a).setCell ⟨g,1,none⟩ b).setCell ⟨h,0,none⟩ c).setCell ⟨h,1,none⟩ d).cell? ⟨h,1,none⟩=some d:=
 scS ((scO (ji o_)).trans ((scO (ji o_)).trans ((scO (ji o_)).trans z)))
end
theorem z57 (vn vl:Value) (ns ls:List Pr) (w:World) (hn:RP w vn ns) (hl:RP w vl ls):
  Calls Tryz.prog 113 #[.agg #[vn,vl]] w (RetI (natI (ordW ns ls)) w):=by
 have fe:Below w.heap.size w ((w.alloc (.cells #[vn,vl] 27)).alloc (.cells #[] 3)):=bel_
 have BP:Blk ((w.alloc (.cells #[vn,vl] 27)).alloc (.cells #[] 3)) w.heap.size 27 #[vn,vl]:=(Blk.newAt rfl).alloc _;have hOA:OwnI (w.heap.size+1) ((w.alloc (.cells #[vn,vl] 27)).alloc (.cells #[] 3)) (.slice (some ⟨w.heap.size+1,0,none⟩) 0 0) []:=OwnI.made (by simp) (by simp);have GB:=zq ns ls;have HR:Hid (ordW ns ls=ordL ns ls (z9 ns ls).length):=h_ rfl;have Uu:=h_ (fun k h=>z3u (ns:=ns) (ls:=ls) (k:=k) h);have HFI:=h_ (fun k h=>z5T (ns:=ns) (ls:=ls) (k:=k) h);have HFL:Hid (∀k,(ordL ns ls k).length <=k):=h_ (fun k=>by rw[Qk];exact Zp ns ls k);have Y2:Hid (ordL ns ls 0=[]):=h_ rfl;have CX:=h_ (fun (v:World) (hb:Below w.heap.size w v)=>jN vn vl ns ls v (hn.below hb) (hl.below hb));have HOU:=h_ (fun (v:World) (hb:Below w.heap.size w v)=>Xk vn vl ns ls v (hn.below hb) (hl.below hb));have HBX:=h_ (fun (f:Int) (v:World) (hb:Below w.heap.size w v)=>z87 vn vl ns ls f v (hn.below hb) (hl.below hb));obtain⟨i0,hi,iz0,iz1,iz2⟩:=info_parts ql;clear hn hl;generalize je ns ls=o at*
 go_enter Tryz.func113,Tryz.ntmps113
 go_wp2_with fail
 refine(CX.out _ fe).mono ?_
 rintro e w1 ⟨v1,rfl,Hj,h9⟩;obtain⟨A1,c1,rfl⟩:=Hj.form;have h8:=fe.trans (h9.mono fe.size);have gg:=BP.below h9 BP.lt;have Gi:=hOA.kept h9;obtain⟨a_0,a_1⟩:=gg.c2;clear h9 fe BP hOA Hj CX
 go_wp2_with fail
 refine(HOU.out _ h8).mono ?_
 rintro e w2 ⟨rfl,He⟩;have Ha:=h8.trans (He.mono h8.size);have gV:=gg.below He gg.lt;have Cd:OwnI (w.heap.size+1) w2 (.slice (some ⟨w.heap.size+1,0,none⟩) 0 0) (natI (ordL ns ls 0)):=by rw[Y2.out];exact Gi.kept He
 clear He gg Gi h8 a_0 a_1 HOU;generalize (z9 ns ls).length =F at*;go_wp2
 go_loopw [3,6] (fun v t wr=>∃k:Nat,k<=F/\t= .int .i64 k/\OwnI (w.heap.size+1) wr v (natI (ordL ns ls k))/\Blk wr w.heap.size 27 #[vn,vl]/\Below w.heap.size w wr) (fun _ t _=>F -(intOf t).toNat)
 case atStart=>exact⟨0,aab _,rfl,Cd,gV,Ha⟩
 case round=>
  clear Cd gV Ha;obtain⟨k,hk,rfl,ho,hW,hB⟩:=hrel;have gj:=hW.lt;have hgl:=HFL.out k
  by_cases Hd:k<F
  ·have Hr:(k:Int)<(F:Int):=o_
   by_cases rx:(k:Int)=o
   ·have e1:((k:Int)==o)=true:=beq_iff_eq.2 rx
    have HX:=h_ (Uu.out k rx);clear rx;go_wp2;go_roundw
    case rel=>exact⟨k+1,by omega,by go_num,by rw[HX.out];exact ho,hW,hB⟩
    case measure=>simp[intOf];omega
   ·have e1:((k:Int)==o)=false:=beq_eq_false_iff_ne.2 rx
    have HX:=h_ (HFI.out k rx);have F0:=h_ (fun e=>za9 ns ls k e);clear rx;generalize ordL ns ls k=G at*;obtain⟨K,hK⟩:∃K,boxF ns ls (k:Int)=K:=⟨_,rfl⟩;have HK:=h_ hK;clear hK;obtain⟨a_0,a_1⟩:=hW.c2
    go_wp2_with fail
    refine(HBX.out k _ hB).mono ?_
    rw[HK.out];rintro e w3 ⟨rfl,Hf⟩;have Hc:=hB.trans (Hf.mono hB.size);have GJ:=hW.below Hf gj;have Hq:=ho.kept Hf;have fA:=GJ.lt;obtain⟨A3,c3,rfl⟩:=OwnE.form (t:=3) (enc:=vI) Hq;rw[za] at Hq⊢;clear Hf ho hW hB a_0 a_1;have gF:=(OwnI.alloc Hq (.cells #[.int .i64 K.1.1,.int .i64 K.1.2] 106)).alloc (.cells #[.int .i64 K.2.1,.int .i64 K.2.2] 106);have Hv:Below w3.heap.size w3 (((w3.alloc (.cells #[.int .i64 K.1.1,.int .i64 K.1.2] 106)).alloc (.cells #[.int .i64 K.2.1,.int .i64 K.2.2] 106)).alloc (.cells #[.int .i64 k] 3)):=bel_
    have hL4:Nd2 (((w3.alloc (.cells #[.int .i64 K.1.1,.int .i64 K.1.2] 106)).alloc (.cells #[.int .i64 K.2.1,.int .i64 K.2.2] 106)).alloc (.cells #[.int .i64 k] 3)) w3.heap.size K.1.1 K.1.2:=((Blk.newAt rfl).alloc _).alloc _;have hH4:Nd2 (((w3.alloc (.cells #[.int .i64 K.1.1,.int .i64 K.1.2] 106)).alloc (.cells #[.int .i64 K.2.1,.int .i64 K.2.2] 106)).alloc (.cells #[.int .i64 k] 3)) (w3.heap.size+1) K.2.1 K.2.2:=(Blk.newAt (by simp)).alloc _;have Hp:=Hc.trans (Hv.mono Hc.size);have bV:=GJ.below Hv fA;clear Hv Hc
    go_wp2_with (at_builtin;refine zR rfl _ _ rfl (w.heap.size+1) _ (natI G) (k:Int) rfl (w3.heap.size+1+1) rfl (qH (by simp)) (OwnI.alloc gF _) (by rw[za];omega) (by simp;omega) ?_)
    intro v7 w7 bY FP ry;have br:∀q,(Value.slice A3 G.length c3).ownBlock =some q->w.heap.size+1<=q/\q<w3.heap.size:=fun q hq=>Hq.lt q hq
    have hL7:Nd2 w7 w3.heap.size K.1.1 K.1.2:=(FP.block w3.heap.size (by simp;omega) (fun e=>by have:=(br _ e.symm).2;omega)).trans hL4;have hH7:Nd2 w7 (w3.heap.size+1) K.2.1 K.2.2:=(FP.block (w3.heap.size+1) (by simp) (fun e=>by have:=(br _ e.symm).2;omega)).trans hH4;have hW7:Blk w7 w.heap.size 27 #[vn,vl]:=(FP.block w.heap.size (by simp;omega) (fun e=>by have:=(br _ e.symm).1;omega)).trans bV;have Gl:=Hp.grown FP (by simp;omega) (fun q hq=>by have:=(br q hq).1;omega);have Bt:OwnI (w.heap.size+1) w7 v7 (gapI G G.length (k:Int)):=by rw[J2];exact bY
    have hgl7:=jq G G.length (k:Int) (aaa _);obtain⟨gb,cap,rfl,bP,FG,Bo,_⟩:=OwnI.blk Bt (by rw[hgl7];omega);rw[hgl7] at Bt⊢
    have FK:gb≠w3.heap.size:=by
     intro e
     rcases ry with h|h
     ·have:=(br gb h.symm).2;omega
     ·injection h with h;simp at h;omega
    have Gv:gb≠w3.heap.size+1:=by
     intro e
     rcases ry with h|h
     ·have:=(br gb h.symm).2;omega
     ·injection h with h;simp at h;omega
    generalize w3.heap.size=B at*;clear br hL4 hH4 bV Hp gF Hq bY FP ry bP hgl7 GJ;go_wp2
    go_loopw [9] (fun t wr=>∃p:Nat,p<=G.length/\t= .int .i64 p/\(∃y,OwnI (w.heap.size+1) wr (.slice (some ⟨gb,0,none⟩) (G.length+1) cap) (gapI G p y))/\Hid (posN (ltR ns ls k) G G.length=posN (ltR ns ls k) G p)/\Nd2 wr B K.1.1 K.1.2/\Nd2 wr (B+1) K.2.1 K.2.2/\Blk wr w.heap.size 27 #[vn,vl]/\Below w.heap.size w wr) (fun t _=>(intOf t).toNat)
    case atStart=>exact⟨G.length,aaa _,rfl,⟨_,Bt⟩,h_ rfl,hL7,hH7,hW7,Gl⟩
    case round=>
     clear Bt hL7 hH7 hW7 Gl Bo;obtain⟨p,hp,rfl,⟨y,cr⟩,HP,hL,hH,hW,hB⟩:=hrel;have gj:=hW.lt;have WS:=jq G p y hp;have Bo:=(OwnI.lt cr gb rfl).2;have hLl:=Blk.lt hL;have hHl:=Blk.lt hH
     by_cases Nw:0<p
     ·obtain⟨r,rfl⟩:∃r,p=r+1:=⟨p -1,by omega⟩
      have hr:r<G.length:=o_
      have xr:=OwnE.cell (t:=3) (enc:=vI) cr 0 (q:=r) o_;rw[xU G r y hr] at xr;have xr':wr.cell? ⟨gb,r,none⟩=some (.int .i64 (G.getD r 0:Nat)):=xr;have HMV:=h_ (J3 G r y hr);have MJ:Hid (posN (ltR ns ls k) G (r+1)=if ltR ns ls k (G.getD r 0) then posN (ltR ns ls k) G r else r+1):=h_ rfl;have HGG:=h_ (xU G r y hr);clear xr;generalize hev:G.getD r 0=e at*;clear hev;obtain⟨Ke,hKe⟩:∃Ke,boxF ns ls (e:Int)=Ke:=⟨_,rfl⟩;have UC:=h_ (F0.out e);rw[hKe,HK.out] at UC;have M7:=h_ (fun v hb=>HBX.out (e:Int) v hb);rw[hKe] at M7;obtain⟨x,hx⟩:∃x,ltR ns ls k e=x:=⟨_,rfl⟩;rw[hx] at MJ UC;clear hKe hx;have hp1:(0:Int)<((r+1:Nat):Int):=o_
      have cF:(((r+1:Nat):Int)) -1=(r:Int):=o_
      have FT:(0:Int)<=(r:Int):=o_
      have cf:(r:Int)<((G.length+1:Nat):Int):=o_
      have hwr1:IntKind.i64.wrap (((r+1:Nat):Int) -1)=(r:Int):=by rw[cF];exact aaQ _ o_
      obtain⟨z,hz⟩:∃z:Int,((r+1:Nat):Int)=z:=⟨_,rfl⟩;rw[hz] at hwr1 hp1 cF⊢;have HZZ:=h_ hz;clear hz cF;obtain⟨n1,Ma⟩:∃n1:Nat,G.length+1=n1:=⟨_,rfl⟩;rw[Ma] at cr cf⊢;have F9:=h_ Ma;clear Ma;obtain⟨a_0,a_1⟩:=hW.c2
      go_wp2_with fail
      go_cut [10,11] (fun s10 s11 wx=>∃x y:Nat,s10= .pointer (some ⟨x,0,none⟩)/\s11= .pointer (some ⟨y,0,none⟩)/\Below wr.heap.size wr wx/\x<wx.heap.size/\y<wx.heap.size/\wx.cell? ⟨x,0,none⟩=some (.int .i64 Ke.1.1)/\wx.cell? ⟨y,1,none⟩=some (.int .i64 Ke.2.2))
      case first=>
       have Nm:=hB;have n5:¬wr.heap.size=w.heap.size:=o_
       have n6:¬wr.heap.size=gb:=o_
       have n7:¬wr.heap.size+1=w.heap.size:=o_
       have n8:¬wr.heap.size+1=gb:=o_
       go_region_held3 (fun w'=>w'.cell? ⟨w.heap.size,0,none⟩=some vn/\w'.cell? ⟨w.heap.size,1,none⟩=some vl/\w'.cell? ⟨gb,r,none⟩=some (.int .i64 (e:Int)))
        (first|go_keep|(exact⟨allo2 (by assumption) (by assumption),allo2 (by assumption) (by assumption),allo2 (by assumption) (by assumption)⟩)|(exact⟨allo1 (by assumption) (by assumption),allo1 (by assumption) (by assumption),allo1 (by assumption) (by assumption)⟩))
        (first|(go_at_call 191;refine(M7.out _ bel_).mono ?_;rintro en w3 ⟨rfl,Hf⟩;(have fU:=bdC Hf);(have uu:=bdF Hf);have fA:=Hf.size;(try simp at fA);(have hq3:wr.heap.size<=w3.heap.size:=by omega);(try have uJ:wr.heap.size<w3.heap.size:=by omega);(try have UQ:wr.heap.size+1<w3.heap.size:=by omega);(try have z00:w3.cell? ⟨wr.heap.size,0,none⟩=some (.int .i64 0):=(fU (wr.heap.size) 0 (by first|omega|(simp;done)|(simp;omega))).trans (by simp;done));(try have z01:w3.cell? ⟨wr.heap.size,1,none⟩=some (.int .i64 0):=(fU (wr.heap.size) 1 (by first|omega|(simp;done)|(simp;omega))).trans (by simp;done));(try have z10:w3.cell? ⟨wr.heap.size+1,0,none⟩=some (.int .i64 0):=(fU (wr.heap.size+1) 0 (by first|omega|(simp;done)|(simp;omega))).trans (by simp;done));(try have z11:w3.cell? ⟨wr.heap.size+1,1,none⟩=some (.int .i64 0):=(fU (wr.heap.size+1) 1 (by first|omega|(simp;done)|(simp;omega))).trans (by simp;done));(have s0:w3.cell? ⟨w.heap.size,0,none⟩=some vn:=(fU w.heap.size 0 (by first|omega|(simp;omega))).trans (by(first|exact a_0|exact allo1 a_0 o_|exact allo2 a_0 o_)));(have s1:w3.cell? ⟨w.heap.size,1,none⟩=some vl:=(fU w.heap.size 1 (by first|omega|(simp;omega))).trans (by(first|exact a_1|exact allo1 a_1 o_|exact allo2 a_1 o_)));(have s2:w3.cell? ⟨gb,r,none⟩=some (.int .i64 (e:Int)):=(fU gb r (by first|omega|(simp;omega))).trans (by(first|exact xr'|exact allo1 xr' o_|exact allo2 xr' o_)))))
       all_goals go_wp2
       all_goals go_meet
       all_goals refine⟨_,_,rfl,rfl,by exact bel_,sz_,sz_,?_,?_⟩
       all_goals first|with_reducible exact laA0|with_reducible exact laA1|with_reducible exact laB0|with_reducible exact laB1|with_reducible exact laD0|with_reducible exact laD1|with_reducible exact laC0 uJ z00|with_reducible exact laC1 uJ z01|with_reducible exact laE0 o_ z00|with_reducible exact laE1 o_ z01|with_reducible exact laE0 o_ z10|with_reducible exact laE1 o_ z11|with_reducible exact laF0 o_ z00|with_reducible exact laF1 o_ z01|with_reducible exact laF0 o_ z10|with_reducible exact laF1 o_ z11
      case rest=>
       obtain⟨x1,y1,rfl,rfl,Gs,CM,mX,fx,fy⟩:=hcut;obtain⟨w3,FW⟩:∃u,u=wc:=⟨_,rfl⟩;subst FW;have mx:=Blk.below hL Gs hLl;have hH3:=Blk.below hH Gs hHl;have GJ:=hW.below Gs gj;have Hq:=cr.kept Gs;have GZ:=hB.trans (Gs.mono hB.size);obtain⟨l0,l1⟩:=Blk.c2 mx;obtain⟨h0,h1⟩:=Blk.c2 hH3;have MK:(r:Int)<(G.length:Int)+1:=o_
       clear Gs hL hH hW cr hB a_0 a_1 hLl hHl gj Bo;obtain rfl:=F9.out;obtain rfl:=HZZ.out
       cases x
       ·have FN:Hid (posN (ltR ns ls k) G G.length=r+1):=h_ (by rw[HP.out,MJ.out];rfl)
        have xp:=Hq.cell (q:=r+1) o_;obtain⟨z,hz⟩:∃z,w3.cell? ⟨gb,r+1,none⟩=some z:=⟨_,xp⟩;have fp:=Hq.frz (r+1)
        have Cl:Hid (OwnI (w.heap.size+1) (w3.setCell ⟨gb,r+1,none⟩ (.int .i64 (k:Int))) (.slice (some ⟨gb,0,none⟩) (G.length+1) cap) (natI (ordL ns ls (k+1)))):=h_ (by
         rw[HX.out];unfold insN;rw[FN.out,<-Q7 G (r+1) y k o_];exact Hq.set_ (r+1) (k:Int))
        have CL:=h_ (GZ.setCell (p:=⟨gb,r+1,none⟩) (show w.heap.size<=gb by omega) (.int .i64 (k:Int)));have CT:=h_ (GJ.far (p:=⟨gb,r+1,none⟩) (show w.heap.size≠gb by omega) (.int .i64 (k:Int)));have Gu:K.2.2<Ke.2.2∨(¬K.2.2<Ke.2.2/\Ke.2.2=K.2.2/\Ke.1.1<=K.1.1):=(z8Y UC.out).1 rfl;clear xp Hq GZ GJ mx hH3
        rcases Gu with q1|⟨q1,q2,q3⟩
        ·go_wp2
         go_roundw
         case rel=>exact⟨k+1,by omega,by go_num,Cl.out,CT.out,CL.out⟩
         case measure=>simp[intOf];omega
        ·go_wp2
         go_roundw
         case rel=>exact⟨k+1,by omega,by go_num,Cl.out,CT.out,CL.out⟩
         case measure=>simp[intOf];omega
       ·have FN:Hid (posN (ltR ns ls k) G G.length=posN (ltR ns ls k) G r):=h_ (by rw[HP.out,MJ.out];rfl)
        have xp:=Hq.cell (q:=r+1) o_;obtain⟨z,hz⟩:∃z,w3.cell? ⟨gb,r+1,none⟩=some z:=⟨_,xp⟩;have fp:=Hq.frz (r+1);have xr:=Hq.cell (q:=r) o_;rw[HGG.out] at xr
        have Cl:Hid (OwnI (w.heap.size+1) (w3.setCell ⟨gb,r+1,none⟩ (.int .i64 (e:Int))) (.slice (some ⟨gb,0,none⟩) (G.length+1) cap) (gapI G r (e:Int))):=h_ (by
         rw[<-HMV.out];exact Hq.set_ (r+1) (e:Int))
        have CL:=h_ (GZ.setCell (p:=⟨gb,r+1,none⟩) (show w.heap.size<=gb by omega) (.int .i64 (e:Int)));have CT:=h_ (GJ.far (p:=⟨gb,r+1,none⟩) (show w.heap.size≠gb by omega) (.int .i64 (e:Int)));have HL2:=h_ (Blk.far mx (p:=⟨gb,r+1,none⟩) (show B≠gb by omega) (.int .i64 (e:Int)));have HH2:=h_ (Blk.far hH3 (p:=⟨gb,r+1,none⟩) (show B+1≠gb by omega) (.int .i64 (e:Int)));have Gu:(¬K.2.2<Ke.2.2/\¬Ke.2.2=K.2.2)∨(¬K.2.2<Ke.2.2/\Ke.2.2=K.2.2/\¬Ke.1.1<=K.1.1):=(z8Y UC.out).2 rfl;clear xp Hq GZ GJ mx hH3
        rcases Gu with ⟨q1,q2⟩|⟨q1,q2,q3⟩
        ·go_wp2
         go_roundw
         case rel=>exact⟨r,by omega,by go_num,⟨_,Cl.out⟩,FN,HL2.out,HH2.out,CT.out,CL.out⟩
         case measure=>simp[intOf]
        ·go_wp2
         go_roundw
         case rel=>exact⟨r,by omega,by go_num,⟨_,Cl.out⟩,FN,HL2.out,HH2.out,CT.out,CL.out⟩
         case measure=>simp[intOf]
     ·have mN:p=0:=o_
      subst mN;have FN:Hid (posN (ltR ns ls k) G G.length=0):=h_ HP.out;clear Nw;have xp:=cr.cell (q:=0) o_;obtain⟨z,hz⟩:∃z,wr.cell? ⟨gb,0,none⟩=some z:=⟨_,xp⟩;have fp:=cr.frz 0
      have Cl:Hid (OwnI (w.heap.size+1) (wr.setCell ⟨gb,0,none⟩ (.int .i64 (k:Int))) (.slice (some ⟨gb,0,none⟩) (G.length+1) cap) (natI (ordL ns ls (k+1)))):=h_ (by
       rw[HX.out];unfold insN;rw[FN.out,<-Q7 G 0 y k o_];exact cr.set_ 0 (k:Int))
      have CL:=h_ (hB.setCell (p:=⟨gb,0,none⟩) (show w.heap.size<=gb by omega) (.int .i64 (k:Int)));have CT:=h_ (hW.far (p:=⟨gb,0,none⟩) (show w.heap.size≠gb by omega) (.int .i64 (k:Int)));clear xp cr hB hW hL hH;go_wp2;go_roundw
      case rel=>exact⟨k+1,by omega,by go_num,Cl.out,CT.out,CL.out⟩
      case measure=>simp[intOf];omega
  ·have Hw:k=F:=o_
   subst Hw;go_wp2;go_ret
   exact⟨_,rfl,by rw[HR.out];exact OwnI.mono ho o_,hB⟩
theorem z8r (vn vl:Value) (ns ls:List Pr) (f:Nat) (w:World) (hn:RP w vn ns) (hl:RP w vl ls):
  CB_ 40 #[.agg #[vn,vl],.int .i64 f] w (.int .i64 (numN ns ls f)):=by
 have Hg:Below w.heap.size w (w.alloc (.cells #[vn,vl] 27)):=bel_
 have HR:Hid (numN ns ls f=idxN (ordW ns ls) f+1):=h_ rfl
 have hol:(ordW ns ls).length <=40:=by
  unfold ordW;rw[Qk];have:=Zp ns ls (z9 ns ls).length;have:=zq ns ls;omega
 go_enter Tryz.func40,Tryz.ntmps40
 go_wp2_with fail
 refine(z57 _ _ ns ls _ (hn.below Hg) (hl.below Hg)).mono ?_
 rintro e w1 ⟨v1,rfl,Hj,h9⟩;have h8:=Hg.trans (h9.mono Hg.size);have nZ:=Hj.reads;clear Hj h9 hn hl Hg;generalize ordW ns ls=l at*;obtain⟨A,c,rfl,hc,hm,hcell⟩:=nZ.form;rw[za] at hc hm hcell⊢;clear nZ;go_wp2
 go_loop [6] (fun i=>∃k:Nat,k<=l.length/\i= .int .i64 k/\Hid (f∉l.take k)) (fun i=>l.length -(intOf i).toNat)
 case atStart=>exact⟨0,aab _,rfl,h_ (by simp)⟩
 case round=>
  obtain⟨k,hk,rfl,HT⟩:=hrel
  by_cases Hd:k<l.length
  ·obtain⟨b,off,rfl,hb,Ho⟩:=hcell o_
   have fK:=Ho k Hd;rw[qj] at fK;clear Ho hcell;have HS:=h_ (fun gr=>QU Hd HT.out gr);have HY:=h_ (fun he=>z6c Hd HT.out he);have Hr:(k:Int)<(l.length:Int):=o_
   generalize l.getD k 0=x at*
   by_cases he:x=f
   ·have e1:((f:Int)==(x:Int))=true:=by simp[he]
    have e2:((x:Int)==(f:Int))=true:=by simp[he]
    have HX:=h_ (HY.out he);clear he;go_wp2;go_ret
    exact⟨zb (by rw[HR.out,HX.out]),h8⟩
   ·have e1:((f:Int)==(x:Int))=false:=by simp;omega
    have e2:((x:Int)==(f:Int))=false:=by simp;omega
    have HX:=h_ (HS.out he);clear he;go_wp2;go_round
    case rel=>exact⟨k+1,by omega,by go_num,HX⟩
    case measure=>simp[intOf];omega
  ·have Hw:l.length<=k:=o_
   have h:=HT.out;rw[aaL Hw] at h;have HX:Hid (idxN l f= -1):=h_ (z6s h);have Hr:¬(k:Int)<(l.length:Int):=o_
   clear h hcell;go_wp2;go_ret
   exact⟨zb (by rw[HR.out,HX.out];rfl),h8⟩
end Go.Proofs.YtnjcpljhmhdhkaaGreat
