/- part 46 -/
import Derived.Test.YtnjcpljhmhdhkaaGreatTPk45
set_option linter.unusedSimpArgs false
set_option linter.unusedVariables false
set_option maxRecDepth 100000
set_option maxHeartbeats 16000000
namespace Go.Proofs.YtnjcpljhmhdhkaaGreat
open Go.RowKit
theorem z3A {ns ls:List Pr} (hw:zm ns ls=false):ordW ns ls=[]:=by
 have hF:zb ns ls=[]:=by unfold zb;rw[hw];rfl
 unfold ordW ordL facL;rw[hF];rfl
theorem z5p {ns ls:List Pr} (hw:zm ns ls=true):(facL ns ls (zb ns ls).length).length <20:=by
 have h1:=z4j hw;unfold ordW at h1;rw[k5] at h1;have h2:=z0U hw;rw[←Xc hw] at h2;obtain⟨W,hl⟩:=zW hw;have h3:=W.2.2.1;have h4:=W.1
 have h5:2≤ns.length:=by
  obtain⟨a,b,c,_⟩:=zR.1 ((W.2.2.2.2.2 0 hl).1);omega
 omega
theorem z5U:Enters Tryz.prog 151:=enters_of Tryz.func151 (by kernel_rfl) rfl
theorem z1b (vn vl:Value) (ns ls:List Pr) (w:World) (hn:RP w vn ns) (hl:RP w vl ls):
  Calls Tryz.prog 86 #[.agg #[vn,vl]] w (RetI (natI (ordW ns ls)) w):=by
 have hb0:Below w.heap.size w (w.alloc (.cells #[vn,vl] 27)):=by exact bel_
 have hW0:Blk (w.alloc (.cells #[vn,vl] 27)) w.heap.size 27 #[vn,vl]:=Blk.newAt rfl
 cases hq:zm ns ls
 ·have HR:=Lib.hid (z3A hq)
  go_enter Tryz.func86,Tryz.ntmps86
  go_wp2_with fail
  refine(jc _ _ ns ls _ _ (hn.below hb0) (hl.below hb0) hq).mono ?_
  rintro e w1 ⟨rfl,hb1⟩;have hbw1:=hb0.trans (hb1.mono hb0.size);go_wp2;go_ret
  exact⟨_,rfl,by rw[HR.out];exact OwnI.nil _ _,hbw1⟩
 ·have h20:=z5p hq
  have hfl:=zL ns ls;have HR:Hid (ordW ns ls=isoK (ltR ns ls) (facL ns ls (zb ns ls).length) (facL ns ls (zb ns ls).length).length):=Lib.hid rfl;have HFO:=Lib.hid (fun k h=>xQ (ns:=ns) (ls:=ls) (k:=k) h);have HFI:=Lib.hid (fun k h=>Z1 (ns:=ns) (ls:=ls) (k:=k) h);have HFL:=Lib.hid (fun k=>xD ns ls k);have HFZ:Hid (facL ns ls 0=[]):=Lib.hid rfl;have HWH:=Lib.hid (jc vn vl ns ls _ _ (hn.below hb0) (hl.below hb0) hq);have HOU:=Lib.hid (fun (v:World) (hb:Below w.heap.size w v)=>ZG vn vl ns ls v (hn.below hb) (hl.below hb));have HFA:=Lib.hid (fun (v:World) (hb:Below w.heap.size w v)=>yC vn vl ns ls v (hn.below hb) (hl.below hb));clear hq;generalize qH ns ls=o at*
  go_enter Tryz.func86,Tryz.ntmps86
  go_wp2_with fail
  refine HWH.out.mono ?_
  rintro e w1 ⟨rfl,hb1⟩;have hbw1:=hb0.trans (hb1.mono hb0.size);have hW1:=hW0.below hb1 hW0.lt;have hz1:=hW1.lt;obtain⟨a_0,a_1⟩:=hW1.c2;clear hb1 hb0 hW0 HWH
  go_wp2_with fail
  refine(HOU.out _ hbw1).mono ?_
  rintro e w2 ⟨rfl,hb2⟩;have hbw2:=hbw1.trans (hb2.mono hbw1.size);have hW2:=hW1.below hb2 hW1.lt;have hz2:=hW2.lt;clear hb2 hW1 hbw1 a_0 a_1 HOU hz1;obtain⟨a_0,a_1⟩:=hW2.c2
  go_wp2_with fail
  refine(HFA.out _ hbw2).mono ?_
  rintro e w3 ⟨v3,rfl,ho3,hb3⟩;obtain⟨A3,c3,rfl⟩:=ho3.form;have hbw3:=hbw2.trans (hb3.mono hbw2.size);have hW3:=hW2.below hb3 hW2.lt;clear hb3 hW2 hbw2 a_0 a_1 HFA hz2 ho3;have hO0:OwnI (w.heap.size+1) w3 (.slice none 0 0) (natI (facL ns ls 0)):=by rw[HFZ.out];exact OwnI.nil _ _
  generalize (zb ns ls).length =F at*;go_wp2
  go_loopw [4,14] (fun v t wr=>∃k:Nat,k≤F∧t= .int .i64 k∧OwnI (w.heap.size+1) wr v (natI (facL ns ls k))∧Hid ((facL ns ls k).length =0→v= .slice none 0 0)∧Blk wr w.heap.size 27 #[vn,vl]∧Below w.heap.size w wr) (fun _ t _=>F -(intOf t).toNat)
  case atStart=>exact⟨0,Nat.zero_le _,rfl,hO0,Lib.hid (fun _=>rfl),hW3,hbw3⟩
  case round=>
   clear hO0 hW3 hbw3;obtain⟨k,hk,rfl,ho,HNV,hW,hB⟩:=hrel;have hsz:=hW.lt;have hgl:=HFL.out k
   by_cases hlt:k<F
   ·have hlt1:(k:Int)<(F:Int):=by omega
    by_cases hko:(k:Int)=o
    ·have e1:((k:Int)==o)=true:=beq_iff_eq.2 hko
     have e2:((k:Int) != o)=false:=by rw[bne,e1];rfl
     have HX:=Lib.hid (HFO.out k hko);clear hko;go_wp2;go_roundw
     case rel=>exact⟨k+1,by omega,by go_num,by rw[HX.out];exact ho,by rw[HX.out];exact HNV,hW,hB⟩
     case measure=>simp[intOf];omega
    ·have e1:((k:Int)==o)=false:=beq_eq_false_iff_ne.2 hko
     have e2:((k:Int) != o)=true:=by rw[bne,e1];rfl
     have HX:=Lib.hid (HFI.out k hko);clear hko;generalize facL ns ls k=G at*
     go_wp2_with (at_builtin;refine jC rfl _ _ rfl (w.heap.size+1) _ (natI G) (k:Int) rfl wr.heap.size rfl (yp rfl) (ho.alloc _) (by rw[zc];omega) (by simp;omega) ?_)
     intro v7 w7 ho7 hg7 _;have HW:=Lib.hid (show Blk w7 w.heap.size 27 #[vn,vl] from(hg7.block w.heap.size (by simp;omega) (fun e=>by have:=(ho.lt _ e.symm).1;omega)).trans (hW.alloc _));have HB:=Lib.hid ((hB.alloc hB.size (.cells #[.int .i64 k] 3)).grown hg7 (by simp;omega) (fun q hq=>by have:=(ho.lt q hq).1;omega));have HO:Hid (OwnI (w.heap.size+1) w7 v7 (natI (facL ns ls (k+1)))):=Lib.hid (by rw[HX.out];simpa[natI] using ho7);have HNE:Hid ((facL ns ls (k+1)).length =0→v7= .slice none 0 0):=Lib.hid (fun h=>by rw[HX.out] at h;simp at h);clear ho7 hg7 ho hW hB;go_wp2;go_roundw
     case rel=>exact⟨k+1,by omega,by go_num,HO.out,HNE,HW.out,HB.out⟩
     case measure=>simp[intOf];omega
   ·have hkk:k=F:=by omega
    subst hkk;have HRR:=Lib.hid HR.out
    by_cases h0:(facL ns ls k).length =0
    ·have hnil:facL ns ls k=[]:=List.eq_nil_of_length_eq_zero h0
     have e0:=HNV.out h0;subst e0
     go_wp2_with fail
     refine(J5 _ _ _).mono ?_
     rintro e w5 ⟨rfl,hb5⟩;have HB:=Lib.hid (hB.trans (hb5.mono hB.size));clear hb5 hB hW ho;go_wp2;go_ret
     exact⟨_,rfl,by rw[HRR.out,hnil];exact OwnI.nil _ _,HB.out⟩
    ·have hG:=Lib.hid ho
     obtain⟨g,c,rfl,hgc,hgb,hgl2,_⟩:=OwnI.blk ho (by rw[zc];omega);rw[zc] at hgc ho⊢
     have hCA:QT 151 #[.pointer (some ⟨w.heap.size,0,none⟩)] (facL ns ls k) (cmpR ns ls) (some g) wr:=by
      intro v d e _ _ hg;have hgrow:Below w.heap.size w v:=hB.grown hg hB.size (fun q hq=>by cases hq;omega);exact z3g w.heap.size vn vl ns ls d e v ((hg.block w.heap.size hsz (fun e=>by cases e;omega)).trans hW) (hn.below hgrow) (hl.below hgrow)
     have HS:=Lib.hid (ZD (w.heap.size+1) 151 g c #[.pointer (some ⟨w.heap.size,0,none⟩)] (facL ns ls k) (cmpR ns ls) (ltR ns ls) wr hCA (fun _ _=>rfl) ho h20 z5U);have HB:=Lib.hid hB;clear ho hW hB hG hCA
     go_wp2_with fail
     refine HS.out.mono ?_
     rintro e w5 ⟨rfl,ho5,hg5⟩;have HB5:=Lib.hid (HB.out.grown hg5 HB.out.size (fun q hq=>by cases hq;omega));have HO5:=Lib.hid (OwnI.mono ho5 (show w.heap.size≤w.heap.size+1 by omega));clear ho5 hg5 HS HB;go_wp2;go_ret
     exact⟨_,rfl,by rw[HRR.out];exact HO5.out,HB5.out⟩
theorem z3U (vn vl:Value) (ns ls:List Pr) (f:Nat) (w:World) (hn:RP w vn ns) (hl:RP w vl ls):
  Calls Tryz.prog 23 #[.agg #[vn,vl],.int .i64 f] w fun e w'=>e= .returned (.int .i64 (numN ns ls f))∧Below w.heap.size w w':=by
 have hb0:Below w.heap.size w (w.alloc (.cells #[vn,vl] 27)):=by exact bel_
 have HR:Hid (numN ns ls f=idxN (ordW ns ls) f+1):=Lib.hid rfl
 have hol:(ordW ns ls).length ≤40:=by
  unfold ordW;rw[k5];have:=xD ns ls (zb ns ls).length;have:=zL ns ls;omega
 have hix: -1≤idxN (ordW ns ls) f∧idxN (ordW ns ls) f≤40:=by
  unfold idxN
  split
  ·rename_i h
   have:=List.idxOf_lt_length_of_mem h;omega
  ·omega
 go_enter Tryz.func23,Tryz.ntmps23
 go_wp2_with fail
 refine(z1b _ _ ns ls _ (hn.below hb0) (hl.below hb0)).mono ?_
 rintro e w1 ⟨v1,rfl,ho1,hb1⟩;have hbw1:=hb0.trans (hb1.mono hb0.size);have hr1:=ho1.reads;clear ho1 hb1
 go_wp2_with fail
 refine(xB _ (ordW ns ls) f _ hr1).mono ?_
 rintro e w2 ⟨rfl,rfl⟩;go_wp2;go_ret
 exact⟨ze (by rw[HR.out]),hbw1⟩
theorem z50 (ns ls:List Pr) (d e:Nat):ltR ns ls d e= !(decide ((boxF ns ls d).2.2<(boxF ns ls e).2.2)||(decide ((boxF ns ls e).2.2=(boxF ns ls d).2.2)&&decide ((boxF ns ls e).1.1≤(boxF ns ls d).1.1))):=by
 unfold ltR cmpR
 by_cases h:(boxF ns ls d).2.2=(boxF ns ls e).2.2
 ·rw[if_pos h,Bool.eq_iff_iff]
  simp[h];omega
 ·have h':¬(boxF ns ls e).2.2=(boxF ns ls d).2.2:=fun q=>h q.symm
  rw[if_neg h,Bool.eq_iff_iff];simp[h'];omega
theorem z45 {p q s t:Int} {x:Bool} (h:x= !(decide (p<q)||(decide (q=p)&&decide (s≤t)))):(x=false→p<q∨(¬p<q∧q=p∧s≤t))∧(x=true→(¬p<q∧¬q=p)∨(¬p<q∧q=p∧¬s≤t)):=by
 subst h
 by_cases h1:p<q<;>by_cases h2:q=p<;>by_cases h3:s≤t<;>first|(simp[h1,h2,h3];done)|omega
theorem allo1 {w:World} {o1:Obj} {b i:Nat} {x:Value} (h:w.cell? ⟨b,i,none⟩=some x) (hb:b<w.heap.size):(w.alloc o1).cell? ⟨b,i,none⟩=some x:=
 (((Below.refl w.heap.size w).alloc (Nat.le_refl _) o1).cell (p:=⟨b,i,none⟩) hb).trans h
theorem allo2 {w:World} {o1 o2:Obj} {b i:Nat} {x:Value} (h:w.cell? ⟨b,i,none⟩=some x) (hb:b<w.heap.size):((w.alloc o1).alloc o2).cell? ⟨b,i,none⟩=some x:=
 allo1 (allo1 h hb) (by simp;omega)
theorem scO {w:World} {a b:Addr} {v:Value} (h:a≠b):(w.setCell a v).cell? b=w.cell? b:=World.cell?_setCell_other w a b v h
theorem scS {w:World} {a:Addr} {v u:Value} (h:w.cell? a=some u):(w.setCell a v).cell? a=some v:=World.cell?_setCell_same w a v h
section
variable {w:World} {a b c d p q p' q':Value} {t t':TypeId} {g h:Nat}
theorem laA0:((w.alloc (.cells #[a,b] t)).alloc (.cells #[c,d] t')).cell? ⟨w.heap.size,0,none⟩=some a:=allo1 ((Blk.newAt rfl).cell 0) (by simp)
theorem laA1:((w.alloc (.cells #[a,b] t)).alloc (.cells #[c,d] t')).cell? ⟨w.heap.size,1,none⟩=some b:=allo1 ((Blk.newAt rfl).cell 1) (by simp)
theorem laB0:((w.alloc (.cells #[a,b] t)).alloc (.cells #[c,d] t')).cell? ⟨w.heap.size+1,0,none⟩=some c:=(Blk.newAt (by simp)).cell 0
theorem laB1:((w.alloc (.cells #[a,b] t)).alloc (.cells #[c,d] t')).cell? ⟨w.heap.size+1,1,none⟩=some d:=(Blk.newAt (by simp)).cell 1
theorem jK {g i h j:Nat} (e:¬(g=h∧i=j)):(⟨g,i,none⟩:Addr)≠⟨h,j,none⟩:=fun q=>e (by injection q with q1 q2 _;exact⟨q1,q2⟩)
theorem laC0 (hg:g<w.heap.size) (z:w.cell? ⟨g,0,none⟩=some p):(((w.setCell ⟨g,0,none⟩ a).setCell ⟨g,1,none⟩ b).alloc (.cells #[c,d] t')).cell? ⟨g,0,none⟩=some a:=
 allo1 ((scO (jK (by omega))).trans (scS z)) (by simpa[World.setCell] using hg)
theorem laC1 (hg:g<w.heap.size) (z:w.cell? ⟨g,1,none⟩=some p):(((w.setCell ⟨g,0,none⟩ a).setCell ⟨g,1,none⟩ b).alloc (.cells #[c,d] t')).cell? ⟨g,1,none⟩=some b:=
 allo1 (scS ((scO (jK (by omega))).trans z)) (by simpa[World.setCell] using hg)
theorem laD0:(((w.setCell ⟨g,0,none⟩ a).setCell ⟨g,1,none⟩ b).alloc (.cells #[c,d] t')).cell? ⟨w.heap.size,0,none⟩=some c:=(Blk.newAt (by simp[World.setCell])).cell 0
theorem laD1:(((w.setCell ⟨g,0,none⟩ a).setCell ⟨g,1,none⟩ b).alloc (.cells #[c,d] t')).cell? ⟨w.heap.size,1,none⟩=some d:=(Blk.newAt (by simp[World.setCell])).cell 1
theorem laE0 (hne:¬g=h) (z:w.cell? ⟨g,0,none⟩=some p):((((w.setCell ⟨g,0,none⟩ a).setCell ⟨g,1,none⟩ b).setCell ⟨h,0,none⟩ c).setCell ⟨h,1,none⟩ d).cell? ⟨g,0,none⟩=some a:=
 (scO (jK (by omega))).trans ((scO (jK (by omega))).trans ((scO (jK (by omega))).trans (scS z)))
theorem laE1 (hne:¬g=h) (z:w.cell? ⟨g,1,none⟩=some p):((((w.setCell ⟨g,0,none⟩ a).setCell ⟨g,1,none⟩ b).setCell ⟨h,0,none⟩ c).setCell ⟨h,1,none⟩ d).cell? ⟨g,1,none⟩=some b:=
 (scO (jK (by omega))).trans ((scO (jK (by omega))).trans (scS ((scO (jK (by omega))).trans z)))
theorem laF0 (hne:¬g=h) (z:w.cell? ⟨h,0,none⟩=some p):((((w.setCell ⟨g,0,none⟩ a).setCell ⟨g,1,none⟩ b).setCell ⟨h,0,none⟩ c).setCell ⟨h,1,none⟩ d).cell? ⟨h,0,none⟩=some c:=
 (scO (jK (by omega))).trans (scS ((scO (jK (by omega))).trans ((scO (jK (by omega))).trans z)))
theorem laF1 (hne:¬g=h) (z:w.cell? ⟨h,1,none⟩=some p):((((w.setCell ⟨g,0,none⟩ a).setCell ⟨g,1,none⟩ b).setCell ⟨h,0,none⟩ c).setCell ⟨h,1,none⟩ d).cell? ⟨h,1,none⟩=some d:=
 scS ((scO (jK (by omega))).trans ((scO (jK (by omega))).trans ((scO (jK (by omega))).trans z)))
end
theorem z15 (vn vl:Value) (ns ls:List Pr) (w:World) (hn:RP w vn ns) (hl:RP w vl ls):
  Calls Tryz.prog 113 #[.agg #[vn,vl]] w (RetI (natI (ordW ns ls)) w):=by
 have hba:Below w.heap.size w ((w.alloc (.cells #[vn,vl] 27)).alloc (.cells #[] 3)):=by exact bel_
 have hWA:Blk ((w.alloc (.cells #[vn,vl] 27)).alloc (.cells #[] 3)) w.heap.size 27 #[vn,vl]:=(Blk.newAt rfl).alloc _;have hOA:OwnI (w.heap.size+1) ((w.alloc (.cells #[vn,vl] 27)).alloc (.cells #[] 3)) (.slice (some ⟨w.heap.size+1,0,none⟩) 0 0) []:=OwnI.made (by simp) (by simp);have hfl:=zL ns ls;have HR:Hid (ordW ns ls=ordL ns ls (zb ns ls).length):=Lib.hid rfl;have HFO:=Lib.hid (fun k h=>XC (ns:=ns) (ls:=ls) (k:=k) h);have HFI:=Lib.hid (fun k h=>z23 (ns:=ns) (ls:=ls) (k:=k) h);have HFL:Hid (∀k,(ordL ns ls k).length ≤k):=Lib.hid (fun k=>by rw[k5];exact xD ns ls k);have HFZ:Hid (ordL ns ls 0=[]):=Lib.hid rfl;have HFA:=Lib.hid (fun (v:World) (hb:Below w.heap.size w v)=>jF vn vl ns ls v (hn.below hb) (hl.below hb));have HOU:=Lib.hid (fun (v:World) (hb:Below w.heap.size w v)=>Jb vn vl ns ls v (hn.below hb) (hl.below hb));have HBX:=Lib.hid (fun (f:Int) (v:World) (hb:Below w.heap.size w v)=>z4K vn vl ns ls f v (hn.below hb) (hl.below hb));obtain⟨i0,hi,iz0,iz1,iz2⟩:=info_parts qu;clear hn hl;generalize qH ns ls=o at*
 go_enter Tryz.func113,Tryz.ntmps113
 go_wp2_with fail
 refine(HFA.out _ hba).mono ?_
 rintro e w1 ⟨v1,rfl,ho1,hb1⟩;obtain⟨A1,c1,rfl⟩:=ho1.form;have hbw1:=hba.trans (hb1.mono hba.size);have hW1:=hWA.below hb1 hWA.lt;have hO1:=hOA.kept hb1;have hz1:=hW1.lt;obtain⟨a_0,a_1⟩:=hW1.c2;clear hb1 hba hWA hOA ho1 HFA
 go_wp2_with fail
 refine(HOU.out _ hbw1).mono ?_
 rintro e w2 ⟨rfl,hb2⟩;have hbw2:=hbw1.trans (hb2.mono hbw1.size);have hW2:=hW1.below hb2 hW1.lt;have hO2:OwnI (w.heap.size+1) w2 (.slice (some ⟨w.heap.size+1,0,none⟩) 0 0) (natI (ordL ns ls 0)):=by rw[HFZ.out];exact hO1.kept hb2
 clear hb2 hW1 hO1 hbw1 a_0 a_1 HOU hz1;generalize (zb ns ls).length =F at*;go_wp2
 go_loopw [3,6] (fun v t wr=>∃k:Nat,k≤F∧t= .int .i64 k∧OwnI (w.heap.size+1) wr v (natI (ordL ns ls k))∧Blk wr w.heap.size 27 #[vn,vl]∧Below w.heap.size w wr) (fun _ t _=>F -(intOf t).toNat)
 case atStart=>exact⟨0,Nat.zero_le _,rfl,hO2,hW2,hbw2⟩
 case round=>
  clear hO2 hW2 hbw2;obtain⟨k,hk,rfl,ho,hW,hB⟩:=hrel;have hsz:=hW.lt;have hgl:=HFL.out k
  by_cases hlt:k<F
  ·have hlt1:(k:Int)<(F:Int):=by omega
   by_cases hko:(k:Int)=o
   ·have e1:((k:Int)==o)=true:=beq_iff_eq.2 hko
    have HX:=Lib.hid (HFO.out k hko);clear hko;go_wp2;go_roundw
    case rel=>exact⟨k+1,by omega,by go_num,by rw[HX.out];exact ho,hW,hB⟩
    case measure=>simp[intOf];omega
   ·have e1:((k:Int)==o)=false:=beq_eq_false_iff_ne.2 hko
    have HX:=Lib.hid (HFI.out k hko);have HLT:=Lib.hid (fun e=>z50 ns ls k e);clear hko;generalize ordL ns ls k=G at*;obtain⟨K,hK⟩:∃K,boxF ns ls (k:Int)=K:=⟨_,rfl⟩;have HK:=Lib.hid hK;clear hK;obtain⟨a_0,a_1⟩:=hW.c2
    go_wp2_with fail
    refine(HBX.out k _ hB).mono ?_
    rw[HK.out];rintro e w3 ⟨rfl,hb3⟩;have hbw3:=hB.trans (hb3.mono hB.size);have hW3:=hW.below hb3 hsz;have ho3:=ho.kept hb3;have hz3:=hW3.lt;obtain⟨A3,c3,rfl⟩:=OwnE.form (t:=3) (enc:=vI) ho3;rw[zc] at ho3⊢;clear hb3 ho hW hB a_0 a_1;have ho4:=(OwnI.alloc ho3 (.cells #[.int .i64 K.1.1,.int .i64 K.1.2] 106)).alloc (.cells #[.int .i64 K.2.1,.int .i64 K.2.2] 106);have hb4:Below w3.heap.size w3 (((w3.alloc (.cells #[.int .i64 K.1.1,.int .i64 K.1.2] 106)).alloc (.cells #[.int .i64 K.2.1,.int .i64 K.2.2] 106)).alloc (.cells #[.int .i64 k] 3)):=by exact bel_
    have hL4:Nd2 (((w3.alloc (.cells #[.int .i64 K.1.1,.int .i64 K.1.2] 106)).alloc (.cells #[.int .i64 K.2.1,.int .i64 K.2.2] 106)).alloc (.cells #[.int .i64 k] 3)) w3.heap.size K.1.1 K.1.2:=((Blk.newAt rfl).alloc _).alloc _;have hH4:Nd2 (((w3.alloc (.cells #[.int .i64 K.1.1,.int .i64 K.1.2] 106)).alloc (.cells #[.int .i64 K.2.1,.int .i64 K.2.2] 106)).alloc (.cells #[.int .i64 k] 3)) (w3.heap.size+1) K.2.1 K.2.2:=(Blk.newAt (by simp)).alloc _;have hbw4:=hbw3.trans (hb4.mono hbw3.size);have hW4:=hW3.below hb4 hz3;clear hb4 hbw3
    go_wp2_with (at_builtin;refine jC rfl _ _ rfl (w.heap.size+1) _ (natI G) (k:Int) rfl (w3.heap.size+1+1) rfl (yp (by simp)) (OwnI.alloc ho4 _) (by rw[zc];omega) (by simp;omega) ?_)
    intro v7 w7 ho7 hg7 hown7;have hlt3:=hW3.lt;have hlo:∀q,(Value.slice A3 G.length c3).ownBlock =some q→w.heap.size+1≤q∧q<w3.heap.size:=fun q hq=>ho3.lt q hq
    have hL7:Nd2 w7 w3.heap.size K.1.1 K.1.2:=(hg7.block w3.heap.size (by simp;omega) (fun e=>by have:=(hlo _ e.symm).2;omega)).trans hL4;have hH7:Nd2 w7 (w3.heap.size+1) K.2.1 K.2.2:=(hg7.block (w3.heap.size+1) (by simp) (fun e=>by have:=(hlo _ e.symm).2;omega)).trans hH4;have hW7:Blk w7 w.heap.size 27 #[vn,vl]:=(hg7.block w.heap.size (by simp;omega) (fun e=>by have:=(hlo _ e.symm).1;omega)).trans hW4;have hbw7:=hbw4.grown hg7 (by simp;omega) (fun q hq=>by have:=(hlo q hq).1;omega);have hO7:OwnI (w.heap.size+1) w7 v7 (gapI G G.length (k:Int)):=by rw[Ql];exact ho7
    have hgl7:=qT G G.length (k:Int) (Nat.le_refl _);obtain⟨gb,cap,rfl,hcap,hgb,hgz,_⟩:=OwnI.blk hO7 (by rw[hgl7];omega);rw[hgl7] at hO7⊢
    have hne1:gb≠w3.heap.size:=by
     intro e
     rcases hown7 with h|h
     ·have:=(hlo gb h.symm).2;omega
     ·injection h with h;simp at h;omega
    have hne2:gb≠w3.heap.size+1:=by
     intro e
     rcases hown7 with h|h
     ·have:=(hlo gb h.symm).2;omega
     ·injection h with h;simp at h;omega
    generalize w3.heap.size=B at*;have HHLO:=Lib.hid hlo;clear hlo hL4 hH4 hW4 hbw4 ho4 ho3 ho7 hg7 hown7 hcap hgl7 hW3;have hB7:B+1<w7.heap.size:=Blk.lt hH7;go_wp2
    go_loopw [9] (fun t wr=>∃p:Nat,p≤G.length∧t= .int .i64 p∧(∃y,OwnI (w.heap.size+1) wr (.slice (some ⟨gb,0,none⟩) (G.length+1) cap) (gapI G p y))∧Hid (posN (ltR ns ls k) G G.length=posN (ltR ns ls k) G p)∧Nd2 wr B K.1.1 K.1.2∧Nd2 wr (B+1) K.2.1 K.2.2∧Blk wr w.heap.size 27 #[vn,vl]∧Below w.heap.size w wr) (fun t _=>(intOf t).toNat)
    case atStart=>exact⟨G.length,Nat.le_refl _,rfl,⟨_,hO7⟩,Lib.hid rfl,hL7,hH7,hW7,hbw7⟩
    case round=>
     clear hO7 hL7 hH7 hW7 hbw7 hB7 hgz;obtain⟨p,hp,rfl,⟨y,hoy⟩,HP,hL,hH,hW,hB⟩:=hrel;have hsz:=hW.lt;have hgl2:=qT G p y hp;have hgz:=(OwnI.lt hoy gb rfl).2;have hLl:=Blk.lt hL;have hHl:=Blk.lt hH
     by_cases hp0:0<p
     ·obtain⟨r,rfl⟩:∃r,p=r+1:=⟨p -1,by omega⟩
      have hr:r<G.length:=by omega
      have xr:=OwnE.cell (t:=3) (enc:=vI) hoy 0 (q:=r) (by omega);rw[ka G r y hr] at xr;have xr':wr.cell? ⟨gb,r,none⟩=some (.int .i64 (G.getD r 0:Nat)):=xr;have HMV:=Lib.hid (Qp G r y hr);have HPS:Hid (posN (ltR ns ls k) G (r+1)=if ltR ns ls k (G.getD r 0) then posN (ltR ns ls k) G r else r+1):=Lib.hid rfl;have HGG:=Lib.hid (ka G r y hr);clear xr;generalize hev:G.getD r 0=e at*;have HEV:=Lib.hid hev;clear hev;obtain⟨Ke,hKe⟩:∃Ke,boxF ns ls (e:Int)=Ke:=⟨_,rfl⟩;have HLT1:=Lib.hid (HLT.out e);rw[hKe,HK.out] at HLT1;have HBE:=Lib.hid (fun v hb=>HBX.out (e:Int) v hb);rw[hKe] at HBE;obtain⟨x,hx⟩:∃x,ltR ns ls k e=x:=⟨_,rfl⟩;rw[hx] at HPS HLT1;clear hKe hx;have hp1:(0:Int)<((r+1:Nat):Int):=by omega
      have hsub:(((r+1:Nat):Int)) -1=(r:Int):=by omega
      have hi1:(0:Int)≤(r:Int):=by omega
      have hi2:(r:Int)<((G.length+1:Nat):Int):=by omega
      have hwr1:IntKind.i64.wrap (((r+1:Nat):Int) -1)=(r:Int):=by rw[hsub];exact IntWalk.i64_in _ (by omega)
      have hrl:(r:Int)<(G.length:Int)+1:=by omega
      obtain⟨z,hz⟩:∃z:Int,((r+1:Nat):Int)=z:=⟨_,rfl⟩;rw[hz] at hwr1 hp1 hsub⊢;have HZZ:=Lib.hid hz;clear hz hsub;obtain⟨n1,hn1⟩:∃n1:Nat,G.length+1=n1:=⟨_,rfl⟩;rw[hn1] at hoy hi2⊢;have HN1:=Lib.hid hn1;clear hn1 hrl;obtain⟨a_0,a_1⟩:=hW.c2
      go_wp2_with fail
      go_cut [10,11] (fun s10 s11 wx=>∃x y:Nat,s10= .pointer (some ⟨x,0,none⟩)∧s11= .pointer (some ⟨y,0,none⟩)∧Below wr.heap.size wr wx∧x<wx.heap.size∧y<wx.heap.size∧wx.cell? ⟨x,0,none⟩=some (.int .i64 Ke.1.1)∧wx.cell? ⟨y,1,none⟩=some (.int .i64 Ke.2.2))
      case first=>
       have hBW:=hB;have n1:¬w.heap.size=wr.heap.size:=by omega
       have n2:¬gb=wr.heap.size:=by omega
       have n3:¬w.heap.size=wr.heap.size+1:=by omega
       have n4:¬gb=wr.heap.size+1:=by omega
       have n5:¬wr.heap.size=w.heap.size:=by omega
       have n6:¬wr.heap.size=gb:=by omega
       have n7:¬wr.heap.size+1=w.heap.size:=by omega
       have n8:¬wr.heap.size+1=gb:=by omega
       go_region_held3 (fun w'=>w'.cell? ⟨w.heap.size,0,none⟩=some vn∧w'.cell? ⟨w.heap.size,1,none⟩=some vl∧w'.cell? ⟨gb,r,none⟩=some (.int .i64 (e:Int)))
        (first|go_keep|(exact⟨allo2 (by assumption) (by assumption),allo2 (by assumption) (by assumption),allo2 (by assumption) (by assumption)⟩)|(exact⟨allo1 (by assumption) (by assumption),allo1 (by assumption) (by assumption),allo1 (by assumption) (by assumption)⟩))
        (first|(go_at_call 191;refine(HBE.out _ (by exact bel_)).mono ?_;rintro en w3 ⟨rfl,hb3⟩;(first|(with_reducible have hcf3:=z8 hb3)|have hcf3:=bcell hb3);obtain⟨hc3,hf3⟩:=hcf3;have hz3:=hb3.size;(try simp at hz3);(try have hp3_0:=p0_ w w3);(try have hp3_1:=p1_ w w3);(try have hp3_2:=p2_ w w3);(try have hp3_3:=p3_ w w3);(have hq3:wr.heap.size≤w3.heap.size:=by omega);(have hk1:w.heap.size<w3.heap.size:=by omega);(have hk2:gb<w3.heap.size:=by omega);(try have hq0:wr.heap.size<w3.heap.size:=by omega);(try have hq1:wr.heap.size+1<w3.heap.size:=by omega);(try have z00:w3.cell? ⟨wr.heap.size,0,none⟩=some (.int .i64 0):=(hc3 (wr.heap.size) 0 (by first|omega|(simp;done)|(simp;omega))).trans (by simp;done));(try have z01:w3.cell? ⟨wr.heap.size,1,none⟩=some (.int .i64 0):=(hc3 (wr.heap.size) 1 (by first|omega|(simp;done)|(simp;omega))).trans (by simp;done));(try have z10:w3.cell? ⟨wr.heap.size+1,0,none⟩=some (.int .i64 0):=(hc3 (wr.heap.size+1) 0 (by first|omega|(simp;done)|(simp;omega))).trans (by simp;done));(try have z11:w3.cell? ⟨wr.heap.size+1,1,none⟩=some (.int .i64 0):=(hc3 (wr.heap.size+1) 1 (by first|omega|(simp;done)|(simp;omega))).trans (by simp;done));(have s0:w3.cell? ⟨w.heap.size,0,none⟩=some vn:=(hc3 w.heap.size 0 (by first|omega|(simp;omega))).trans (by(first|exact a_0|exact allo1 a_0 (by omega)|exact allo2 a_0 (by omega))));(have s1:w3.cell? ⟨w.heap.size,1,none⟩=some vl:=(hc3 w.heap.size 1 (by first|omega|(simp;omega))).trans (by(first|exact a_1|exact allo1 a_1 (by omega)|exact allo2 a_1 (by omega))));(have s2:w3.cell? ⟨gb,r,none⟩=some (.int .i64 (e:Int)):=(hc3 gb r (by first|omega|(simp;omega))).trans (by(first|exact xr'|exact allo1 xr' (by omega)|exact allo2 xr' (by omega))))))
       all_goals go_wp2
       all_goals go_meet
       all_goals refine⟨_,_,rfl,rfl,by exact bel_,sz_,sz_,?_,?_⟩
       all_goals first|with_reducible exact laA0|with_reducible exact laA1|with_reducible exact laB0|with_reducible exact laB1|with_reducible exact laD0|with_reducible exact laD1|with_reducible exact laC0 hq0 z00|with_reducible exact laC1 hq0 z01|with_reducible exact laE0 (by omega) z00|with_reducible exact laE1 (by omega) z01|with_reducible exact laE0 (by omega) z10|with_reducible exact laE1 (by omega) z11|with_reducible exact laF0 (by omega) z00|with_reducible exact laF1 (by omega) z01|with_reducible exact laF0 (by omega) z10|with_reducible exact laF1 (by omega) z11
      case rest=>
       obtain⟨x1,y1,rfl,rfl,hbc,hx1,hy1,fx,fy⟩:=hcut;obtain⟨w3,hw3⟩:∃u,u=wc:=⟨_,rfl⟩;subst hw3;have hL3:=Blk.below hL hbc hLl;have hH3:=Blk.below hH hbc hHl;have hW3:=hW.below hbc hsz;have ho3:=hoy.kept hbc;have hB3:=hB.trans (hbc.mono hB.size);have hgz3:=(OwnI.lt ho3 gb rfl).2;obtain⟨l0,l1⟩:=Blk.c2 hL3;obtain⟨h0,h1⟩:=Blk.c2 hH3;have hz3:=hW3.lt;have hLl3:=Blk.lt hL3;have hHl3:=Blk.lt hH3;have hrl:(r:Int)<(G.length:Int)+1:=by omega
       have hrl2:(r:Int)+1<(G.length:Int)+1:=by omega
       clear hbc hL hH hW hoy hB a_0 a_1 hLl hHl hsz hgz;obtain rfl:=HN1.out;obtain rfl:=HZZ.out
       cases x
       ·have HP2:Hid (posN (ltR ns ls k) G G.length=r+1):=Lib.hid (by rw[HP.out,HPS.out];rfl)
        have xp:=ho3.cell (q:=r+1) (by omega);obtain⟨z,hz⟩:∃z,w3.cell? ⟨gb,r+1,none⟩=some z:=⟨_,xp⟩;have fp:=ho3.frz (r+1)
        have HO2:Hid (OwnI (w.heap.size+1) (w3.setCell ⟨gb,r+1,none⟩ (.int .i64 (k:Int))) (.slice (some ⟨gb,0,none⟩) (G.length+1) cap) (natI (ordL ns ls (k+1)))):=Lib.hid (by
         rw[HX.out];unfold insN;rw[HP2.out,←ki G (r+1) y k (by omega)];exact ho3.set_ (r+1) (k:Int))
        have HB2:=Lib.hid (hB3.setCell (p:=⟨gb,r+1,none⟩) (show w.heap.size≤gb by omega) (.int .i64 (k:Int)));have HW2:=Lib.hid (hW3.far (p:=⟨gb,r+1,none⟩) (show w.heap.size≠gb by omega) (.int .i64 (k:Int)));have hcs:K.2.2<Ke.2.2∨(¬K.2.2<Ke.2.2∧Ke.2.2=K.2.2∧Ke.1.1≤K.1.1):=(z45 HLT1.out).1 rfl;clear xp ho3 hB3 hW3 hL3 hH3
        rcases hcs with q1|⟨q1,q2,q3⟩
        ·go_wp2
         go_roundw
         case rel=>exact⟨k+1,by omega,by go_num,HO2.out,HW2.out,HB2.out⟩
         case measure=>simp[intOf];omega
        ·go_wp2
         go_roundw
         case rel=>exact⟨k+1,by omega,by go_num,HO2.out,HW2.out,HB2.out⟩
         case measure=>simp[intOf];omega
       ·have HP2:Hid (posN (ltR ns ls k) G G.length=posN (ltR ns ls k) G r):=Lib.hid (by rw[HP.out,HPS.out];rfl)
        have xp:=ho3.cell (q:=r+1) (by omega);obtain⟨z,hz⟩:∃z,w3.cell? ⟨gb,r+1,none⟩=some z:=⟨_,xp⟩;have fp:=ho3.frz (r+1);have xr:=ho3.cell (q:=r) (by omega);rw[HGG.out] at xr
        have HO2:Hid (OwnI (w.heap.size+1) (w3.setCell ⟨gb,r+1,none⟩ (.int .i64 (e:Int))) (.slice (some ⟨gb,0,none⟩) (G.length+1) cap) (gapI G r (e:Int))):=Lib.hid (by
         rw[←HMV.out];exact ho3.set_ (r+1) (e:Int))
        have HB2:=Lib.hid (hB3.setCell (p:=⟨gb,r+1,none⟩) (show w.heap.size≤gb by omega) (.int .i64 (e:Int)));have HW2:=Lib.hid (hW3.far (p:=⟨gb,r+1,none⟩) (show w.heap.size≠gb by omega) (.int .i64 (e:Int)));have HL2:=Lib.hid (Blk.far hL3 (p:=⟨gb,r+1,none⟩) (show B≠gb by omega) (.int .i64 (e:Int)));have HH2:=Lib.hid (Blk.far hH3 (p:=⟨gb,r+1,none⟩) (show B+1≠gb by omega) (.int .i64 (e:Int)));have hcs:(¬K.2.2<Ke.2.2∧¬Ke.2.2=K.2.2)∨(¬K.2.2<Ke.2.2∧Ke.2.2=K.2.2∧¬Ke.1.1≤K.1.1):=(z45 HLT1.out).2 rfl;clear xp ho3 hB3 hW3 hL3 hH3
        rcases hcs with ⟨q1,q2⟩|⟨q1,q2,q3⟩
        ·go_wp2
         go_roundw
         case rel=>exact⟨r,by omega,by go_num,⟨_,HO2.out⟩,HP2,HL2.out,HH2.out,HW2.out,HB2.out⟩
         case measure=>simp[intOf]
        ·go_wp2
         go_roundw
         case rel=>exact⟨r,by omega,by go_num,⟨_,HO2.out⟩,HP2,HL2.out,HH2.out,HW2.out,HB2.out⟩
         case measure=>simp[intOf]
     ·have hp0':p=0:=by omega
      subst hp0';have HP2:Hid (posN (ltR ns ls k) G G.length=0):=Lib.hid HP.out;clear hp0;have xp:=hoy.cell (q:=0) (by omega);obtain⟨z,hz⟩:∃z,wr.cell? ⟨gb,0,none⟩=some z:=⟨_,xp⟩;have fp:=hoy.frz 0
      have HO2:Hid (OwnI (w.heap.size+1) (wr.setCell ⟨gb,0,none⟩ (.int .i64 (k:Int))) (.slice (some ⟨gb,0,none⟩) (G.length+1) cap) (natI (ordL ns ls (k+1)))):=Lib.hid (by
       rw[HX.out];unfold insN;rw[HP2.out,←ki G 0 y k (by omega)];exact hoy.set_ 0 (k:Int))
      have HB2:=Lib.hid (hB.setCell (p:=⟨gb,0,none⟩) (show w.heap.size≤gb by omega) (.int .i64 (k:Int)));have HW2:=Lib.hid (hW.far (p:=⟨gb,0,none⟩) (show w.heap.size≠gb by omega) (.int .i64 (k:Int)));clear xp hoy hB hW hL hH;go_wp2;go_roundw
      case rel=>exact⟨k+1,by omega,by go_num,HO2.out,HW2.out,HB2.out⟩
      case measure=>simp[intOf];omega
  ·have hkk:k=F:=by omega
   subst hkk;go_wp2;go_ret
   exact⟨_,rfl,by rw[HR.out];exact OwnI.mono ho (by omega),hB⟩
theorem z4l (vn vl:Value) (ns ls:List Pr) (f:Nat) (w:World) (hn:RP w vn ns) (hl:RP w vl ls):
  Calls Tryz.prog 40 #[.agg #[vn,vl],.int .i64 f] w fun e w'=>e= .returned (.int .i64 (numN ns ls f))∧Below w.heap.size w w':=by
 have hb0:Below w.heap.size w (w.alloc (.cells #[vn,vl] 27)):=by exact bel_
 have HR:Hid (numN ns ls f=idxN (ordW ns ls) f+1):=Lib.hid rfl
 have hol:(ordW ns ls).length ≤40:=by
  unfold ordW;rw[k5];have:=xD ns ls (zb ns ls).length;have:=zL ns ls;omega
 go_enter Tryz.func40,Tryz.ntmps40
 go_wp2_with fail
 refine(z15 _ _ ns ls _ (hn.below hb0) (hl.below hb0)).mono ?_
 rintro e w1 ⟨v1,rfl,ho1,hb1⟩;have hbw1:=hb0.trans (hb1.mono hb0.size);have hr1:=ho1.reads;clear ho1 hb1 hn hl hb0;generalize ordW ns ls=l at*;obtain⟨A,c,rfl,hc,hm,hcell⟩:=hr1.form;rw[zc] at hc hm hcell⊢;clear hr1;go_wp2
 go_loop [6] (fun i=>∃k:Nat,k≤l.length∧i= .int .i64 k∧Hid (f∉l.take k)) (fun i=>l.length -(intOf i).toNat)
 case atStart=>exact⟨0,Nat.zero_le _,rfl,Lib.hid (by simp)⟩
 case round=>
  obtain⟨k,hk,rfl,HT⟩:=hrel
  by_cases hlt:k<l.length
  ·obtain⟨b,off,rfl,hb,hcl⟩:=hcell (by omega)
   have hck:=hcl k hlt;rw[qQ] at hck;clear hcl hcell;have HS:=Lib.hid (fun hne=>kU hlt HT.out hne);have HY:=Lib.hid (fun he=>z2i hlt HT.out he);have hlt1:(k:Int)<(l.length:Int):=by omega
   generalize l.getD k 0=x at*
   by_cases he:x=f
   ·have e1:((f:Int)==(x:Int))=true:=by simp[he]
    have e2:((x:Int)==(f:Int))=true:=by simp[he]
    have HX:=Lib.hid (HY.out he);clear he;go_wp2;go_ret
    exact⟨ze (by rw[HR.out,HX.out]),hbw1⟩
   ·have e1:((f:Int)==(x:Int))=false:=by simp;omega
    have e2:((x:Int)==(f:Int))=false:=by simp;omega
    have HX:=Lib.hid (HS.out he);clear he;go_wp2;go_round
    case rel=>exact⟨k+1,by omega,by go_num,HX⟩
    case measure=>simp[intOf];omega
  ·have hkk:l.length≤k:=by omega
   have h:=HT.out;rw[List.take_of_length_le hkk] at h;have HX:Hid (idxN l f= -1):=Lib.hid (z2c h);have hlt1:¬(k:Int)<(l.length:Int):=by omega
   clear h hcell;go_wp2;go_ret
   exact⟨ze (by rw[HR.out,HX.out];rfl),hbw1⟩
end Go.Proofs.YtnjcpljhmhdhkaaGreat
