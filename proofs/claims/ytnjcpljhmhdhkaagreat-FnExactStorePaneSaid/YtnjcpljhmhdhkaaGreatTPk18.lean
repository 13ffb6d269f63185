/- part 18 -/
import Derived.Test.YtnjcpljhmhdhkaaGreatTPk16
import Derived.Deep.RegionHeld3
set_option linter.unusedSimpArgs false
set_option linter.unusedVariables false
set_option maxRecDepth 100000
set_option maxHeartbeats 4000000
namespace Go.Proofs.YtnjcpljhmhdhkaaGreat
open Go.RowKit
attribute [local go_sem ↓] zu zw zY zZ
theorem vS (vn vl:Value) (ns ls:List Pr) (k:Int) (w:World) (hn:RP w vn ns) (hl:RP w vl ls) (hk:hasN ns ls k=true):
  Calls Tryz.prog 187 #[.agg #[vn,vl],.int .i64 k] w (RetI (natI (atN ls k ls.length)) w):=by
 have hw:winB ns ls=true:=(ko hk).1
 have hin:inB k 0 ((ns.length:Int) -1)=true:=by
  unfold hasN at hk;rw[Bool.and_eq_true] at hk;exact hk.2
 have hm20:=(zI.1 hw).2.2.1;obtain⟨An,cn,rfl,hcn,hmn,_⟩:=hn.formI;obtain⟨Al,cl,rfl,hcl,hml,hcelll⟩:=hl.formI;obtain⟨i0,hi,iz0,iz1,iz2⟩:=info_parts qu;unfold maxLen at hml hmn;clear hk
 go_enter Tryz.func187,Tryz.ntmps187
 go_wp2
 go_loopw [5,6] (fun v i wr=>∃j:Nat,j≤ls.length∧i= .int .i64 j∧OwnI (w.heap.size+1) wr v (natI (atN ls k j))∧Blk wr w.heap.size 27 #[.slice An ns.length cn,.slice Al ls.length cl]∧Below w.heap.size w wr) (fun _ i _=>ls.length -(intOf i).toNat)
 case atStart=>exact⟨0,Nat.zero_le _,rfl,OwnI.made (by simp) (by simp),(Blk.newAt rfl).alloc _,by exact bel_⟩
 case round=>
  obtain⟨j,hj,rfl,ho0,hW0,hbl0⟩:=hrel;have hsz0:=hW0.lt;obtain⟨a_0,a_1⟩:=hW0.c2
  by_cases hlt:j<ls.length
  ·have hlt1:(j:Int)<(ls.length:Int):=by omega
   go_wp2_with fail
   refine(zE _ _ ns ls _ _ (hn.below hbl0) (hl.below hbl0) hw).mono ?_
   rintro e w2 ⟨rfl,hb2⟩;have hz2:=hb2.size;have ho:=ho0.kept hb2;have hW:=hW0.below hb2 hsz0;have hbl:Below w.heap.size w w2:=hbl0.trans (hb2.mono hbl0.size);have hsz:=hW.lt;clear hb2 ho0 hW0 hbl0 a_0 a_1;obtain⟨a_0,a_1⟩:=hW.c2
   go_wp2_with fail
   refine(zF _ _ _ _ _ hin).mono ?_
   rintro e w' ⟨rfl,rfl⟩;obtain⟨b,off,rfl,hb,hcc⟩:=hcelll (by omega);obtain⟨k0,k1⟩:=hcc j hlt;have q0:=(hbl.cell (p:=⟨b,off+j*2,none⟩) hb).trans k0;have q1:=(hbl.cell (p:=⟨b,off+j*2+1,none⟩) hb).trans k1;have hi1:(0:Int)≤(j:Int):=by omega
   have hlen:=Zb ls k j;have hnl:=zc (atN ls k j);have HY:=Lib.hid (fun h=>Z3 (ls:=ls) (k:=k) (i:=j) h);have HN:=Lib.hid (fun h=>VN (ls:=ls) (k:=k) (i:=j) h);generalize atN ls k j=G at*;have HL:=Lib.hid hnl;clear hnl k0 k1 hcc hcelll;have hG:G.length≤20:=by omega
   obtain⟨A2,c2,rfl⟩:=ho.form;have hrow:∀b,(Value.slice A2 (natI G).length c2).ownBlock =some b→w.heap.size+1≤b:=fun b hb=>(ho.lt b hb).1
   cases ht:jk ls k j
   ·have HS:=Lib.hid (HN.out ht)
    obtain⟨e3,e4⟩:=Xr ht;have e1:((ndI ls j).1==k)=false:=beq_eq_false_iff_ne.2 e3;have e2:((ndI ls j).2==k)=false:=beq_eq_false_iff_ne.2 e4;clear ht HY HN;go_wp2;go_roundw
    case rel=>exact⟨j+1,by omega,by go_num,by rw[HS.out];exact ho,hW,hbl⟩
    case measure=>simp[intOf];omega
   ·have HS:=Lib.hid (HY.out ht)
    have hty:=fun h=>Qd ht h
    clear ht HY HN;generalize (ndI ls j).1=L1 at*;generalize (ndI ls j).2=L2 at*
    by_cases e3:L1=k
    ·subst e3
     clear hty
     go_wp2_with (at_builtin;refine wpList_append_own _ rfl _ _ 31 rfl (w.heap.size+1) 3 i0 (.int .i64 0) 1 8 Tryz.underlying31 hi iz0 iz1 iz2 rfl (by decide) _ _ _ rfl (World.ownsRow.alloc ho _) ⟨w2.heap.size,0,none⟩ 1 1 [.int .i64 _] rfl rfl (qX (by simp)) (by intro u hu;simp at hu;subst hu;rfl) (by rw[HL.out];unfold maxLen;omega) (by rw[HL.out];omega) (by simp;omega) ?_)
     intro v3 w3 hown3 hg3 _;have hW3:=(hW.alloc (.cells #[.int .i64 (j:Int)] 3)).grownR hg3 (fun b hb=>by have:=hrow b hb;omega);have hbl3:Below w.heap.size w w3:=(Below.alloc hbl (by omega) _).grown hg3 sz_ (fun b hb=>by have:=hrow b hb;omega)
     have HO:OwnI (w.heap.size+1) w3 v3 (natI (G++[j])):=by
      unfold natI;rw[List.map_append];exact OwnI.snoc hown3
     clear hown3 hg3 ho hW hbl;go_wp2;go_roundw
     case rel=>exact⟨j+1,by omega,by go_num,by rw[HS.out];exact HO,hW3,hbl3⟩
     case measure=>simp[intOf];omega
    ·have e4:=hty e3
     have e1:(L1==k)=false:=beq_eq_false_iff_ne.2 e3;clear hty;subst e4
     go_wp2_with (at_builtin;refine wpList_append_own _ rfl _ _ 31 rfl (w.heap.size+1) 3 i0 (.int .i64 0) 1 8 Tryz.underlying31 hi iz0 iz1 iz2 rfl (by decide) _ _ _ rfl (World.ownsRow.alloc ho _) ⟨w2.heap.size,0,none⟩ 1 1 [.int .i64 _] rfl rfl (qX (by simp)) (by intro u hu;simp at hu;subst hu;rfl) (by rw[HL.out];unfold maxLen;omega) (by rw[HL.out];omega) (by simp;omega) ?_)
     intro v3 w3 hown3 hg3 _;have hW3:=(hW.alloc (.cells #[.int .i64 (j:Int)] 3)).grownR hg3 (fun b hb=>by have:=hrow b hb;omega);have hbl3:Below w.heap.size w w3:=(Below.alloc hbl (by omega) _).grown hg3 sz_ (fun b hb=>by have:=hrow b hb;omega)
     have HO:OwnI (w.heap.size+1) w3 v3 (natI (G++[j])):=by
      unfold natI;rw[List.map_append];exact OwnI.snoc hown3
     clear hown3 hg3 ho hW hbl;go_wp2;go_roundw
     case rel=>exact⟨j+1,by omega,by go_num,by rw[HS.out];exact HO,hW3,hbl3⟩
     case measure=>simp[intOf];omega
  ·have hjj:j=ls.length:=by omega
   subst hjj;clear hcelll;go_wp2;go_ret
   exact⟨_,rfl,ho0.mono (show w.heap.size≤w.heap.size+1 by omega),hbl0⟩
theorem QC (vn vl:Value) (ns ls:List Pr) (k:Int) (w:World) (hn:RP w vn ns) (hl:RP w vl ls):
  Calls Tryz.prog 239 #[.agg #[vn,vl],.int .i64 k] w fun e w'=>e= .returned (.int .i64 (degI ns ls k))∧Below w.heap.size w w':=by
 obtain⟨An,cn,rfl,hcn,hmn,_⟩:=hn.formI;unfold maxLen at hmn
 cases hw:winB ns ls
 ·have HR:Hid (degI ns ls k= -1):=Lib.hid (by simp[degI,hasN,hw])
  go_enter Tryz.func239,Tryz.ntmps239
  go_wp2_with fail
  refine(zE _ _ ns ls _ _ (hn.below (by exact bel_)) (hl.below (by exact bel_)) hw).mono ?_
  rintro e w1 ⟨rfl,hb1⟩;(first|(with_reducible have hcf1:=z8 hb1)|have hcf1:=bcell hb1);obtain⟨hc1,hf1⟩:=hcf1;have hz1:=hb1.size;(try simp at hz1);(try have hp1_0:=p0_ w w1);(try have hp1_1:=p1_ w w1);(try have hp1_2:=p2_ w w1);(try have hp1_3:=p3_ w w1)
  go_wp2;go_ret
  exact⟨ze HR.out.symm,by exact bel_⟩
 cases hin:inB k 0 ((ns.length:Int) -1)
 ·have HR:Hid (degI ns ls k= -1):=Lib.hid (by simp[degI,hasN,hin])
  go_enter Tryz.func239,Tryz.ntmps239
  go_wp2_with fail
  refine(zE _ _ ns ls _ _ (hn.below (by exact bel_)) (hl.below (by exact bel_)) hw).mono ?_
  rintro e w1 ⟨rfl,hb1⟩;(first|(with_reducible have hcf1:=z8 hb1)|have hcf1:=bcell hb1);obtain⟨hc1,hf1⟩:=hcf1;have hz1:=hb1.size;(try simp at hz1);(try have hp1_0:=p0_ w w1);(try have hp1_1:=p1_ w w1);(try have hp1_2:=p2_ w w1);(try have hp1_3:=p3_ w w1)
  go_wp2_with fail
  refine(zF _ _ _ _ _ hin).mono ?_
  rintro e w' ⟨rfl,rfl⟩;go_wp2;go_ret
  exact⟨ze HR.out.symm,by exact bel_⟩
 ·have hk:hasN ns ls k=true:=by simp[hasN,hw,hin]
  have HR:Hid (degI ns ls k=((natI (atN ls k ls.length)).length :Int)):=Lib.hid (by simp[degI,hk,zc])
  go_enter Tryz.func239,Tryz.ntmps239
  go_wp2_with fail
  refine(zE _ _ ns ls _ _ (hn.below (by exact bel_)) (hl.below (by exact bel_)) hw).mono ?_
  rintro e w1 ⟨rfl,hb1⟩;(first|(with_reducible have hcf1:=z8 hb1)|have hcf1:=bcell hb1);obtain⟨hc1,hf1⟩:=hcf1;have hz1:=hb1.size;(try simp at hz1);(try have hp1_0:=p0_ w w1);(try have hp1_1:=p1_ w w1);(try have hp1_2:=p2_ w w1);(try have hp1_3:=p3_ w w1)
  have hbw1:Below w.heap.size w w1:=by exact bel_
  go_wp2_with fail
  refine(zF _ _ _ _ _ hin).mono ?_
  rintro e w' ⟨rfl,rfl⟩
  go_wp2_with fail
  refine(vS _ _ ns ls _ _ (hn.below hbw1) (hl.below hbw1) hk).mono ?_
  rintro e w2 ⟨v2,rfl,ho2,hb2⟩;obtain⟨A2,c2,rfl⟩:=ho2.form;have hbw2:Below w.heap.size w w2:=hbw1.trans (hb2.mono hbw1.size);go_wp2;go_ret
  exact⟨ze HR.out.symm,hbw2⟩
theorem kA (l:Pr) (k x:Int) (w:World) (h:othI l k=x):
  Calls Tryz.prog 188 #[.agg #[.int .i64 l.1,.int .i64 l.2],.int .i64 k] w fun e w'=>e= .returned (.int .i64 x)∧Below w.heap.size w w':=by
 subst h;exact z1r l.1 l.2 k w
theorem Jt (vn vl:Value) (ns ls:List Pr) (k:Int) (w:World) (hn:RP w vn ns) (hl:RP w vl ls):
  Calls Tryz.prog 186 #[.agg #[vn,vl],.int .i64 k] w fun e w'=>e= .returned (.bool (zJ ns ls k))∧Below w.heap.size w w':=by
 by_cases hd:degI ns ls k=2
 case neg=>
  have HR:Hid (zJ ns ls k=false):=Lib.hid (by simp[zJ,hd]);obtain⟨d,hdd⟩:∃d,degI ns ls k=d:=⟨_,rfl⟩;have hd2:(d != 2)=true:=by rw[←hdd];simpa using hd
  have HD:=Lib.hid hdd;clear hd hdd
  go_enter Tryz.func186,Tryz.ntmps186
  go_wp2_with fail
  refine(QC _ _ ns ls _ _ (hn.below (by exact bel_)) (hl.below (by exact bel_))).mono ?_
  rw[HD.out];rintro e w1 ⟨rfl,hb1⟩;(first|(with_reducible have hcf1:=z8 hb1)|have hcf1:=bcell hb1);obtain⟨hc1,hf1⟩:=hcf1;have hz1:=hb1.size;(try simp at hz1);(try have hp1_0:=p0_ w w1);(try have hp1_1:=p1_ w w1);(try have hp1_2:=p2_ w w1);(try have hp1_3:=p3_ w w1)
  go_wp2;go_ret
  exact⟨za HR.out.symm,by exact bel_⟩
 obtain⟨hk,h2⟩:=deg2 hd;obtain⟨hw,m,rfl,hm⟩:=ko hk;have hwin:=zI.1 hw;obtain⟨p,q,t,u,eG,hp,hq,eE,ht,hu,_,_,o1,o2⟩:=Zp hwin h2
 have HR:Hid (zJ ns ls m=jQ (ndI ns t).1 (ndI ns t).2 (ndI ns u).1 (ndI ns u).2 (ndI ns m).1 (ndI ns m).2):=Lib.hid (by
  unfold zJ;rw[hd,eE];simp[j8])
 have HD:=Lib.hid hd;have hn12:=hwin.2.1;obtain⟨An,cn,rfl,hcn,hmn,hcelln⟩:=hn.formI;obtain⟨Al,cl,rfl,hcl,hml,hcelll⟩:=hl.formI;unfold maxLen at hmn hml;obtain⟨bn,offn,rfl,hbn,hcc⟩:=hcelln (by omega);obtain⟨bl,offl,rfl,hbl,hcl2⟩:=hcelll (by omega);obtain⟨t0,t1⟩:=hcc t ht;obtain⟨u0,u1⟩:=hcc u hu;obtain⟨m0,m1⟩:=hcc m hm;obtain⟨p0,p1⟩:=hcl2 p hp;obtain⟨q0,q1⟩:=hcl2 q hq;have it1:(0:Int)≤(t:Int):=by omega
 have it2:(t:Int)<(ns.length:Int):=by omega
 have iu1:(0:Int)≤(u:Int):=by omega
 have iu2:(u:Int)<(ns.length:Int):=by omega
 have im1:(0:Int)≤(m:Int):=by omega
 have im2:(m:Int)<(ns.length:Int):=by omega
 have ip1:(0:Int)≤(p:Int):=by omega
 have ip2:(p:Int)<(ls.length:Int):=by omega
 have iq1:(0:Int)≤(q:Int):=by omega
 have iq2:(q:Int)<(ls.length:Int):=by omega
 have HG:=Lib.hid eG;have O1:=Lib.hid o1;have O2:=Lib.hid o2;clear hd eG eE hwin hcelln hcc hcelll hcl2 o1 o2
 go_enter Tryz.func186,Tryz.ntmps186
 go_wp2_with fail
 refine(QC _ _ ns ls _ _ (hn.below (by exact bel_)) (hl.below (by exact bel_))).mono ?_
 rw[HD.out];rintro e w1 ⟨rfl,hb1⟩;(first|(with_reducible have hcf1:=z8 hb1)|have hcf1:=bcell hb1);obtain⟨hc1,hf1⟩:=hcf1;have hz1:=hb1.size;(try simp at hz1);(try have hp1_0:=p0_ w w1);(try have hp1_1:=p1_ w w1);(try have hp1_2:=p2_ w w1);(try have hp1_3:=p3_ w w1)
 have hW1:Blk w1 w.heap.size 27 #[.slice (some ⟨bn,offn,none⟩) ns.length cn,.slice (some ⟨bl,offl,none⟩) ls.length cl]:=Blk.below (Blk.newAt rfl) hb1 sz_;have hbw1:Below w.heap.size w w1:=by exact bel_
 clear hb1 hc1 hf1;obtain⟨a_0,a_1⟩:=hW1.c2
 go_wp2_with fail
 refine(vS _ _ ns ls _ _ (hn.below hbw1) (hl.below hbw1) hk).mono ?_
 rw[HG.out];rintro e w2 ⟨v2,rfl,ho2,hb2⟩;have hz2:=hb2.size;have hW2:=hW1.below hb2 hW1.lt;have hbw2:Below w.heap.size w w2:=hbw1.trans (hb2.mono hbw1.size);obtain⟨A2,c2,e2,hc2,_,hcell2⟩:=ho2.reads.form;subst e2;obtain⟨b2,o2,rfl,hb2',hcl2⟩:=hcell2 (by simp[natI]);have x0:=hcl2 0 (by simp[natI]);have x1:=hcl2 1 (by simp[natI]);simp only[natI,List.map_cons,List.map_nil,List.getD_cons_zero,List.getD_cons_succ,Nat.add_zero] at x0 x1
 have c0:=(hbw2.cell (p:=⟨bn,offn+t*2,none⟩) hbn).trans t0;have c1':=(hbw2.cell (p:=⟨bn,offn+t*2+1,none⟩) hbn).trans t1;have c3:=(hbw2.cell (p:=⟨bn,offn+u*2,none⟩) hbn).trans u0;have c4:=(hbw2.cell (p:=⟨bn,offn+u*2+1,none⟩) hbn).trans u1;have c5:=(hbw2.cell (p:=⟨bn,offn+m*2,none⟩) hbn).trans m0;have c6:=(hbw2.cell (p:=⟨bn,offn+m*2+1,none⟩) hbn).trans m1;have l0:=(hbw2.cell (p:=⟨bl,offl+p*2,none⟩) hbl).trans p0;have l1:=(hbw2.cell (p:=⟨bl,offl+p*2+1,none⟩) hbl).trans p1;have l2:=(hbw2.cell (p:=⟨bl,offl+q*2,none⟩) hbl).trans q0;have l3:=(hbw2.cell (p:=⟨bl,offl+q*2+1,none⟩) hbl).trans q1;have z1:w.heap.size<w2.heap.size:=hW2.lt;have z2:bn<w2.heap.size:=by omega
 have z3:bl<w2.heap.size:=by omega
 have z1':w.heap.size<w2.heap.size+1:=by omega
 have z2':bn<w2.heap.size+1:=by omega
 have z3':bl<w2.heap.size+1:=by omega
 have z4':b2<w2.heap.size+1:=by omega
 have hln:(natI [p,q]).length =2:=rfl;have ne1:w2.heap.size≠w.heap.size:=by omega
 have ne2:w2.heap.size≠bn:=by omega
 have ne3:w2.heap.size≠bl:=by omega
 have ne4:w2.heap.size≠b2:=by omega
 clear hb2 hW1 hbw1 a_0 a_1 ho2 hcl2 hcell2 t0 t1 u0 u1 m0 m1 p0 p1 q0 q1;obtain⟨a_0,a_1⟩:=hW2.c2;rw[hln]
 go_wp2_with fail
 go_cut [6] (fun s6 wx=>∃x:Nat,s6= .pointer (some ⟨x,0,none⟩)∧Below w2.heap.size w2 wx∧x<wx.heap.size∧(wx.cell? ⟨x,0,none⟩=some (.int .i64 (ndI ns t).1)∧wx.cell? ⟨x,1,none⟩=some (.int .i64 (ndI ns t).2)))
 case first=>
  go_region_held3 (fun w'=>w'.cell? ⟨w.heap.size,0,none⟩=some (.slice (some ⟨bn,offn,none⟩) ns.length cn)∧w'.cell? ⟨w.heap.size,1,none⟩=some (.slice (some ⟨bl,offl,none⟩) ls.length cl)∧w'.cell? ⟨b2,o2,none⟩=some (.int .i64 p)∧w'.cell? ⟨bl,offl+p*2,none⟩=some (.int .i64 (ndI ls p).1)∧w'.cell? ⟨bl,offl+p*2+1,none⟩=some (.int .i64 (ndI ls p).2)∧w'.cell? ⟨bn,offn+t*2,none⟩=some (.int .i64 (ndI ns t).1)∧w'.cell? ⟨bn,offn+t*2+1,none⟩=some (.int .i64 (ndI ns t).2))
   (go_keep)
   (first|(go_at_call 188;refine(kA (ndI ls p) _ _ _ O1.out).mono ?_;rintro e w3 ⟨rfl,hb3⟩;(first|(with_reducible have hcf3:=z8 hb3)|have hcf3:=bcell hb3);obtain⟨hc3,hf3⟩:=hcf3;have hz3:=hb3.size;(try simp at hz3);(try have hp3_0:=p0_ w w3);(try have hp3_1:=p1_ w w3);(try have hp3_2:=p2_ w w3);(try have hp3_3:=p3_ w w3);(have y1:bn<w3.heap.size:=by omega);(have y2:bl<w3.heap.size:=by omega);(have y3:b2<w3.heap.size:=by omega)))
  all_goals go_wp2
  all_goals go_meet
  all_goals exact⟨_,rfl,by exact bel_,by first|omega|(simp;done)|(simp;omega),by first|(simp;done)|(simp[go_sem,hc3];done),by first|(simp;done)|(simp[go_sem,hc3];done)⟩
 case rest=>
  obtain⟨x,rfl,hbc,hx,f0,f1⟩:=hcut;obtain⟨w4,hw4⟩:∃w4:World,w4=wc:=⟨_,rfl⟩;subst hw4;have hz4:=hbc.size;have hW4:=hW2.below hbc hW2.lt;have x1':=(hbc.cell (p:=⟨b2,o2+1,none⟩) hb2').trans x1;have d3:=(hbc.cell (p:=⟨bn,offn+u*2,none⟩) z2).trans c3;have d4:=(hbc.cell (p:=⟨bn,offn+u*2+1,none⟩) z2).trans c4;have d5:=(hbc.cell (p:=⟨bn,offn+m*2,none⟩) z2).trans c5;have d6:=(hbc.cell (p:=⟨bn,offn+m*2+1,none⟩) z2).trans c6;have d7:=(hbc.cell (p:=⟨bl,offl+q*2,none⟩) z3).trans l2;have d8:=(hbc.cell (p:=⟨bl,offl+q*2+1,none⟩) z3).trans l3;have hbw4:Below w.heap.size w w4:=hbw2.trans (hbc.mono hbw2.size);have y1:w.heap.size<w4.heap.size:=hW4.lt;have y2:bn<w4.heap.size:=by omega
  have y3:bl<w4.heap.size:=by omega
  have y4:b2<w4.heap.size:=by omega
  have y1':w.heap.size<w4.heap.size+1:=by omega
  have y2':bn<w4.heap.size+1:=by omega
  have y3':bl<w4.heap.size+1:=by omega
  have y4':b2<w4.heap.size+1:=by omega
  have me1:w4.heap.size≠w.heap.size:=by omega
  have me2:w4.heap.size≠bn:=by omega
  have me3:w4.heap.size≠bl:=by omega
  have me4:w4.heap.size≠b2:=by omega
  clear hbc hW2 x0 x1 c0 c1' c3 c4 c5 c6 l0 l1 l2 l3 a_0 a_1 hbw2 ne1 ne2 ne3 ne4 z1' z2' z3' z4';obtain⟨a_0,a_1⟩:=hW4.c2
  go_wp2_with fail
  go_cut [7] (fun s7 wx=>∃y:Nat,s7= .pointer (some ⟨y,0,none⟩)∧Below w4.heap.size w4 wx∧y<wx.heap.size∧(wx.cell? ⟨y,0,none⟩=some (.int .i64 (ndI ns u).1)∧wx.cell? ⟨y,1,none⟩=some (.int .i64 (ndI ns u).2)))
  case first=>
   go_region_held3 (fun w'=>w'.cell? ⟨w.heap.size,0,none⟩=some (.slice (some ⟨bn,offn,none⟩) ns.length cn)∧w'.cell? ⟨w.heap.size,1,none⟩=some (.slice (some ⟨bl,offl,none⟩) ls.length cl)∧w'.cell? ⟨b2,o2+1,none⟩=some (.int .i64 q)∧w'.cell? ⟨bl,offl+q*2,none⟩=some (.int .i64 (ndI ls q).1)∧w'.cell? ⟨bl,offl+q*2+1,none⟩=some (.int .i64 (ndI ls q).2)∧w'.cell? ⟨bn,offn+u*2,none⟩=some (.int .i64 (ndI ns u).1)∧w'.cell? ⟨bn,offn+u*2+1,none⟩=some (.int .i64 (ndI ns u).2))
    (go_keep)
    (first|(go_at_call 188;refine(kA (ndI ls q) _ _ _ O2.out).mono ?_;rintro e w3 ⟨rfl,hb3⟩;(first|(with_reducible have hcf3:=z8 hb3)|have hcf3:=bcell hb3);obtain⟨hc3,hf3⟩:=hcf3;have hz3:=hb3.size;(try simp at hz3);(try have hp3_0:=p0_ w w3);(try have hp3_1:=p1_ w w3);(try have hp3_2:=p2_ w w3);(try have hp3_3:=p3_ w w3);(have y1:bn<w3.heap.size:=by omega);(have y2:bl<w3.heap.size:=by omega);(have y3:b2<w3.heap.size:=by omega)))
   all_goals go_wp2
   all_goals go_meet
   all_goals exact⟨_,rfl,by exact bel_,by first|omega|(simp;done)|(simp;omega),by first|(simp;done)|(simp[go_sem,hc3];done),by first|(simp;done)|(simp[go_sem,hc3];done)⟩
  case rest=>
   obtain⟨y,rfl,hbc,hy,f2,f3⟩:=hcut;obtain⟨w5,hw5⟩:∃w5:World,w5=wc:=⟨_,rfl⟩;subst hw5;have hz5:=hbc.size;have hW5:=hW4.below hbc hW4.lt;have g0:=(hbc.cell (p:=⟨x,0,none⟩) hx).trans f0;have g1:=(hbc.cell (p:=⟨x,1,none⟩) hx).trans f1;have g5:=(hbc.cell (p:=⟨bn,offn+m*2,none⟩) y2).trans d5;have g6:=(hbc.cell (p:=⟨bn,offn+m*2+1,none⟩) y2).trans d6;have hbw5:Below w.heap.size w w5:=hbw4.trans (hbc.mono hbw4.size);have e1:w.heap.size<w5.heap.size:=hW5.lt;have e2:bn<w5.heap.size:=by omega
   have e3:x<w5.heap.size:=by omega
   clear hbc hW4 f0 f1 d3 d4 d5 d6 d7 d8 a_0 a_1 hbw4 x1' hx;obtain⟨a_0,a_1⟩:=hW5.c2
   go_wp2_with fail
   (refine z9 (by kernel_rfl) (by kernel_rfl) (fun hG=>?_))
   repeat (go_big_quiet_step ((go_at_call 240;exact zv (vM _ _ _ _ _ _ _))))
   (refine wpQuiet_nil ?_);(clear hG);(rintro w6 ⟨⟨_,hb6⟩,rfl⟩);(try dsimp only);(first|(with_reducible have hcf6:=z8 hb6)|have hcf6:=bcell hb6);obtain⟨hc6,hf6⟩:=hcf6;have hz6:=hb6.size;(try simp at hz6);(try have hp6_0:=p0_ w w6);(try have hp6_1:=p1_ w w6);(try have hp6_2:=p2_ w w6);(try have hp6_3:=p3_ w w6)
   go_wp2;go_ret
   exact⟨za HR.out.symm,by exact bel_⟩
end Go.Proofs.YtnjcpljhmhdhkaaGreat
