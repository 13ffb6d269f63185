/- part 12 -/
import Derived.Test.YtnjcpljhmhdhkaaGreatUPk5
import Derived.Deep.RegionHeld3
set_option linter.unusedSimpArgs false
set_option linter.unusedVariables false
set_option maxRecDepth 100000
set_option maxHeartbeats 4000000
namespace Go.Proofs.YtnjcpljhmhdhkaaGreat
open Go.RowKit
attribute [local go_sem ↓] zv zu qb qf
theorem xc (vn vl:Value) (ns ls:List Pr) (k:Int) (w:World) (hn:RP w vn ns) (hl:RP w vl ls) (hk:hasN ns ls k=true):
  Calls Tryz.prog 187 #[.agg #[vn,vl],.int .i64 k] w (RetI (natI (atN ls k ls.length)) w):=by
 have hw:winB ns ls=true:=(xS hk).1
 have Gp:inB k 0 ((ns.length:Int) -1)=true:=by
  unfold hasN at hk;rw[aaH] at hk;exact hk.2
 have GW:=(zD.1 hw).2.2.1;obtain⟨An,cn,rfl,ci,fC,_⟩:=hn.formI;obtain⟨Al,cl,rfl,Ho,GO,gx⟩:=hl.formI;obtain⟨i0,hi,iz0,iz1,iz2⟩:=info_parts ql;unfold maxLen at GO fC;clear hk
 go_enter Tryz.func187,Tryz.ntmps187
 go_wp2
 go_loopw [5,6] (fun v i wr=>∃j:Nat,j<=ls.length/\i= .int .i64 j/\OwnI (w.heap.size+1) wr v (natI (atN ls k j))/\Blk wr w.heap.size 27 #[.slice An ns.length cn,.slice Al ls.length cl]/\Below w.heap.size w wr) (fun _ i _=>ls.length -(intOf i).toNat)
 case atStart=>exact⟨0,aab _,rfl,OwnI.made (by simp) (by simp),(Blk.newAt rfl).alloc _,by exact bel_⟩
 case round=>
  obtain⟨j,hj,rfl,Na,gD,fW⟩:=hrel;have hsz0:=gD.lt;obtain⟨a_0,a_1⟩:=gD.c2
  by_cases Hd:j<ls.length
  ·have Hr:(j:Int)<(ls.length:Int):=o_
   go_wp2_with fail
   refine(zJ _ _ ns ls _ _ (hn.below fW) (hl.below fW) hw).mono ?_
   rintro e w2 ⟨rfl,He⟩;have ho:=Na.kept He;have hW:=gD.below He hsz0;have Hb:Below w.heap.size w w2:=fW.trans (He.mono fW.size);have gj:=hW.lt;clear He Na gD fW a_0 a_1;obtain⟨a_0,a_1⟩:=hW.c2
   go_wp2_with fail
   refine(zN _ _ _ _ _ Gp).mono ?_
   rintro e w' ⟨rfl,rfl⟩;obtain⟨b,off,rfl,hb,Gq⟩:=gx o_;obtain⟨k0,k1⟩:=Gq j Hd;have q0:=(Hb.cell (p:=⟨b,off+j*2,none⟩) hb).trans k0;have q1:=(Hb.cell (p:=⟨b,off+j*2+1,none⟩) hb).trans k1;have FT:(0:Int)<=(j:Int):=o_
   have Hi:=V7 ls k j;have fG:=za (atN ls k j);have HY:=h_ (fun h=>V6 (ls:=ls) (k:=k) (i:=j) h);have HN:=h_ (fun h=>z1z (ls:=ls) (k:=k) (i:=j) h);generalize atN ls k j=G at*;have HL:=h_ fG;clear fG k0 k1 Gq gx;have hG:G.length<=20:=o_
   obtain⟨A2,c2,rfl⟩:=ho.form;have Hk:∀b,(Value.slice A2 (natI G).length c2).ownBlock =some b->w.heap.size+1<=b:=fun b hb=>(ho.lt b hb).1
   cases ht:jR ls k j
   ·have HS:=h_ (HN.out ht)
    obtain⟨e3,e4⟩:=z34 ht;have e1:((ndI ls j).1==k)=false:=beq_eq_false_iff_ne.2 e3;have e2:((ndI ls j).2==k)=false:=beq_eq_false_iff_ne.2 e4;clear ht HY HN;go_wp2;go_roundw
    case rel=>exact⟨j+1,by omega,by go_num,by rw[HS.out];exact ho,hW,Hb⟩
    case measure=>simp[intOf];omega
   ·have HS:=h_ (HY.out ht)
    have uR:=fun h=>Jp ht h
    clear ht HY HN;generalize (ndI ls j).1=L1 at*;generalize (ndI ls j).2=L2 at*
    by_cases e3:L1=k
    ·subst e3
     clear uR
     go_wp2_with (at_builtin;refine wpList_append_own _ rfl _ _ 31 rfl (w.heap.size+1) 3 i0 (.int .i64 0) 1 8 Tryz.underlying31 hi iz0 iz1 iz2 rfl (by decide) _ _ _ rfl (World.ownsRow.alloc ho _) ⟨w2.heap.size,0,none⟩ 1 1 [.int .i64 _] rfl rfl (jl (by simp)) (by intro u hu;simp at hu;subst hu;rfl) (by rw[HL.out];unfold maxLen;omega) (by rw[HL.out];omega) (by simp;omega) ?_)
     intro v3 w3 Cu gM _;have GJ:=(hW.alloc (.cells #[.int .i64 (j:Int)] 3)).grownR gM (fun b hb=>by have:=Hk b hb;omega);have gz:Below w.heap.size w w3:=(Below.alloc Hb o_ _).grown gM sz_ (fun b hb=>by have:=Hk b hb;omega)
     have HO:OwnI (w.heap.size+1) w3 v3 (natI (G++[j])):=by
      unfold natI;rw[aaA];exact OwnI.snoc Cu
     clear Cu gM ho hW Hb;go_wp2;go_roundw
     case rel=>exact⟨j+1,by omega,by go_num,by rw[HS.out];exact HO,GJ,gz⟩
     case measure=>simp[intOf];omega
    ·have e4:=uR e3
     have e1:(L1==k)=false:=beq_eq_false_iff_ne.2 e3;clear uR;subst e4
     go_wp2_with (at_builtin;refine wpList_append_own _ rfl _ _ 31 rfl (w.heap.size+1) 3 i0 (.int .i64 0) 1 8 Tryz.underlying31 hi iz0 iz1 iz2 rfl (by decide) _ _ _ rfl (World.ownsRow.alloc ho _) ⟨w2.heap.size,0,none⟩ 1 1 [.int .i64 _] rfl rfl (jl (by simp)) (by intro u hu;simp at hu;subst hu;rfl) (by rw[HL.out];unfold maxLen;omega) (by rw[HL.out];omega) (by simp;omega) ?_)
     intro v3 w3 Cu gM _;have GJ:=(hW.alloc (.cells #[.int .i64 (j:Int)] 3)).grownR gM (fun b hb=>by have:=Hk b hb;omega);have gz:Below w.heap.size w w3:=(Below.alloc Hb o_ _).grown gM sz_ (fun b hb=>by have:=Hk b hb;omega)
     have HO:OwnI (w.heap.size+1) w3 v3 (natI (G++[j])):=by
      unfold natI;rw[aaA];exact OwnI.snoc Cu
     clear Cu gM ho hW Hb;go_wp2;go_roundw
     case rel=>exact⟨j+1,by omega,by go_num,by rw[HS.out];exact HO,GJ,gz⟩
     case measure=>simp[intOf];omega
  ·have GV:j=ls.length:=o_
   subst GV;clear gx;go_wp2;go_ret
   exact⟨_,rfl,Na.mono (show w.heap.size<=w.heap.size+1 by omega),fW⟩
theorem JF (vn vl:Value) (ns ls:List Pr) (k:Int) (w:World) (hn:RP w vn ns) (hl:RP w vl ls):
  CB_ 239 #[.agg #[vn,vl],.int .i64 k] w (.int .i64 (degI ns ls k)):=by
 obtain⟨An,cn,rfl,ci,fC,_⟩:=hn.formI;unfold maxLen at fC
 cases hw:winB ns ls
 ·have HR:Hid (degI ns ls k= -1):=h_ (by simp[degI,hasN,hw])
  go_enter Tryz.func239,Tryz.ntmps239
  go_wp2_with fail
  refine(zJ _ _ ns ls _ _ (hn.below bel_) (hl.below bel_) hw).mono ?_
  rintro e w1 ⟨rfl,h9⟩;go_wp2;go_ret
  exact⟨zb HR.out.symm,by exact bel_⟩
 cases Gp:inB k 0 ((ns.length:Int) -1)
 ·have HR:Hid (degI ns ls k= -1):=h_ (by simp[degI,hasN,Gp])
  go_enter Tryz.func239,Tryz.ntmps239
  go_wp2_with fail
  refine(zJ _ _ ns ls _ _ (hn.below bel_) (hl.below bel_) hw).mono ?_
  rintro e w1 ⟨rfl,h9⟩;(have Gb:=bcC h9)
  go_wp2_with fail
  refine(zN _ _ _ _ _ Gp).mono ?_
  rintro e w' ⟨rfl,rfl⟩;go_wp2;go_ret
  exact⟨zb HR.out.symm,by exact bel_⟩
 ·have hk:hasN ns ls k=true:=by simp[hasN,hw,Gp]
  have HR:Hid (degI ns ls k=((natI (atN ls k ls.length)).length :Int)):=h_ (by simp[degI,hk,za])
  go_enter Tryz.func239,Tryz.ntmps239
  go_wp2_with fail
  refine(zJ _ _ ns ls _ _ (hn.below bel_) (hl.below bel_) hw).mono ?_
  rintro e w1 ⟨rfl,h9⟩;(have Gb:=bcC h9)
  have h8:Below w.heap.size w w1:=bel_
  go_wp2_with fail
  refine(zN _ _ _ _ _ Gp).mono ?_
  rintro e w' ⟨rfl,rfl⟩
  go_wp2_with fail
  refine(xc _ _ ns ls _ _ (hn.below h8) (hl.below h8) hk).mono ?_
  rintro e w2 ⟨v2,rfl,Hm,He⟩;obtain⟨A2,c2,rfl⟩:=Hm.form;have Ha:Below w.heap.size w w2:=h8.trans (He.mono h8.size);go_wp2;go_ret
  exact⟨zb HR.out.symm,Ha⟩
theorem Qt (l:Pr) (k x:Int) (w:World) (h:othI l k=x):
  CB_ 188 #[.agg #[.int .i64 l.1,.int .i64 l.2],.int .i64 k] w (.int .i64 x):=by
 subst h;exact z4E l.1 l.2 k w
theorem z0c (vn vl:Value) (ns ls:List Pr) (k:Int) (w:World) (hn:RP w vn ns) (hl:RP w vl ls):
  CB_ 186 #[.agg #[vn,vl],.int .i64 k] w (.bool (zP ns ls k)):=by
 by_cases hd:degI ns ls k=2
 case neg=>
  have HR:Hid (zP ns ls k=false):=h_ (by simp[zP,hd]);obtain⟨d,CU⟩:∃d,degI ns ls k=d:=⟨_,rfl⟩;have hd2:(d != 2)=true:=by rw[<-CU];simpa using hd
  have HD:=h_ CU
  go_enter Tryz.func186,Tryz.ntmps186
  go_wp2_with fail
  refine(JF _ _ ns ls _ _ (hn.below bel_) (hl.below bel_)).mono ?_
  rw[HD.out];rintro e w1 ⟨rfl,h9⟩;go_wp2;go_ret
  exact⟨z8 HR.out.symm,by exact bel_⟩
 obtain⟨hk,h2⟩:=deg2 hd;obtain⟨hw,m,rfl,hm⟩:=xS hk;have Hn:=zD.1 hw;obtain⟨p,q,t,u,eG,hp,hq,eE,ht,hu,_,_,o1,o2⟩:=VV Hn h2
 have HR:Hid (zP ns ls m=yI (ndI ns t).1 (ndI ns t).2 (ndI ns u).1 (ndI ns u).2 (ndI ns m).1 (ndI ns m).2):=h_ (by
  unfold zP;rw[hd,eE];simp[jE])
 have HD:=h_ hd;have ck:=Hn.2.1;obtain⟨An,cn,rfl,ci,fC,Ht⟩:=hn.formI;obtain⟨Al,cl,rfl,Ho,GO,gx⟩:=hl.formI;unfold maxLen at fC GO;obtain⟨bn,offn,rfl,GE,Gq⟩:=Ht o_;obtain⟨bl,offl,rfl,Hb,GG⟩:=gx o_;obtain⟨t0,t1⟩:=Gq t ht;obtain⟨u0,u1⟩:=Gq u hu;obtain⟨m0,m1⟩:=Gq m hm;obtain⟨p0,p1⟩:=GG p hp;obtain⟨q0,q1⟩:=GG q hq;have it1:(0:Int)<=(t:Int):=o_
 have it2:(t:Int)<(ns.length:Int):=o_
 have iu1:(0:Int)<=(u:Int):=o_
 have iu2:(u:Int)<(ns.length:Int):=o_
 have im1:(0:Int)<=(m:Int):=o_
 have im2:(m:Int)<(ns.length:Int):=o_
 have ip1:(0:Int)<=(p:Int):=o_
 have ip2:(p:Int)<(ls.length:Int):=o_
 have iq1:(0:Int)<=(q:Int):=o_
 have iq2:(q:Int)<(ls.length:Int):=o_
 have HG:=h_ eG;have O1:=h_ o1;have O2:=h_ o2
 go_enter Tryz.func186,Tryz.ntmps186
 go_wp2_with fail
 refine(JF _ _ ns ls _ _ (hn.below bel_) (hl.below bel_)).mono ?_
 rw[HD.out];rintro e w1 ⟨rfl,h9⟩;have gg:Blk w1 w.heap.size 27 #[.slice (some ⟨bn,offn,none⟩) ns.length cn,.slice (some ⟨bl,offl,none⟩) ls.length cl]:=Blk.below (Blk.newAt rfl) h9 sz_;have h8:Below w.heap.size w w1:=bel_
 obtain⟨a_0,a_1⟩:=gg.c2
 go_wp2_with fail
 refine(xc _ _ ns ls _ _ (hn.below h8) (hl.below h8) hk).mono ?_
 rw[HG.out];rintro e w2 ⟨v2,rfl,Hm,He⟩;have gV:=gg.below He gg.lt;have Ha:Below w.heap.size w w2:=h8.trans (He.mono h8.size);obtain⟨A2,c2,e2,fa,_,GX⟩:=Hm.reads.form;subst e2;obtain⟨b2,o2,rfl,NE,GG⟩:=GX (by simp[natI]);have x0:=GG 0 (by simp[natI]);have x1:=GG 1 (by simp[natI]);simp only[natI,aaT,aaU,List.getD_cons_zero,List.getD_cons_succ,aaf] at x0 x1
 have c0:=(Ha.cell (p:=⟨bn,offn+t*2,none⟩) GE).trans t0;have c1':=(Ha.cell (p:=⟨bn,offn+t*2+1,none⟩) GE).trans t1;have c3:=(Ha.cell (p:=⟨bn,offn+u*2,none⟩) GE).trans u0;have c4:=(Ha.cell (p:=⟨bn,offn+u*2+1,none⟩) GE).trans u1;have c5:=(Ha.cell (p:=⟨bn,offn+m*2,none⟩) GE).trans m0;have c6:=(Ha.cell (p:=⟨bn,offn+m*2+1,none⟩) GE).trans m1;have l0:=(Ha.cell (p:=⟨bl,offl+p*2,none⟩) Hb).trans p0;have l1:=(Ha.cell (p:=⟨bl,offl+p*2+1,none⟩) Hb).trans p1;have l2:=(Ha.cell (p:=⟨bl,offl+q*2,none⟩) Hb).trans q0;have l3:=(Ha.cell (p:=⟨bl,offl+q*2+1,none⟩) Hb).trans q1;have z1:w.heap.size<w2.heap.size:=gV.lt;have z2:bn<w2.heap.size:=o_
 have z3:bl<w2.heap.size:=o_
 have z1':w.heap.size<w2.heap.size+1:=o_
 have z2':bn<w2.heap.size+1:=o_
 have z3':bl<w2.heap.size+1:=o_
 have z4':b2<w2.heap.size+1:=o_
 have hln:(natI [p,q]).length =2:=rfl;have ne1:w2.heap.size≠w.heap.size:=o_
 have ne2:w2.heap.size≠bn:=o_
 have ne3:w2.heap.size≠bl:=o_
 have ne4:w2.heap.size≠b2:=o_
 obtain⟨a_0,a_1⟩:=gV.c2;rw[hln]
 go_wp2_with fail
 go_cut [6] (fun s6 wx=>∃x:Nat,s6= .pointer (some ⟨x,0,none⟩)/\Below w2.heap.size w2 wx/\x<wx.heap.size/\(wx.cell? ⟨x,0,none⟩=some (.int .i64 (ndI ns t).1)/\wx.cell? ⟨x,1,none⟩=some (.int .i64 (ndI ns t).2)))
 case first=>
  go_region_held3 (fun w'=>w'.cell? ⟨w.heap.size,0,none⟩=some (.slice (some ⟨bn,offn,none⟩) ns.length cn)/\w'.cell? ⟨w.heap.size,1,none⟩=some (.slice (some ⟨bl,offl,none⟩) ls.length cl)/\w'.cell? ⟨b2,o2,none⟩=some (.int .i64 p)/\w'.cell? ⟨bl,offl+p*2,none⟩=some (.int .i64 (ndI ls p).1)/\w'.cell? ⟨bl,offl+p*2+1,none⟩=some (.int .i64 (ndI ls p).2)/\w'.cell? ⟨bn,offn+t*2,none⟩=some (.int .i64 (ndI ns t).1)/\w'.cell? ⟨bn,offn+t*2+1,none⟩=some (.int .i64 (ndI ns t).2))
   (go_keep)
   (first|(go_at_call 188;refine(Qt (ndI ls p) _ _ _ O1.out).mono ?_;rintro e w3 ⟨rfl,Hf⟩;(have fU:=bdC Hf);(have uu:=bdF Hf);have fA:=Hf.size;(try simp at fA)))
  all_goals go_wp2
  all_goals go_meet
  all_goals exact⟨_,rfl,by exact bel_,by first|omega|(simp;done)|(simp;omega),by first|(simp;done)|(simp[go_sem,fU];done),by first|(simp;done)|(simp[go_sem,fU];done)⟩
 case rest=>
  obtain⟨x,rfl,Gs,hx,f0,f1⟩:=hcut;obtain⟨w4,mw⟩:∃w4:World,w4=wc:=⟨_,rfl⟩;subst mw;have Bg:=Gs.size;have bV:=gV.below Gs gV.lt;have x1':=(Gs.cell (p:=⟨b2,o2+1,none⟩) NE).trans x1;have d3:=(Gs.cell (p:=⟨bn,offn+u*2,none⟩) z2).trans c3;have d4:=(Gs.cell (p:=⟨bn,offn+u*2+1,none⟩) z2).trans c4;have d5:=(Gs.cell (p:=⟨bn,offn+m*2,none⟩) z2).trans c5;have d6:=(Gs.cell (p:=⟨bn,offn+m*2+1,none⟩) z2).trans c6;have d7:=(Gs.cell (p:=⟨bl,offl+q*2,none⟩) z3).trans l2;have d8:=(Gs.cell (p:=⟨bl,offl+q*2+1,none⟩) z3).trans l3;have Hp:Below w.heap.size w w4:=Ha.trans (Gs.mono Ha.size);have y1:w.heap.size<w4.heap.size:=bV.lt;have y2:bn<w4.heap.size:=o_
  have y3:bl<w4.heap.size:=o_
  have y4:b2<w4.heap.size:=o_
  have y1':w.heap.size<w4.heap.size+1:=o_
  have y2':bn<w4.heap.size+1:=o_
  have y3':bl<w4.heap.size+1:=o_
  have y4':b2<w4.heap.size+1:=o_
  have me1:w4.heap.size≠w.heap.size:=o_
  have me2:w4.heap.size≠bn:=o_
  have me3:w4.heap.size≠bl:=o_
  have me4:w4.heap.size≠b2:=o_
  obtain⟨a_0,a_1⟩:=bV.c2
  go_wp2_with fail
  go_cut [7] (fun s7 wx=>∃y:Nat,s7= .pointer (some ⟨y,0,none⟩)/\Below w4.heap.size w4 wx/\y<wx.heap.size/\(wx.cell? ⟨y,0,none⟩=some (.int .i64 (ndI ns u).1)/\wx.cell? ⟨y,1,none⟩=some (.int .i64 (ndI ns u).2)))
  case first=>
   go_region_held3 (fun w'=>w'.cell? ⟨w.heap.size,0,none⟩=some (.slice (some ⟨bn,offn,none⟩) ns.length cn)/\w'.cell? ⟨w.heap.size,1,none⟩=some (.slice (some ⟨bl,offl,none⟩) ls.length cl)/\w'.cell? ⟨b2,o2+1,none⟩=some (.int .i64 q)/\w'.cell? ⟨bl,offl+q*2,none⟩=some (.int .i64 (ndI ls q).1)/\w'.cell? ⟨bl,offl+q*2+1,none⟩=some (.int .i64 (ndI ls q).2)/\w'.cell? ⟨bn,offn+u*2,none⟩=some (.int .i64 (ndI ns u).1)/\w'.cell? ⟨bn,offn+u*2+1,none⟩=some (.int .i64 (ndI ns u).2))
    (go_keep)
    (first|(go_at_call 188;refine(Qt (ndI ls q) _ _ _ O2.out).mono ?_;rintro e w3 ⟨rfl,Hf⟩;(have fU:=bdC Hf);(have uu:=bdF Hf);have fA:=Hf.size;(try simp at fA)))
   all_goals go_wp2
   all_goals go_meet
   all_goals exact⟨_,rfl,by exact bel_,by first|omega|(simp;done)|(simp;omega),by first|(simp;done)|(simp[go_sem,fU];done),by first|(simp;done)|(simp[go_sem,fU];done)⟩
  case rest=>
   obtain⟨y,rfl,Gs,hy,f2,f3⟩:=hcut;obtain⟨w5,GH⟩:∃w5:World,w5=wc:=⟨_,rfl⟩;subst GH;have Ns:=Gs.size;have BO:=bV.below Gs bV.lt;have g0:=(Gs.cell (p:=⟨x,0,none⟩) hx).trans f0;have g1:=(Gs.cell (p:=⟨x,1,none⟩) hx).trans f1;have g5:=(Gs.cell (p:=⟨bn,offn+m*2,none⟩) y2).trans d5;have g6:=(Gs.cell (p:=⟨bn,offn+m*2+1,none⟩) y2).trans d6;have Hx:Below w.heap.size w w5:=Hp.trans (Gs.mono Hp.size);have e1:w.heap.size<w5.heap.size:=BO.lt;have e2:bn<w5.heap.size:=o_
   have e3:x<w5.heap.size:=o_
   obtain⟨a_0,a_1⟩:=BO.c2
   go_wp2_with fail
   (refine z7 k_ k_ (fun hG=>?_))
   repeat (go_big_quiet_step ((go_at_call 240;exact zy (xw _ _ _ _ _ _ _))))
   (refine wpQuiet_nil ?_);(clear hG);(rintro w6 ⟨⟨_,gk⟩,rfl⟩);(try dsimp only)
   go_wp2;go_ret
   exact⟨z8 HR.out.symm,by exact bel_⟩
end Go.Proofs.YtnjcpljhmhdhkaaGreat
