/- part 39 -/
import Derived.Test.YtnjcpljhmhdhkaaGreatTPk32
set_option linter.unusedSimpArgs false
set_option linter.unusedVariables false
set_option maxRecDepth 100000
set_option maxHeartbeats 16000000
namespace Go.Proofs.YtnjcpljhmhdhkaaGreat
open Go.RowKit
theorem z8p (ns ls:List Pr) (d e:Nat):ltR ns ls d e= !(decide ((boxF ns ls d).2.2<(boxF ns ls e).2.2)||(decide ((boxF ns ls e).2.2=(boxF ns ls d).2.2)&&decide ((boxF ns ls e).1.1<=(boxF ns ls d).1.1))):=by
 unfold ltR cmpR
 by_cases h:(boxF ns ls d).2.2=(boxF ns ls e).2.2
 ·rw[aao h,aaZ]
  simp[h];omega
 ·have h':¬(boxF ns ls e).2.2=(boxF ns ls d).2.2:=fun q=>h q.symm
  rw[aaq h,aaZ];simp[h'];omega
theorem z7i {p q s t:Int} {x:Bool} (h:x= !(decide (p<q)||(decide (q=p)&&decide (s<=t)))):(x=false->p<q∨(¬p<q/\q=p/\s<=t))/\(x=true->(¬p<q/\¬q=p)∨(¬p<q/\q=p/\¬s<=t)):=by
 subst h
 by_cases h1:p<q<;>by_cases h2:q=p<;>by_cases h3:s<=t<;>first|(simp[h1,h2,h3];done)|omega
theorem allo1 {w:World} {o1:Obj} {b i:Nat} {x:Value} (h:w.cell? ⟨b,i,none⟩=some x) (hb:b<w.heap.size):(w.alloc o1).cell? ⟨b,i,none⟩=some x:=
 (((aaj w.heap.size w).alloc (aaa _) o1).cell (p:=⟨b,i,none⟩) hb).trans h
theorem allo2 {w:World} {o1 o2:Obj} {b i:Nat} {x:Value} (h:w.cell? ⟨b,i,none⟩=some x) (hb:b<w.heap.size):((w.alloc o1).alloc o2).cell? ⟨b,i,none⟩=some x:=
 allo1 (allo1 h hb) (by simp;omega)
theorem scO {w:World} {a b:Addr} {v:Value} (h:a≠b):(w.setCell a v).cell? b=w.cell? b:=World.cell?_setCell_other w a b v h
theorem scS {w:World} {a:Addr} {v u:Value} (h:w.cell? a=some u):(w.setCell a v).cell? a=some v:=World.cell?_setCell_same w a v h
section
variable {w:World} {a b c d p q p' q':Value} {t t':TypeId} {g h:Nat}
theorem laA0:((w.alloc (.cells #[a,b] t)).alloc (.cells #[c,d] t')).cell? ⟨w.heap.size,0,none⟩=some a:=allo1 ((Blk.newAt rfl).cell 0) (by simp)
theorem laA1:((w.alloc (.cells #[a,b] t)).alloc (.cells #[c,d] t')).cell? ⟨w.heap.size,1,none⟩=some b:=allo1 ((Blk.newAt rfl).cell 1) (by simp)
theorem laB0:((w.alloc (.cells #[a,b] t)).alloc (.cells #[c,d] t')).cell? ⟨w.heap.size+1,0,none⟩=some c:=(Blk.newAt (by simp)).cell 0
theorem laB1:((w.alloc (.cells #[a,b] t)).alloc (.cells #[c,d] t')).cell? ⟨w.heap.size+1,1,none⟩=some d:=(Blk.newAt (by simp)).cell 1
theorem yw {g i h j:Nat} (e:¬(g=h/\i=j)):(⟨g,i,none⟩:Addr)≠⟨h,j,none⟩:=fun q=>e (by injection q with q1 q2 _;exact⟨q1,q2⟩)
theorem laC0 (hg:g<w.heap.size) (z:w.cell? ⟨g,0,none⟩=some p):(((w.setCell ⟨g,0,none⟩ a).setCell ⟨g,1,none⟩ b).alloc (.cells #[c,d] t')).cell? ⟨g,0,none⟩=some a:=
 allo1 ((scO (yw o_)).trans (scS z)) (by simpa[World.setCell] using hg)
theorem laC1 (hg:g<w.heap.size) (z:w.cell? ⟨g,1,none⟩=some p):(((w.setCell ⟨g,0,none⟩ a).setCell ⟨g,1,none⟩ b).alloc (.cells #[c,d] t')).cell? ⟨g,1,none⟩=some b:=
 allo1 (scS ((scO (yw o_)).trans z)) (by simpa[World.setCell] using hg)
theorem laD0:(((w.setCell ⟨g,0,none⟩ a).setCell ⟨g,1,none⟩ b).alloc (.cells #[c,d] t')).cell? ⟨w.heap.size,0,none⟩=some c:=(Blk.newAt (by simp[World.setCell])).cell 0
theorem laD1:(((w.setCell ⟨g,0,none⟩ a).setCell ⟨g,1,none⟩ b).alloc (.cells #[c,d] t')).cell? ⟨w.heap.size,1,none⟩=some d:=(Blk.newAt (by simp[World.setCell])).cell 1
theorem laE0 (Hv:¬g=h) (z:w.cell? ⟨g,0,none⟩=some p):((((w.setCell ⟨g,0,none⟩ a).setCell ⟨g,1,none⟩ b).setCell ⟨h,0,none⟩ c).setCell ⟨h,1,none⟩ d).cell? ⟨g,0,none⟩=some a:=
 (scO (yw o_)).trans ((scO (yw o_)).trans ((scO (yw o_)).trans (scS z)))
theorem laE1 (Hv:¬g=h) (z:w.cell? ⟨g,1,none⟩=some p):((((w.setCell ⟨g,0,none⟩ a).setCell ⟨g,1,none⟩ b).setCell ⟨h,0,none⟩ c).setCell ⟨h,1,none⟩ d).cell? ⟨g,1,none⟩=some b:=
 (scO (yw o_)).trans ((scO (yw o_)).trans (scS ((scO (yw o_)).trans z)))
theorem laF0 (Hv:¬g=h) (z:w.cell? ⟨h,0,none⟩=some p):((((w.setCell ⟨g,0,none⟩ a).setCell ⟨g,1,none⟩ b).setCell ⟨h,0,none⟩ c).setCell ⟨h,1,none⟩ d).cell? ⟨h,0,none⟩=some c:=
 (scO (yw o_)).trans (scS ((scO (yw o_)).trans ((scO (yw o_)).trans z)))
theorem laF1 (Hv:¬g=h) (z:w.cell? ⟨h,1,none⟩=some p):((((w.setCell ⟨g,0,none⟩ a).setCell ⟨g,1,none⟩ b).setCell ⟨h,0,none⟩ c).setCell ⟨h,1,none⟩ d).cell? ⟨h,1,none⟩=some d:=
 scS ((scO (yw o_)).trans ((scO (yw o_)).trans ((scO (yw o_)).trans z)))
end
theorem z40 (vn vl:Value) (ns ls:List Pr) (w:World) (hn:RP w vn ns) (hl:RP w vl ls):
  Calls Tryz.prog 113 #[.agg #[vn,vl]] w (RetI (natI (ordW ns ls)) w):=by
 have fr:Below w.heap.size w ((w.alloc (.cells #[vn,vl] 27)).alloc (.cells #[] 3)):=bel_
 have BN:Blk ((w.alloc (.cells #[vn,vl] 27)).alloc (.cells #[] 3)) w.heap.size 27 #[vn,vl]:=(Blk.newAt rfl).alloc _;have Yn:OwnI (w.heap.size+1) ((w.alloc (.cells #[vn,vl] 27)).alloc (.cells #[] 3)) (.slice (some ⟨w.heap.size+1,0,none⟩) 0 0) []:=OwnI.made (by simp) (by simp);have fK:=zD ns ls;have HR:Hid (ordW ns ls=ordL ns ls (z9 ns ls).length):=h_ rfl;have r1:=h_ (fun k h=>JK (ns:=ns) (ls:=ls) (k:=k) h);have r7:=h_ (fun k h=>z1K (ns:=ns) (ls:=ls) (k:=k) h);have nS:Hid (∀k,(ordL ns ls k).length <=k):=h_ (fun k=>by rw[kK];exact xN ns ls k);have U5:Hid (ordL ns ls 0=[]):=h_ rfl;have bm:=h_ (fun (v:World) (hb:Below w.heap.size w v)=>jU vn vl ns ls v (hn.below hb) (hl.below hb));have Wl:=h_ (fun (v:World) (hb:Below w.heap.size w v)=>X7 vn vl ns ls v (hn.below hb) (hl.below hb));have HBX:=h_ (fun (f:Int) (v:World) (hb:Below w.heap.size w v)=>z7U vn vl ns ls f v (hn.below hb) (hl.below hb));obtain⟨i0,hi,iz0,iz1,iz2⟩:=info_parts qq;clear hn hl;generalize j7 ns ls=o at*
 go_enter Tryz.func113,Tryz.ntmps113
 go_wp2_with fail
 refine(bm.out _ fr).mono ?_
 rintro e w1 ⟨v1,rfl,Hj,Hb⟩;obtain⟨A1,c1,rfl⟩:=Hj.form;have Ha:=fr.trans (Hb.mono fr.size);have gc:=BN.below Hb BN.lt;have Gt:=Yn.kept Hb;obtain⟨a_0,a_1⟩:=gc.c2;clear Hb fr BN Yn Hj bm
 go_wp2_with fail
 refine(Wl.out _ Ha).mono ?_
 rintro e w2 ⟨rfl,Hh⟩;have Hc:=Ha.trans (Hh.mono Ha.size);have gX:=gc.below Hh gc.lt;have CW:OwnI (w.heap.size+1) w2 (.slice (some ⟨w.heap.size+1,0,none⟩) 0 0) (natI (ordL ns ls 0)):=by rw[U5.out];exact Gt.kept Hh
 clear Hh gc Gt Ha a_0 a_1 Wl;generalize (z9 ns ls).length =F at*;go_wp2
 go_loopw [3,6] (fun v t wr=>∃k:Nat,k<=F/\t= .int .i64 k/\OwnI (w.heap.size+1) wr v (natI (ordL ns ls k))/\Blk wr w.heap.size 27 #[vn,vl]/\Below w.heap.size w wr) (fun _ t _=>F -(intOf t).toNat)
 case atStart=>exact⟨0,aab _,rfl,CW,gX,Hc⟩
 case round=>
  clear CW gX Hc;obtain⟨k,hk,rfl,ho,hW,hB⟩:=hrel;have gI:=hW.lt;have hgl:=nS.out k
  by_cases Hf:k<F
  ·have Hu:(k:Int)<(F:Int):=o_
   by_cases NC:(k:Int)=o
   ·have e1:((k:Int)==o)=true:=beq_iff_eq.2 NC
    have HX:=h_ (r1.out k NC);clear NC;go_wp2;go_roundw
    case rel=>exact⟨k+1,by omega,by go_num,by rw[HX.out];exact ho,hW,hB⟩
    case measure=>simp[intOf];omega
   ·have e1:((k:Int)==o)=false:=beq_eq_false_iff_ne.2 NC
    have HX:=h_ (r7.out k NC);have Cf:=h_ (fun e=>z8p ns ls k e);clear NC;generalize ordL ns ls k=G at*;obtain⟨K,hK⟩:∃K,boxF ns ls (k:Int)=K:=⟨_,rfl⟩;have HK:=h_ hK;clear hK;obtain⟨a_0,a_1⟩:=hW.c2
    go_wp2_with fail
    refine(HBX.out k _ hB).mono ?_
    rw[HK.out];rintro e w3 ⟨rfl,Hg⟩;have He:=hB.trans (Hg.mono hB.size);have Gz:=hW.below Hg gI;have Hq:=ho.kept Hg;have fC:=Gz.lt;obtain⟨A3,c3,rfl⟩:=OwnE.form (t:=3) (enc:=vI) Hq;rw[za] at Hq⊢;clear Hg ho hW hB a_0 a_1;have gz:=(OwnI.alloc Hq (.cells #[.int .i64 K.1.1,.int .i64 K.1.2] 106)).alloc (.cells #[.int .i64 K.2.1,.int .i64 K.2.2] 106);have H5:Below w3.heap.size w3 (((w3.alloc (.cells #[.int .i64 K.1.1,.int .i64 K.1.2] 106)).alloc (.cells #[.int .i64 K.2.1,.int .i64 K.2.2] 106)).alloc (.cells #[.int .i64 k] 3)):=bel_
    have hL4:Nd2 (((w3.alloc (.cells #[.int .i64 K.1.1,.int .i64 K.1.2] 106)).alloc (.cells #[.int .i64 K.2.1,.int .i64 K.2.2] 106)).alloc (.cells #[.int .i64 k] 3)) w3.heap.size K.1.1 K.1.2:=((Blk.newAt rfl).alloc _).alloc _;have hH4:Nd2 (((w3.alloc (.cells #[.int .i64 K.1.1,.int .i64 K.1.2] 106)).alloc (.cells #[.int .i64 K.2.1,.int .i64 K.2.2] 106)).alloc (.cells #[.int .i64 k] 3)) (w3.heap.size+1) K.2.1 K.2.2:=(Blk.newAt (by simp)).alloc _;have Ho:=He.trans (H5.mono He.size);have bj:=Gz.below H5 fC;clear H5 He
    go_wp2_with (at_builtin;refine qi rfl _ _ rfl (w.heap.size+1) _ (natI G) (k:Int) rfl (w3.heap.size+1+1) rfl (j9 (by simp)) (OwnI.alloc gz _) (by rw[za];omega) (by simp;omega) ?_)
    intro v7 w7 FV Fp NF;have Cw:∀q,(Value.slice A3 G.length c3).ownBlock =some q->w.heap.size+1<=q/\q<w3.heap.size:=fun q hq=>Hq.lt q hq
    have hL7:Nd2 w7 w3.heap.size K.1.1 K.1.2:=(Fp.block w3.heap.size (by simp;omega) (fun e=>by have:=(Cw _ e.symm).2;omega)).trans hL4;have hH7:Nd2 w7 (w3.heap.size+1) K.2.1 K.2.2:=(Fp.block (w3.heap.size+1) (by simp) (fun e=>by have:=(Cw _ e.symm).2;omega)).trans hH4;have WB:Blk w7 w.heap.size 27 #[vn,vl]:=(Fp.block w.heap.size (by simp;omega) (fun e=>by have:=(Cw _ e.symm).1;omega)).trans bj;have GC:=Ho.grown Fp (by simp;omega) (fun q hq=>by have:=(Cw q hq).1;omega);have Bo:OwnI (w.heap.size+1) w7 v7 (gapI G G.length (k:Int)):=by rw[Zq];exact FV
    have wH:=jv G G.length (k:Int) (aaa _);obtain⟨gb,cap,rfl,bY,Fn,Bj,_⟩:=OwnI.blk Bo (by rw[wH];omega);rw[wH] at Bo⊢
    have FM:gb≠w3.heap.size:=by
     intro e
     rcases NF with h|h
     ·have:=(Cw gb h.symm).2;omega
     ·injection h with h;simp at h;omega
    have Gr:gb≠w3.heap.size+1:=by
     intro e
     rcases NF with h|h
     ·have:=(Cw gb h.symm).2;omega
     ·injection h with h;simp at h;omega
    generalize w3.heap.size=B at*;clear Cw hL4 hH4 bj Ho gz Hq FV Fp NF bY wH Gz;go_wp2
    go_loopw [9] (fun t wr=>∃p:Nat,p<=G.length/\t= .int .i64 p/\(∃y,OwnI (w.heap.size+1) wr (.slice (some ⟨gb,0,none⟩) (G.length+1) cap) (gapI G p y))/\Hid (posN (ltR ns ls k) G G.length=posN (ltR ns ls k) G p)/\Nd2 wr B K.1.1 K.1.2/\Nd2 wr (B+1) K.2.1 K.2.2/\Blk wr w.heap.size 27 #[vn,vl]/\Below w.heap.size w wr) (fun t _=>(intOf t).toNat)
    case atStart=>exact⟨G.length,aaa _,rfl,⟨_,Bo⟩,h_ rfl,hL7,hH7,WB,GC⟩
    case round=>
     clear Bo hL7 hH7 WB GC Bj;obtain⟨p,hp,rfl,⟨y,cH⟩,HP,hL,hH,hW,hB⟩:=hrel;have gI:=hW.lt;have ug:=jv G p y hp;have Bj:=(OwnI.lt cH gb rfl).2;have hLl:=Blk.lt hL;have hHl:=Blk.lt hH
     by_cases nt:0<p
     ·obtain⟨r,rfl⟩:∃r,p=r+1:=⟨p -1,by omega⟩
      have hr:r<G.length:=o_
      have xr:=OwnE.cell (t:=3) (enc:=vI) cH 0 (q:=r) o_;rw[xw G r y hr] at xr;have xr':wr.cell? ⟨gb,r,none⟩=some (.int .i64 (G.getD r 0:Nat)):=xr;have HMV:=h_ (ZI G r y hr);have Mi:Hid (posN (ltR ns ls k) G (r+1)=if ltR ns ls k (G.getD r 0) then posN (ltR ns ls k) G r else r+1):=h_ rfl;have wC:=h_ (xw G r y hr);clear xr;generalize hev:G.getD r 0=e at*;clear hev;obtain⟨Ke,hKe⟩:∃Ke,boxF ns ls (e:Int)=Ke:=⟨_,rfl⟩;have Re:=h_ (Cf.out e);rw[hKe,HK.out] at Re;have mQ:=h_ (fun v hb=>HBX.out (e:Int) v hb);rw[hKe] at mQ;obtain⟨x,hx⟩:∃x,ltR ns ls k e=x:=⟨_,rfl⟩;rw[hx] at Mi Re;clear hKe hx;have hp1:(0:Int)<((r+1:Nat):Int):=o_
      have FT:(((r+1:Nat):Int)) -1=(r:Int):=o_
      have Cz:(0:Int)<=(r:Int):=o_
      have CS:(r:Int)<((G.length+1:Nat):Int):=o_
      have hwr1:IntKind.i64.wrap (((r+1:Nat):Int) -1)=(r:Int):=by rw[FT];exact aaP _ o_
      obtain⟨z,hz⟩:∃z:Int,((r+1:Nat):Int)=z:=⟨_,rfl⟩;rw[hz] at hwr1 hp1 FT⊢;have HZZ:=h_ hz;clear hz FT;obtain⟨n1,BP⟩:∃n1:Nat,G.length+1=n1:=⟨_,rfl⟩;rw[BP] at cH CS⊢;have cB:=h_ BP;clear BP;obtain⟨a_0,a_1⟩:=hW.c2
      go_wp2_with fail
      go_cut [10,11] (fun s10 s11 wx=>∃x y:Nat,s10= .pointer (some ⟨x,0,none⟩)/\s11= .pointer (some ⟨y,0,none⟩)/\Below wr.heap.size wr wx/\x<wx.heap.size/\y<wx.heap.size/\wx.cell? ⟨x,0,none⟩=some (.int .i64 Ke.1.1)/\wx.cell? ⟨y,1,none⟩=some (.int .i64 Ke.2.2))
      case first=>
       have nj:=hB;have n5:¬wr.heap.size=w.heap.size:=o_
       have n6:¬wr.heap.size=gb:=o_
       have n7:¬wr.heap.size+1=w.heap.size:=o_
       have n8:¬wr.heap.size+1=gb:=o_
       go_region_held3 (fun w'=>w'.cell? ⟨w.heap.size,0,none⟩=some vn/\w'.cell? ⟨w.heap.size,1,none⟩=some vl/\w'.cell? ⟨gb,r,none⟩=some (.int .i64 (e:Int)))
        (first|go_keep|(exact⟨allo2 (by assumption) (by assumption),allo2 (by assumption) (by assumption),allo2 (by assumption) (by assumption)⟩)|(exact⟨allo1 (by assumption) (by assumption),allo1 (by assumption) (by assumption),allo1 (by assumption) (by assumption)⟩))
        (first|(go_at_call 191;refine(mQ.out _ bel_).mono ?_;rintro en w3 ⟨rfl,Hg⟩;(have GK:=bdC Hg);(have Mz:=bdF Hg);have fC:=Hg.size;(try simp at fC);(have UH:wr.heap.size<=w3.heap.size:=by omega);(try have rg:wr.heap.size<w3.heap.size:=by omega);(try have rs:wr.heap.size+1<w3.heap.size:=by omega);(try have z00:w3.cell? ⟨wr.heap.size,0,none⟩=some (.int .i64 0):=(GK (wr.heap.size) 0 (by first|omega|(simp;done)|(simp;omega))).trans (by simp;done));(try have z01:w3.cell? ⟨wr.heap.size,1,none⟩=some (.int .i64 0):=(GK (wr.heap.size) 1 (by first|omega|(simp;done)|(simp;omega))).trans (by simp;done));(try have z10:w3.cell? ⟨wr.heap.size+1,0,none⟩=some (.int .i64 0):=(GK (wr.heap.size+1) 0 (by first|omega|(simp;done)|(simp;omega))).trans (by simp;done));(try have z11:w3.cell? ⟨wr.heap.size+1,1,none⟩=some (.int .i64 0):=(GK (wr.heap.size+1) 1 (by first|omega|(simp;done)|(simp;omega))).trans (by simp;done));(have s0:w3.cell? ⟨w.heap.size,0,none⟩=some vn:=(GK w.heap.size 0 (by first|omega|(simp;omega))).trans (by(first|exact a_0|exact allo1 a_0 o_|exact allo2 a_0 o_)));(have s1:w3.cell? ⟨w.heap.size,1,none⟩=some vl:=(GK w.heap.size 1 (by first|omega|(simp;omega))).trans (by(first|exact a_1|exact allo1 a_1 o_|exact allo2 a_1 o_)));(have s2:w3.cell? ⟨gb,r,none⟩=some (.int .i64 (e:Int)):=(GK gb r (by first|omega|(simp;omega))).trans (by(first|exact xr'|exact allo1 xr' o_|exact allo2 xr' o_)))))
       all_goals go_wp2
       all_goals go_meet
       all_goals refine⟨_,_,rfl,rfl,by exact bel_,sz_,sz_,?_,?_⟩
       all_goals first|with_reducible exact laA0|with_reducible exact laA1|with_reducible exact laB0|with_reducible exact laB1|with_reducible exact laD0|with_reducible exact laD1|with_reducible exact laC0 rg z00|with_reducible exact laC1 rg z01|with_reducible exact laE0 o_ z00|with_reducible exact laE1 o_ z01|with_reducible exact laE0 o_ z10|with_reducible exact laE1 o_ z11|with_reducible exact laF0 o_ z00|with_reducible exact laF1 o_ z01|with_reducible exact laF0 o_ z10|with_reducible exact laF1 o_ z11
      case rest=>
       obtain⟨x1,y1,rfl,rfl,Gl,bJ,M3,fx,fy⟩:=hcut;obtain⟨w3,f8⟩:∃u,u=wc:=⟨_,rfl⟩;subst f8;have mn:=Blk.below hL Gl hLl;have hH3:=Blk.below hH Gl hHl;have Gz:=hW.below Gl gI;have Hq:=cH.kept Gl;have GJ:=hB.trans (Gl.mono hB.size);obtain⟨l0,l1⟩:=Blk.c2 mn;obtain⟨h0,h1⟩:=Blk.c2 hH3;have Bk:(r:Int)<(G.length:Int)+1:=o_
       clear Gl hL hH hW cH hB a_0 a_1 hLl hHl gI Bj;obtain rfl:=cB.out;obtain rfl:=HZZ.out
       cases x
       ·have FO:Hid (posN (ltR ns ls k) G G.length=r+1):=h_ (by rw[HP.out,Mi.out];rfl)
        have xp:=Hq.cell (q:=r+1) o_;obtain⟨z,hz⟩:∃z,w3.cell? ⟨gb,r+1,none⟩=some z:=⟨_,xp⟩;have fp:=Hq.frz (r+1)
        have Cu:Hid (OwnI (w.heap.size+1) (w3.setCell ⟨gb,r+1,none⟩ (.int .i64 (k:Int))) (.slice (some ⟨gb,0,none⟩) (G.length+1) cap) (natI (ordL ns ls (k+1)))):=h_ (by
         rw[HX.out];unfold insN;rw[FO.out,<-xQ G (r+1) y k o_];exact Hq.set_ (r+1) (k:Int))
        have CT:=h_ (GJ.setCell (p:=⟨gb,r+1,none⟩) (show w.heap.size<=gb by omega) (.int .i64 (k:Int)));have C0:=h_ (Gz.far (p:=⟨gb,r+1,none⟩) (show w.heap.size≠gb by omega) (.int .i64 (k:Int)));have Fm:K.2.2<Ke.2.2∨(¬K.2.2<Ke.2.2/\Ke.2.2=K.2.2/\Ke.1.1<=K.1.1):=(z7i Re.out).1 rfl;clear xp Hq GJ Gz mn hH3
        rcases Fm with q1|⟨q1,q2,q3⟩
        ·go_wp2
         go_roundw
         case rel=>exact⟨k+1,by omega,by go_num,Cu.out,C0.out,CT.out⟩
         case measure=>simp[intOf];omega
        ·go_wp2
         go_roundw
         case rel=>exact⟨k+1,by omega,by go_num,Cu.out,C0.out,CT.out⟩
         case measure=>simp[intOf];omega
       ·have FO:Hid (posN (ltR ns ls k) G G.length=posN (ltR ns ls k) G r):=h_ (by rw[HP.out,Mi.out];rfl)
        have xp:=Hq.cell (q:=r+1) o_;obtain⟨z,hz⟩:∃z,w3.cell? ⟨gb,r+1,none⟩=some z:=⟨_,xp⟩;have fp:=Hq.frz (r+1);have xr:=Hq.cell (q:=r) o_;rw[wC.out] at xr
        have Cu:Hid (OwnI (w.heap.size+1) (w3.setCell ⟨gb,r+1,none⟩ (.int .i64 (e:Int))) (.slice (some ⟨gb,0,none⟩) (G.length+1) cap) (gapI G r (e:Int))):=h_ (by
         rw[<-HMV.out];exact Hq.set_ (r+1) (e:Int))
        have CT:=h_ (GJ.setCell (p:=⟨gb,r+1,none⟩) (show w.heap.size<=gb by omega) (.int .i64 (e:Int)));have C0:=h_ (Gz.far (p:=⟨gb,r+1,none⟩) (show w.heap.size≠gb by omega) (.int .i64 (e:Int)));have WX:=h_ (Blk.far mn (p:=⟨gb,r+1,none⟩) (show B≠gb by omega) (.int .i64 (e:Int)));have HH2:=h_ (Blk.far hH3 (p:=⟨gb,r+1,none⟩) (show B+1≠gb by omega) (.int .i64 (e:Int)));have Fm:(¬K.2.2<Ke.2.2/\¬Ke.2.2=K.2.2)∨(¬K.2.2<Ke.2.2/\Ke.2.2=K.2.2/\¬Ke.1.1<=K.1.1):=(z7i Re.out).2 rfl;clear xp Hq GJ Gz mn hH3
        rcases Fm with ⟨q1,q2⟩|⟨q1,q2,q3⟩
        ·go_wp2
         go_roundw
         case rel=>exact⟨r,by omega,by go_num,⟨_,Cu.out⟩,FO,WX.out,HH2.out,C0.out,CT.out⟩
         case measure=>simp[intOf]
        ·go_wp2
         go_roundw
         case rel=>exact⟨r,by omega,by go_num,⟨_,Cu.out⟩,FO,WX.out,HH2.out,C0.out,CT.out⟩
         case measure=>simp[intOf]
     ·have mG:p=0:=o_
      subst mG;have FO:Hid (posN (ltR ns ls k) G G.length=0):=h_ HP.out;clear nt;have xp:=cH.cell (q:=0) o_;obtain⟨z,hz⟩:∃z,wr.cell? ⟨gb,0,none⟩=some z:=⟨_,xp⟩;have fp:=cH.frz 0
      have Cu:Hid (OwnI (w.heap.size+1) (wr.setCell ⟨gb,0,none⟩ (.int .i64 (k:Int))) (.slice (some ⟨gb,0,none⟩) (G.length+1) cap) (natI (ordL ns ls (k+1)))):=h_ (by
       rw[HX.out];unfold insN;rw[FO.out,<-xQ G 0 y k o_];exact cH.set_ 0 (k:Int))
      have CT:=h_ (hB.setCell (p:=⟨gb,0,none⟩) (show w.heap.size<=gb by omega) (.int .i64 (k:Int)));have C0:=h_ (hW.far (p:=⟨gb,0,none⟩) (show w.heap.size≠gb by omega) (.int .i64 (k:Int)));clear xp cH hB hW hL hH;go_wp2;go_roundw
      case rel=>exact⟨k+1,by omega,by go_num,Cu.out,C0.out,CT.out⟩
      case measure=>simp[intOf];omega
  ·have gn:k=F:=o_
   subst gn;go_wp2;go_ret
   exact⟨_,rfl,by rw[HR.out];exact OwnI.mono ho o_,hB⟩
theorem z6V (vn vl:Value) (ns ls:List Pr) (f:Nat) (w:World) (hn:RP w vn ns) (hl:RP w vl ls):
  CB_ 40 #[.agg #[vn,vl],.int .i64 f] w (.int .i64 (numN ns ls f)):=by
 have Hi:Below w.heap.size w (w.alloc (.cells #[vn,vl] 27)):=bel_
 have HR:Hid (numN ns ls f=idxN (ordW ns ls) f+1):=h_ rfl
 have uJ:(ordW ns ls).length <=40:=by
  unfold ordW;rw[kK];have:=xN ns ls (z9 ns ls).length;have:=zD ns ls;omega
 go_enter Tryz.func40,Tryz.ntmps40
 go_wp2_with fail
 refine(z40 _ _ ns ls _ (hn.below Hi) (hl.below Hi)).mono ?_
 rintro e w1 ⟨v1,rfl,Hj,Hb⟩;have Ha:=Hi.trans (Hb.mono Hi.size);have Mk:=Hj.reads;clear Hj Hb hn hl Hi;generalize ordW ns ls=l at*;obtain⟨A,c,rfl,hc,hm,hcell⟩:=Mk.form;rw[za] at hc hm hcell⊢;clear Mk;go_wp2
 go_loop [6] (fun i=>∃k:Nat,k<=l.length/\i= .int .i64 k/\Hid (f∉l.take k)) (fun i=>l.length -(intOf i).toNat)
 case atStart=>exact⟨0,aab _,rfl,h_ (by simp)⟩
 case round=>
  obtain⟨k,hk,rfl,HT⟩:=hrel
  by_cases Hf:k<l.length
  ·obtain⟨b,off,rfl,hb,Hz⟩:=hcell o_
   have fM:=Hz k Hf;rw[qg] at fM;clear Hz hcell;have HS:=h_ (fun Hv=>Qu Hf HT.out Hv);have HY:=h_ (fun he=>z55 Hf HT.out he);have Hu:(k:Int)<(l.length:Int):=o_
   generalize l.getD k 0=x at*
   by_cases he:x=f
   ·have e1:((f:Int)==(x:Int))=true:=by simp[he]
    have e2:((x:Int)==(f:Int))=true:=by simp[he]
    have HX:=h_ (HY.out he);clear he;go_wp2;go_ret
    exact⟨zi (by rw[HR.out,HX.out]),Ha⟩
   ·have e1:((f:Int)==(x:Int))=false:=by simp;omega
    have e2:((x:Int)==(f:Int))=false:=by simp;omega
    have HX:=h_ (HS.out he);clear he;go_wp2;go_round
    case rel=>exact⟨k+1,by omega,by go_num,HX⟩
    case measure=>simp[intOf];omega
  ·have gn:l.length<=k:=o_
   have h:=HT.out;rw[aaK gn] at h;have HX:Hid (idxN l f= -1):=h_ (z4m h);have Hu:¬(k:Int)<(l.length:Int):=o_
   clear h hcell;go_wp2;go_ret
   exact⟨zi (by rw[HR.out,HX.out];rfl),Ha⟩
end Go.Proofs.YtnjcpljhmhdhkaaGreat
