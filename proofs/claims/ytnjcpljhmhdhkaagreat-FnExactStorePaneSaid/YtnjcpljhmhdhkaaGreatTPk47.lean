/- part 47 -/
import Derived.Test.YtnjcpljhmhdhkaaGreatTPk46
set_option linter.unusedSimpArgs false
set_option linter.unusedVariables false
set_option maxRecDepth 100000
set_option maxHeartbeats 16000000
namespace Go.Proofs.YtnjcpljhmhdhkaaGreat
open Go.RowKit
theorem Xd {S:St} {f c:Int} (h:q8 S=false∨jB S.D.nn S.D.nl f=false):stoS S f c=S∧stoB S f c=false:=by
 have hb:stoB S f c=false:=by
  unfold stoB
  rcases h with h|h<;>simp[h]
 exact⟨by unfold stoS;rw[hb];rfl,hb⟩
theorem VR {S:St} {k:Nat} {c y u:Int} {d:Dp} (h1:q8 S=true) (h2:jB S.D.nn S.D.nl k=true) (hy:dayN S.ds=y) (hu:numN S.D.nn S.D.nl k=u) (hd:(⟨u,c,y⟩:Dp)=d):stoS S k c=⟨S.D,S.cs,adpL S.ds d,S.fund⟩∧stoB S k c=adpB S.ds d:=by
 have hn:z28 S k c=d:=by rw[←hd,←hy,←hu];rfl
 have hb:stoB S k c=adpB S.ds d:=by unfold stoB;rw[h1,h2,hn];rfl
 refine⟨?_,hb⟩
 unfold stoS;rw[hb,hn];unfold adpL
 cases h:adpB S.ds d
 ·rfl
 ·rfl
theorem z4A {S:St} {k:Nat} {c y u:Int} {d:Dp} (h1:q8 S=true) (h2:jB S.D.nn S.D.nl k=true) (hy:dayN S.ds=y) (hu:numN S.D.nn S.D.nl k=u) (hd:(⟨u,c,y⟩:Dp)=d) (h3:adpB S.ds d=false):stoS S k c=S∧stoB S k c=false:=by
 obtain⟨u1,u2⟩:=VR h1 h2 hy hu hd;refine⟨?_,u2.trans h3⟩
 rw[u1];unfold adpL;rw[h3];rfl
theorem z2I {S:St} (h:q8 S=true) {m:Nat} (hm:S.ds.length=m+1):0≤(dpI S.ds m).b ∧(dpI S.ds m).b ≤9999∧S.ds.length≤40∧dayN S.ds=(dpI S.ds m).b +1:=by
 obtain⟨h1,h2⟩:=jY.1 (z3P.1 h).2.1;have h3:=h2 m (by omega);unfold depB at h3;simp only[Bool.and_eq_true] at h3
 have h4:=zt.1 h3.2.2.1;refine⟨h4.1,h4.2,h1,?_⟩
 unfold dayN;rw[if_neg (by omega),hm];rfl
theorem kV (v0 v1 v2 v3 v4 v5 v6:Value) (S:St) (pl:Int) (pm:Int) (w:World) (h:RSt w v0 v1 v2 v3 v4 v5 v6 S) (hle:StLe S):
  Calls Tryz.prog 39 #[.agg #[v0,v1,v2,v3,v4,v5,v6,.int .i64 S.fund],.int .i64 pl,.int .i64 pm] w (z2B (stoS S pl pm) (stoB S pl pm) w):=by
 obtain⟨r,hr⟩:∃r,q8 S=r:=⟨_,rfl⟩;have HR:=Lib.hid hr;have HLE:=Lib.hid hle;obtain⟨B6,d6,ev6,hc6,hm6,hat⟩:=h.ds.at_;subst ev6;unfold maxLen at hm6;have HAT:=Lib.hid hat;clear hat;obtain⟨E,hE⟩:∃E,stoS S pl pm=E:=⟨_,rfl⟩;obtain⟨bb,hbb⟩:∃bb,stoB S pl pm=bb:=⟨_,rfl⟩;rw[hE,hbb];have HE:=Lib.hid hE;have HBB:=Lib.hid hbb;have HH:=Lib.hid h;clear hle hE hbb h
 go_enter Tryz.func39,Tryz.ntmps39
 go_wp2_with fail
 refine(z0t _ _ _ _ _ _ _ S _ (HH.out.below (by exact bel_)) HLE.out).mono ?_
 rintro e w1 ⟨A0,a0,A1,a1,A2,a2,A3,a3,A4,a4,A5,a5,A6,a6,fs,rfl,ho1,hb1⟩;have hz1:=hb1.size;simp at hz1
 have hX1:Blk w1 w.heap.size 34 #[v0,v1,v2,v3,v4,v5,.slice B6 S.ds.length d6,.int .i64 S.fund]:=Blk.below ((Blk.newAt rfl).alloc _) hb1 sz_;have hR1:Blk w1 (w.heap.size+1) 34 #[.slice none 0 0,.slice none 0 0,.slice none 0 0,.slice none 0 0,.slice none 0 0,.slice none 0 0,.slice none 0 0,.int .i64 0]:=Blk.below (Blk.newAt (by simp)) hb1 sz_;have hbw1:Below w.heap.size w w1:=by exact bel_
 have hO1:OwnSt (w.heap.size+1+1) w1 (.slice A0 S.D.fn.length a0) (.slice A1 S.D.fl.length a1) (.slice A2 S.D.nn.length a2) (.slice A3 S.D.nl.length a3) (.slice A4 S.D.ss.length a4) (.slice A5 S.cs.length a5) (.slice A6 S.ds.length a6) S fs:=by simpa using ho1
 have HS2:=Lib.hid (OutSS.start hO1 (Nat.le_refl _) hX1 hR1 hbw1);obtain⟨x_0,x_1,x_2,x_3,x_4,x_5,x_6,x_7⟩:=hX1.c8;have hX1l:=hX1.lt;clear ho1 hb1 hO1
 go_wp2_with fail
 obtain⟨w2,hw2⟩:∃w2,w2=w1.alloc (.cells #[.slice A0 S.D.fn.length a0,.slice A1 S.D.fl.length a1,.slice A2 S.D.nn.length a2,.slice A3 S.D.nl.length a3,.slice A4 S.D.ss.length a4,.slice A5 S.cs.length a5,.slice A6 S.ds.length a6,.int .i64 S.fund] 34):=⟨_,rfl⟩;rw[←hw2] at HS2⊢;generalize w1.heap.size=Z at*;clear hw2 hX1 hR1 hbw1 x_0 x_1 x_2 x_3 x_4 x_5 x_6 x_7 hX1l hz1;refine(VZ _ _ _ _ _ _ _ S r _ (HH.out.below HS2.out.blw) HR).mono ?_
 rintro e w3 ⟨rfl,hb3⟩;have HS3:=Lib.hid (HS2.out.below hb3);clear hb3 HS2;have hX3:=HS3.out.X;obtain⟨x_0,x_1,x_2,x_3,x_4,x_5,x_6,x_7⟩:=hX3.c8;have hX3l:=hX3.lt;have hZ3l:=HS3.out.Z_.lt
 cases r
 ·obtain⟨u1,u2⟩:=Xd (S:=S) (f:=pl) (c:=pm) (.inl hr)
  have hu:S=E:=by rw[←HE.out];exact u1.symm
  have hv:false=bb:=by rw[←HBB.out];exact u2.symm
  subst hu;subst hv;have HF:=HS3;clear HS3 HE HBB u1 u2 hr hX3 hX3l hZ3l;obtain⟨_,_,hR,hZ,hZl,_,_⟩:=HF.out;obtain⟨z_0,z_1,z_2,z_3,z_4,z_5,z_6,z_7⟩:=hZ.c8;obtain⟨r_0,r_1,r_2,r_3,r_4,r_5,r_6,r_7,r_f0,r_f1,r_f2,r_f3,r_f4,r_f5,r_f6,r_f7⟩:=hR.b8;have hRlt:=hR.lt;have hZlt:=hZ.lt;have HFF:=Lib.hid (fun u0 u1 u2 u3 u4 u5 u6 u7=>HF.out.fin u0 u1 u2 u3 u4 u5 u6 u7);clear hR hZ HF;go_wp2;exact bodyPost_ret (v:= .tuple #[.agg #[.slice A0 S.D.fn.length a0,.slice A1 S.D.fl.length a1,.slice A2 S.D.nn.length a2,.slice A3 S.D.nl.length a3,.slice A4 S.D.ss.length a4,.slice A5 S.cs.length a5,.slice A6 S.ds.length a6,.int .i64 S.fund],.bool false]) (by simp[results,Tryz.results39,go_sem,r_0,r_1,r_2,r_3,r_4,r_5,r_6,r_7,hRlt]) rfl ⟨_,_,_,_,_,_,_,_,_,_,_,_,_,_,fs,rfl,(HFF.out _ _ _ _ _ _ _ _).1,(HFF.out _ _ _ _ _ _ _ _).2⟩
 ·have HN:=Lib.hid (HH.out.dr.nn.below HS3.out.blw)
  have HL:=Lib.hid (HH.out.dr.nl.below HS3.out.blw);obtain⟨q,hq⟩:∃q,jB S.D.nn S.D.nl pl=q:=⟨_,rfl⟩;have HQ:=Lib.hid hq
  go_wp2_with fail
  refine(z0J _ _ S.D.nn S.D.nl pl _ HN.out HL.out).mono ?_
  rw[hq];clear hq;rintro e w4 ⟨rfl,hb4⟩;have HS4:=Lib.hid (HS3.out.below hb4);clear HS3 hX3 hX3l hZ3l x_0 x_1 x_2 x_3 x_4 x_5 x_6 x_7 hb4 HN HL
  cases q
  ·obtain⟨u1,u2⟩:=Xd (S:=S) (f:=pl) (c:=pm) (.inr HQ.out)
   have hu:S=E:=by rw[←HE.out];exact u1.symm
   have hv:false=bb:=by rw[←HBB.out];exact u2.symm
   subst hu;subst hv;have HF:=HS4;clear HS4 HE HBB u1 u2 hr HQ;obtain⟨_,_,hR,hZ,hZl,_,_⟩:=HF.out;obtain⟨z_0,z_1,z_2,z_3,z_4,z_5,z_6,z_7⟩:=hZ.c8;obtain⟨r_0,r_1,r_2,r_3,r_4,r_5,r_6,r_7,r_f0,r_f1,r_f2,r_f3,r_f4,r_f5,r_f6,r_f7⟩:=hR.b8;have hRlt:=hR.lt;have hZlt:=hZ.lt;have HFF:=Lib.hid (fun u0 u1 u2 u3 u4 u5 u6 u7=>HF.out.fin u0 u1 u2 u3 u4 u5 u6 u7);clear hR hZ HF;go_wp2;exact bodyPost_ret (v:= .tuple #[.agg #[.slice A0 S.D.fn.length a0,.slice A1 S.D.fl.length a1,.slice A2 S.D.nn.length a2,.slice A3 S.D.nl.length a3,.slice A4 S.D.ss.length a4,.slice A5 S.cs.length a5,.slice A6 S.ds.length a6,.int .i64 S.fund],.bool false]) (by simp[results,Tryz.results39,go_sem,r_0,r_1,r_2,r_3,r_4,r_5,r_6,r_7,hRlt]) rfl ⟨_,_,_,_,_,_,_,_,_,_,_,_,_,_,fs,rfl,(HFF.out _ _ _ _ _ _ _ _).1,(HFF.out _ _ _ _ _ _ _ _).2⟩
  ·obtain⟨_,k,rfl,hk,_⟩:=z2e HQ.out
   have hfl:=zL S.D.nn S.D.nl;have hX4:=HS4.out.X;obtain⟨x_0,x_1,x_2,x_3,x_4,x_5,x_6,x_7⟩:=hX4.c8;have hX4l:=hX4.lt;have hZ4l:=HS4.out.Z_.lt;have hlen6:=HLE.out.ds;obtain⟨y,hy⟩:∃z,dayN S.ds=z:=⟨_,rfl⟩;have HDAY:=Lib.hid hy;clear hy
   go_upto_if 31 with (fail)
   go_cut [9] (fun s9 wx=>s9= .int .i64 y∧wx=w4)
   case first=>
    rcases Nat.eq_zero_or_pos S.ds.length with hds|hds
    ·have HD0:Hid ((0:Int)=y):=Lib.hid (by rw[←HDAY.out];unfold dayN;rw[if_pos hds])
     have hpos:¬(0:Int)<(S.ds.length:Int):=by omega
     clear hds;go_wp2;go_meet
     exact⟨by rw[HD0.out],rfl⟩
    ·obtain⟨m,hm⟩:∃m,S.ds.length=m+1:=⟨S.ds.length -1,by omega⟩
     obtain⟨hd0,hd1,hd2,hd3⟩:=z2I hr hm;rw[HDAY.out] at hd3;have HD0:=Lib.hid hd3.symm;obtain⟨b6,off6,rfl,hat0⟩:=HAT.out hds;have hat:=hat0.below HS4.out.blw;obtain⟨_,_,hq2⟩:=hat.2 m (by omega);have hat1:=hat.1;generalize (dpI S.ds m).b =db at*;have hpos:(0:Int)<(S.ds.length:Int):=by omega
     have hsub:(S.ds.length:Int) -1=(m:Int):=by omega
     have hw1:IntKind.i64.wrap ((S.ds.length:Int) -1)=(m:Int):=by rw[hsub];exact IntWalk.i64_in _ (by omega)
     have ik1:(0:Int)≤(m:Int):=by omega
     have ik2:(m:Int)<(S.ds.length:Int):=by omega
     have hw2:IntKind.i64.wrap (db+1)=db+1:=IntWalk.i64_in _ (by omega);clear hd3 hat hat0 hds hm hsub;go_wp2;go_meet
     exact⟨by rw[HD0.out],rfl⟩
   case rest=>
    obtain⟨rfl,hwc⟩:=hcut;have hwc2:=hwc.symm;clear hwc;subst hwc2;obtain⟨nu,hnu⟩:∃z,numN S.D.nn S.D.nl k=z:=⟨_,rfl⟩;have HNU0:=Lib.hid hnu;have HNU1:=fun (v:World) (hb:Below w.heap.size w v)=>z3U v2 v3 S.D.nn S.D.nl k v (HH.out.dr.nn.below hb) (HH.out.dr.nl.below hb)
    rw[hnu] at HNU1;have HNU:=Lib.hid HNU1;clear hnu HNU1;obtain⟨dd,hdd⟩:∃d:Dp,(⟨nu,pm,y⟩:Dp)=d:=⟨_,rfl⟩;have HDD:=Lib.hid hdd;obtain⟨l',hl'⟩:∃l,adpL S.ds dd=l:=⟨_,rfl⟩;obtain⟨b',hb'⟩:∃b,adpB S.ds dd=b:=⟨_,rfl⟩;have HL':=Lib.hid hl';have HB':=Lib.hid hb';have HAD:=Lib.hid (fun (v:World) (hb:Below w.heap.size w v)=>z0x (.slice B6 S.ds.length d6) S.ds dd v (HH.out.ds.below hb) HLE.out.ds);rw[hl',hb'] at HAD;rw[←hdd] at HAD;clear hl' hb' hdd;have hBW:=HS4.out.blw;have hbd0:Below w4.heap.size w4 w4.drew:=(Below.refl _ _).drew;have hBW0:=hBW.trans (hbd0.mono hBW.size)
    go_upto_region 8 with (fail)
    refine xO (n:=14) (S:=fun w'=>w'.cell? ⟨w.heap.size,2,none⟩=some v2∧w'.cell? ⟨w.heap.size,3,none⟩=some v3∧w'.cell? ⟨w.heap.size,6,none⟩=some (.slice B6 S.ds.length d6)) (by kernel_rfl) ⟨x_2,x_3,x_6⟩ (fun hS=>?_)
    (refine zq (i:=0) (v:=?_) rfl rfl (by kernel_rfl) (by kernel_rfl) (by kernel_rfl) (by kernel_rfl) (by kernel_rfl) (fun _ _ _ h=>h) (Or.inl ⟨by rfl,?_⟩) (by assumption) ?_);rotate_left;(focus (intro w' hSw;(try dsimp only at hSw);go_simp;(try with_reducible rfl)));(try simp only[Act.put,List.setIfInBounds_toArray,List.set_cons_zero,List.set_cons_succ])
    (refine zq (i:=1) (v:=?_) rfl rfl (by kernel_rfl) (by kernel_rfl) (by kernel_rfl) (by kernel_rfl) (by kernel_rfl) (fun _ _ _ h=>h) (Or.inl ⟨by rfl,?_⟩) (by assumption) ?_);rotate_left;(focus (intro w' hSw;(try dsimp only at hSw);go_simp;(try with_reducible rfl)));(try simp only[Act.put,List.setIfInBounds_toArray,List.set_cons_zero,List.set_cons_succ])
    (refine zq (i:=2) (v:=?_) rfl rfl (by kernel_rfl) (by kernel_rfl) (by kernel_rfl) (by kernel_rfl) (by kernel_rfl) (fun _ _ _ h=>h) (Or.inl ⟨by rfl,?_⟩) (by assumption) ?_);rotate_left;(focus (intro w' hSw;(try dsimp only at hSw);go_simp;(try with_reducible rfl)));(try simp only[Act.put,List.setIfInBounds_toArray,List.set_cons_zero,List.set_cons_succ])
    (refine zq (i:=3) (v:=?_) rfl rfl (by kernel_rfl) (by kernel_rfl) (by kernel_rfl) (by kernel_rfl) (by kernel_rfl) (fun _ _ _ h=>h) (Or.inl ⟨by rfl,?_⟩) (by assumption) ?_);rotate_left;(focus (intro w' hSw;(try dsimp only at hSw);go_simp;(try with_reducible rfl)));(try simp only[Act.put,List.setIfInBounds_toArray,List.set_cons_zero,List.set_cons_succ])
    (refine zq (i:=4) (v:=?_) rfl rfl (by kernel_rfl) (by kernel_rfl) (by kernel_rfl) (by kernel_rfl) (by kernel_rfl) (fun _ _ _ h=>h) (Or.inl ⟨by rfl,?_⟩) (by assumption) ?_);rotate_left;(focus (intro w' hSw;(try dsimp only at hSw);go_simp;(try with_reducible rfl)));(try simp only[Act.put,List.setIfInBounds_toArray,List.set_cons_zero,List.set_cons_succ])
    (refine zq (i:=5) (v:=?_) rfl rfl (by kernel_rfl) (by kernel_rfl) (by kernel_rfl) (by kernel_rfl) (by kernel_rfl) (fun _ _ _ h=>h) (Or.inl ⟨by rfl,?_⟩) (by assumption) ?_);rotate_left;(focus (intro w' hSw;(try dsimp only at hSw);go_simp;(try with_reducible rfl)));(try simp only[Act.put,List.setIfInBounds_toArray,List.set_cons_zero,List.set_cons_succ])
    (refine zq (i:=7) (v:=?_) rfl rfl (by kernel_rfl) (by kernel_rfl) (by kernel_rfl) (by kernel_rfl) (by kernel_rfl) (fun _ _ _ h=>h) (Or.inl ⟨by rfl,?_⟩) (by assumption) ?_);rotate_left;(focus (intro w' hSw;(try dsimp only at hSw);go_simp;(try with_reducible rfl)));(try simp only[Act.put,List.setIfInBounds_toArray,List.set_cons_zero,List.set_cons_succ])
    (refine zq (i:=8) (v:=?_) rfl rfl (by kernel_rfl) (by kernel_rfl) (by kernel_rfl) (by kernel_rfl) (by kernel_rfl) (fun _ _ _ h=>h) (Or.inl ⟨by rfl,?_⟩) (by assumption) ?_);rotate_left;(focus (intro w' hSw;(try dsimp only at hSw);go_simp;(try with_reducible rfl)));(try simp only[Act.put,List.setIfInBounds_toArray,List.set_cons_zero,List.set_cons_succ])
    (refine yW (i:=6) rfl (by kernel_rfl) (fun K hK=>?_));(rw[if_pos (by rfl)])
    go_simp
    go_at_call 23
    refine(HNU.out _ hBW0).mono ?_
    rintro e w5 ⟨rfl,hb5⟩;have hb45:Below w4.heap.size w4 w5:=hbd0.trans (hb5.mono hbd0.size);have hBW5:=hBW.trans (hb45.mono hBW.size);clear hb5
    go_wp2_with fail
    refine hK _ _ (fun _=>⟨(hb45.cell (p:=⟨w.heap.size,2,none⟩) hX4l).trans x_2,(hb45.cell (p:=⟨w.heap.size,3,none⟩) hX4l).trans x_3,(hb45.cell (p:=⟨w.heap.size,6,none⟩) hX4l).trans x_6⟩) (fun hS'=>?_)
    have hS:=hS' (by kernel_rfl);clear hK K hS'
    (try simp only[Act.put,List.setIfInBounds_toArray,List.set_cons_zero,List.set_cons_succ])
    (refine zq (i:=9) (v:=?_) rfl rfl (by kernel_rfl) (by kernel_rfl) (by kernel_rfl) (by kernel_rfl) (by kernel_rfl) (fun _ _ _ h=>h) (Or.inl ⟨by rfl,?_⟩) (by assumption) ?_);rotate_left;(focus (intro w' hSw;(try dsimp only at hSw);go_simp;(try with_reducible rfl)));(try simp only[Act.put,List.setIfInBounds_toArray,List.set_cons_zero,List.set_cons_succ])
    (refine yW (i:=10) rfl (by kernel_rfl) (fun K hK=>?_));(rw[if_pos (by rfl)])
    go_simp
    go_at_call 112
    refine(HAD.out _ hBW5).mono ?_
    rintro e w6 ⟨vt,rfl,ho6,hb6⟩;obtain⟨T6,t6,rfl⟩:=zH.form ho6;have hb46:=hb45.trans (hb6.mono hb45.size);have HF:=Lib.hid (OutSS.newDs HS4.out hb46 (zH.mono ho6 hb45.size));have HS6:=Lib.hid (HS4.out.below hb46);clear hb6 ho6
    go_wp2_with fail
    refine hK _ _ (fun _=>⟨(hb46.cell (p:=⟨w.heap.size,2,none⟩) hX4l).trans x_2,(hb46.cell (p:=⟨w.heap.size,3,none⟩) hX4l).trans x_3,(hb46.cell (p:=⟨w.heap.size,6,none⟩) hX4l).trans x_6⟩) (fun hS'=>?_)
    have hS:=hS' (by kernel_rfl);clear hK K hS'
    (try simp only[Act.put,List.setIfInBounds_toArray,List.set_cons_zero,List.set_cons_succ])
    (refine zq (i:=11) (v:=?_) rfl rfl (by kernel_rfl) (by kernel_rfl) (by kernel_rfl) (by kernel_rfl) (by kernel_rfl) (fun _ _ _ h=>h) (Or.inl ⟨by rfl,?_⟩) (by assumption) ?_);rotate_left;(focus (intro w' hSw;(try dsimp only at hSw);go_simp;(try with_reducible rfl)));(try simp only[Act.put,List.setIfInBounds_toArray,List.set_cons_zero,List.set_cons_succ])
    (refine zq (i:=12) (v:=?_) rfl rfl (by kernel_rfl) (by kernel_rfl) (by kernel_rfl) (by kernel_rfl) (by kernel_rfl) (fun _ _ _ h=>h) (Or.inl ⟨by rfl,?_⟩) (by assumption) ?_);rotate_left;(focus (intro w' hSw;(try dsimp only at hSw);go_simp;(try with_reducible rfl)));(try simp only[Act.put,List.setIfInBounds_toArray,List.set_cons_zero,List.set_cons_succ])
    (refine z2j (i:=13) (v:=?_) rfl (by decide) (by kernel_rfl) (by kernel_rfl) (by kernel_rfl) (fun _ _ _ h=>h) (Or.inl ⟨by rfl,?_⟩) (by assumption) ?_);rotate_left;(focus (intro w' hSw;(try dsimp only at hSw);go_simp;(try with_reducible rfl)));(try simp only[Act.put,List.setIfInBounds_toArray,List.set_cons_zero,List.set_cons_succ])
    (refine yW (i:=14) rfl (by kernel_rfl) (fun K hK=>?_));(rw[if_pos (by rfl)])
    go_simp;refine hK _ _ (fun h=>by cases h) (fun _=>?_)
    clear hK K
    (try simp only[Act.put,List.setIfInBounds_toArray,List.set_cons_zero,List.set_cons_succ])
    (refine yW (i:=15) rfl (by kernel_rfl) (fun K hK=>?_));(rw[if_pos (by rfl)])
    go_simp;refine hK _ _ (fun h=>by cases h) (fun _=>?_)
    clear hK K
    (try simp only[Act.put,List.setIfInBounds_toArray,List.set_cons_zero,List.set_cons_succ])
    refine VJ (by kernel_rfl) ?_ _
    clear HS4 hb46 hb45 hBW hBW0 hBW5 hbd0 hS hX4 hX4l hZ4l x_0 x_1 x_2 x_3 x_4 x_5 x_6 x_7 HAD HNU;obtain⟨u1,u2⟩:=VR hr HQ.out HDAY.out HNU0.out HDD.out;rw[HL'.out] at u1;rw[HB'.out] at u2;have hu:(⟨S.D,S.cs,l',S.fund⟩:St)=E:=by rw[←HE.out];exact u1.symm
    have hv:b'=bb:=by rw[←HBB.out];exact u2.symm
    subst hu;subst hv;obtain⟨_,_,hR,hZ,hZl,_,_⟩:=HS6.out;obtain⟨z_0,z_1,z_2,z_3,z_4,z_5,z_6,z_7,z_f0,z_f1,z_f2,z_f3,z_f4,z_f5,z_f6,z_f7⟩:=hZ.b8;obtain⟨r_0,r_1,r_2,r_3,r_4,r_5,r_6,r_7,r_f0,r_f1,r_f2,r_f3,r_f4,r_f5,r_f6,r_f7⟩:=hR.b8;have hRlt:=hR.lt;have hZlt:=hZ.lt;have HFF:=Lib.hid (fun u0 u1 u2 u3 u4 u5 u6 u7=>HF.out.fin u0 u1 u2 u3 u4 u5 u6 u7);clear hR hZ HF HS6 HE HBB u1 u2 hr HL' HB';have hne1:¬Z=w.heap.size+1:=by omega
    have hne2:¬w.heap.size+1=Z:=by omega
    go_wp2;exact bodyPost_ret (v:= .tuple #[.agg #[.slice A0 S.D.fn.length a0,.slice A1 S.D.fl.length a1,.slice A2 S.D.nn.length a2,.slice A3 S.D.nl.length a3,.slice A4 S.D.ss.length a4,.slice A5 S.cs.length a5,.slice T6 l'.length t6,.int .i64 S.fund],.bool b']) (by simp[results,Tryz.results39,go_sem,r_0,r_1,r_2,r_3,r_4,r_5,r_6,r_7,z_0,z_1,z_2,z_3,z_4,z_5,z_6,z_7,hRlt,hZlt,hne1,hne2]) rfl ⟨_,_,_,_,_,_,_,_,_,_,_,_,_,_,fs,rfl,(HFF.out _ _ _ _ _ _ _ _).1,(HFF.out _ _ _ _ _ _ _ _).2⟩
theorem JE (v0 v1 v2 v3 v4 v5 v6:Value) (S:St) (pl:Int) (pm:Int) (w:World) (h:RSt w v0 v1 v2 v3 v4 v5 v6 S) (hle:StLe S):
  Calls Tryz.prog 48 #[.agg #[v0,v1,v2,v3,v4,v5,v6,.int .i64 S.fund],.int .i64 pl,.int .i64 pm] w (z2B (stoS S pl pm) (stoB S pl pm) w):=by
 obtain⟨r,hr⟩:∃r,q8 S=r:=⟨_,rfl⟩;have HR:=Lib.hid hr;have HLE:=Lib.hid hle;obtain⟨B6,d6,ev6,hc6,hm6,hat⟩:=h.ds.at_;subst ev6;unfold maxLen at hm6;have HAT:=Lib.hid hat;clear hat;obtain⟨E,hE⟩:∃E,stoS S pl pm=E:=⟨_,rfl⟩;obtain⟨bb,hbb⟩:∃bb,stoB S pl pm=bb:=⟨_,rfl⟩;rw[hE,hbb];have HE:=Lib.hid hE;have HBB:=Lib.hid hbb;have HH:=Lib.hid h;clear hle hE hbb h
 go_enter Tryz.func48,Tryz.ntmps48
 go_wp2_with fail
 refine(Xv _ _ _ _ _ _ _ S _ (HH.out.below (by exact bel_)) HLE.out).mono ?_
 rintro e w1 ⟨A0,a0,A1,a1,A2,a2,A3,a3,A4,a4,A5,a5,A6,a6,fs,rfl,ho1,hb1⟩;have hz1:=hb1.size;simp at hz1
 have hX1:Blk w1 w.heap.size 34 #[v0,v1,v2,v3,v4,v5,.slice B6 S.ds.length d6,.int .i64 S.fund]:=Blk.below ((Blk.newAt rfl).alloc _) hb1 sz_;have hR1:Blk w1 (w.heap.size+1) 34 #[.slice none 0 0,.slice none 0 0,.slice none 0 0,.slice none 0 0,.slice none 0 0,.slice none 0 0,.slice none 0 0,.int .i64 0]:=Blk.below (Blk.newAt (by simp)) hb1 sz_;have hbw1:Below w.heap.size w w1:=by exact bel_
 have hO1:OwnSt (w.heap.size+1+1) w1 (.slice A0 S.D.fn.length a0) (.slice A1 S.D.fl.length a1) (.slice A2 S.D.nn.length a2) (.slice A3 S.D.nl.length a3) (.slice A4 S.D.ss.length a4) (.slice A5 S.cs.length a5) (.slice A6 S.ds.length a6) S fs:=by simpa using ho1
 have HS2:=Lib.hid (OutSS.start hO1 (Nat.le_refl _) hX1 hR1 hbw1);obtain⟨x_0,x_1,x_2,x_3,x_4,x_5,x_6,x_7⟩:=hX1.c8;have hX1l:=hX1.lt;clear ho1 hb1 hO1
 go_wp2_with fail
 obtain⟨w2,hw2⟩:∃w2,w2=w1.alloc (.cells #[.slice A0 S.D.fn.length a0,.slice A1 S.D.fl.length a1,.slice A2 S.D.nn.length a2,.slice A3 S.D.nl.length a3,.slice A4 S.D.ss.length a4,.slice A5 S.cs.length a5,.slice A6 S.ds.length a6,.int .i64 S.fund] 34):=⟨_,rfl⟩;rw[←hw2] at HS2⊢;generalize w1.heap.size=Z at*;clear hw2 hX1 hR1 hbw1 x_0 x_1 x_2 x_3 x_4 x_5 x_6 x_7 hX1l hz1;refine(Vx _ _ _ _ _ _ _ S r _ (HH.out.below HS2.out.blw) HR).mono ?_
 rintro e w3 ⟨rfl,hb3⟩;have HS3:=Lib.hid (HS2.out.below hb3);clear hb3 HS2;have hX3:=HS3.out.X;obtain⟨x_0,x_1,x_2,x_3,x_4,x_5,x_6,x_7⟩:=hX3.c8;have hX3l:=hX3.lt;have hZ3l:=HS3.out.Z_.lt
 cases r
 ·obtain⟨u1,u2⟩:=Xd (S:=S) (f:=pl) (c:=pm) (.inl hr)
  have hu:S=E:=by rw[←HE.out];exact u1.symm
  have hv:false=bb:=by rw[←HBB.out];exact u2.symm
  subst hu;subst hv;have HF:=HS3;clear HS3 HE HBB u1 u2 hr hX3 hX3l hZ3l;obtain⟨_,_,hR,hZ,hZl,_,_⟩:=HF.out;obtain⟨z_0,z_1,z_2,z_3,z_4,z_5,z_6,z_7⟩:=hZ.c8;obtain⟨r_0,r_1,r_2,r_3,r_4,r_5,r_6,r_7,r_f0,r_f1,r_f2,r_f3,r_f4,r_f5,r_f6,r_f7⟩:=hR.b8;have hRlt:=hR.lt;have hZlt:=hZ.lt;have HFF:=Lib.hid (fun u0 u1 u2 u3 u4 u5 u6 u7=>HF.out.fin u0 u1 u2 u3 u4 u5 u6 u7);clear hR hZ HF;go_wp2;exact bodyPost_ret (v:= .tuple #[.agg #[.slice A0 S.D.fn.length a0,.slice A1 S.D.fl.length a1,.slice A2 S.D.nn.length a2,.slice A3 S.D.nl.length a3,.slice A4 S.D.ss.length a4,.slice A5 S.cs.length a5,.slice A6 S.ds.length a6,.int .i64 S.fund],.bool false]) (by simp[results,Tryz.results48,go_sem,r_0,r_1,r_2,r_3,r_4,r_5,r_6,r_7,hRlt]) rfl ⟨_,_,_,_,_,_,_,_,_,_,_,_,_,_,fs,rfl,(HFF.out _ _ _ _ _ _ _ _).1,(HFF.out _ _ _ _ _ _ _ _).2⟩
 ·have HN:=Lib.hid (HH.out.dr.nn.below HS3.out.blw)
  have HL:=Lib.hid (HH.out.dr.nl.below HS3.out.blw);obtain⟨q,hq⟩:∃q,jB S.D.nn S.D.nl pl=q:=⟨_,rfl⟩;have HQ:=Lib.hid hq
  go_wp2_with fail
  refine(z0f _ _ S.D.nn S.D.nl pl _ HN.out HL.out).mono ?_
  rw[hq];clear hq;rintro e w4 ⟨rfl,hb4⟩;have HS4:=Lib.hid (HS3.out.below hb4);clear HS3 hX3 hX3l hZ3l x_0 x_1 x_2 x_3 x_4 x_5 x_6 x_7 hb4 HN HL
  cases q
  ·obtain⟨u1,u2⟩:=Xd (S:=S) (f:=pl) (c:=pm) (.inr HQ.out)
   have hu:S=E:=by rw[←HE.out];exact u1.symm
   have hv:false=bb:=by rw[←HBB.out];exact u2.symm
   subst hu;subst hv;have HF:=HS4;clear HS4 HE HBB u1 u2 hr HQ;obtain⟨_,_,hR,hZ,hZl,_,_⟩:=HF.out;obtain⟨z_0,z_1,z_2,z_3,z_4,z_5,z_6,z_7⟩:=hZ.c8;obtain⟨r_0,r_1,r_2,r_3,r_4,r_5,r_6,r_7,r_f0,r_f1,r_f2,r_f3,r_f4,r_f5,r_f6,r_f7⟩:=hR.b8;have hRlt:=hR.lt;have hZlt:=hZ.lt;have HFF:=Lib.hid (fun u0 u1 u2 u3 u4 u5 u6 u7=>HF.out.fin u0 u1 u2 u3 u4 u5 u6 u7);clear hR hZ HF;go_wp2;exact bodyPost_ret (v:= .tuple #[.agg #[.slice A0 S.D.fn.length a0,.slice A1 S.D.fl.length a1,.slice A2 S.D.nn.length a2,.slice A3 S.D.nl.length a3,.slice A4 S.D.ss.length a4,.slice A5 S.cs.length a5,.slice A6 S.ds.length a6,.int .i64 S.fund],.bool false]) (by simp[results,Tryz.results48,go_sem,r_0,r_1,r_2,r_3,r_4,r_5,r_6,r_7,hRlt]) rfl ⟨_,_,_,_,_,_,_,_,_,_,_,_,_,_,fs,rfl,(HFF.out _ _ _ _ _ _ _ _).1,(HFF.out _ _ _ _ _ _ _ _).2⟩
  ·obtain⟨_,k,rfl,hk,_⟩:=z2e HQ.out
   have hfl:=zL S.D.nn S.D.nl;have hX4:=HS4.out.X;obtain⟨x_0,x_1,x_2,x_3,x_4,x_5,x_6,x_7⟩:=hX4.c8;have hX4l:=hX4.lt;have hZ4l:=HS4.out.Z_.lt;have hlen6:=HLE.out.ds;obtain⟨y,hy⟩:∃z,dayN S.ds=z:=⟨_,rfl⟩;have HDAY:=Lib.hid hy;clear hy
   go_upto_if 29 with (fail)
   go_cut [9] (fun s9 wx=>s9= .int .i64 y∧wx=w4)
   case first=>
    rcases Nat.eq_zero_or_pos S.ds.length with hds|hds
    ·have HD0:Hid ((0:Int)=y):=Lib.hid (by rw[←HDAY.out];unfold dayN;rw[if_pos hds])
     have hpos:¬(0:Int)<(S.ds.length:Int):=by omega
     clear hds;go_wp2;go_meet
     exact⟨by rw[HD0.out],rfl⟩
    ·obtain⟨m,hm⟩:∃m,S.ds.length=m+1:=⟨S.ds.length -1,by omega⟩
     obtain⟨hd0,hd1,hd2,hd3⟩:=z2I hr hm;rw[HDAY.out] at hd3;have HD0:=Lib.hid hd3.symm;obtain⟨b6,off6,rfl,hat0⟩:=HAT.out hds;have hat:=hat0.below HS4.out.blw;obtain⟨_,_,hq2⟩:=hat.2 m (by omega);have hat1:=hat.1;generalize (dpI S.ds m).b =db at*;have hpos:(0:Int)<(S.ds.length:Int):=by omega
     have hsub:(S.ds.length:Int) -1=(m:Int):=by omega
     have hw1:IntKind.i64.wrap ((S.ds.length:Int) -1)=(m:Int):=by rw[hsub];exact IntWalk.i64_in _ (by omega)
     have ik1:(0:Int)≤(m:Int):=by omega
     have ik2:(m:Int)<(S.ds.length:Int):=by omega
     have hw2:IntKind.i64.wrap (db+1)=db+1:=IntWalk.i64_in _ (by omega);clear hd3 hat hat0 hds hm hsub;go_wp2;go_meet
     exact⟨by rw[HD0.out],rfl⟩
   case rest=>
    obtain⟨rfl,hwc⟩:=hcut;have hwc2:=hwc.symm;clear hwc;subst hwc2;obtain⟨nu,hnu⟩:∃z,numN S.D.nn S.D.nl k=z:=⟨_,rfl⟩;have HNU0:=Lib.hid hnu;have HNU1:=fun (v:World) (hb:Below w.heap.size w v)=>z4l v2 v3 S.D.nn S.D.nl k v (HH.out.dr.nn.below hb) (HH.out.dr.nl.below hb)
    rw[hnu] at HNU1;have HNU:=Lib.hid HNU1;clear hnu HNU1;obtain⟨dd,hdd⟩:∃d:Dp,(⟨nu,pm,y⟩:Dp)=d:=⟨_,rfl⟩;have HDD:=Lib.hid hdd;obtain⟨l',hl'⟩:∃l,adpL S.ds dd=l:=⟨_,rfl⟩;obtain⟨b',hb'⟩:∃b,adpB S.ds dd=b:=⟨_,rfl⟩;have HL':=Lib.hid hl';have HB':=Lib.hid hb';have HAD:=Lib.hid (fun (v:World) (hb:Below w.heap.size w v)=>Xz (.slice B6 S.ds.length d6) S.ds dd v (HH.out.ds.below hb) HLE.out.ds);rw[hl',hb'] at HAD;rw[←hdd] at HAD;clear hl' hb' hdd;have hBW:=HS4.out.blw;have hbd0:Below w4.heap.size w4 w4.drew:=(Below.refl _ _).drew;have hBW0:=hBW.trans (hbd0.mono hBW.size)
    go_upto_region 7 with (fail)
    refine xO (n:=14) (S:=fun w'=>w'.cell? ⟨w.heap.size,2,none⟩=some v2∧w'.cell? ⟨w.heap.size,3,none⟩=some v3∧w'.cell? ⟨w.heap.size,6,none⟩=some (.slice B6 S.ds.length d6)) (by kernel_rfl) ⟨x_2,x_3,x_6⟩ (fun hS=>?_)
    (refine zq (i:=0) (v:=?_) rfl rfl (by kernel_rfl) (by kernel_rfl) (by kernel_rfl) (by kernel_rfl) (by kernel_rfl) (fun _ _ _ h=>h) (Or.inl ⟨by rfl,?_⟩) (by assumption) ?_);rotate_left;(focus (intro w' hSw;(try dsimp only at hSw);go_simp;(try with_reducible rfl)));(try simp only[Act.put,List.setIfInBounds_toArray,List.set_cons_zero,List.set_cons_succ])
    (refine zq (i:=1) (v:=?_) rfl rfl (by kernel_rfl) (by kernel_rfl) (by kernel_rfl) (by kernel_rfl) (by kernel_rfl) (fun _ _ _ h=>h) (Or.inl ⟨by rfl,?_⟩) (by assumption) ?_);rotate_left;(focus (intro w' hSw;(try dsimp only at hSw);go_simp;(try with_reducible rfl)));(try simp only[Act.put,List.setIfInBounds_toArray,List.set_cons_zero,List.set_cons_succ])
    (refine zq (i:=2) (v:=?_) rfl rfl (by kernel_rfl) (by kernel_rfl) (by kernel_rfl) (by kernel_rfl) (by kernel_rfl) (fun _ _ _ h=>h) (Or.inl ⟨by rfl,?_⟩) (by assumption) ?_);rotate_left;(focus (intro w' hSw;(try dsimp only at hSw);go_simp;(try with_reducible rfl)));(try simp only[Act.put,List.setIfInBounds_toArray,List.set_cons_zero,List.set_cons_succ])
    (refine zq (i:=3) (v:=?_) rfl rfl (by kernel_rfl) (by kernel_rfl) (by kernel_rfl) (by kernel_rfl) (by kernel_rfl) (fun _ _ _ h=>h) (Or.inl ⟨by rfl,?_⟩) (by assumption) ?_);rotate_left;(focus (intro w' hSw;(try dsimp only at hSw);go_simp;(try with_reducible rfl)));(try simp only[Act.put,List.setIfInBounds_toArray,List.set_cons_zero,List.set_cons_succ])
    (refine zq (i:=4) (v:=?_) rfl rfl (by kernel_rfl) (by kernel_rfl) (by kernel_rfl) (by kernel_rfl) (by kernel_rfl) (fun _ _ _ h=>h) (Or.inl ⟨by rfl,?_⟩) (by assumption) ?_);rotate_left;(focus (intro w' hSw;(try dsimp only at hSw);go_simp;(try with_reducible rfl)));(try simp only[Act.put,List.setIfInBounds_toArray,List.set_cons_zero,List.set_cons_succ])
    (refine zq (i:=5) (v:=?_) rfl rfl (by kernel_rfl) (by kernel_rfl) (by kernel_rfl) (by kernel_rfl) (by kernel_rfl) (fun _ _ _ h=>h) (Or.inl ⟨by rfl,?_⟩) (by assumption) ?_);rotate_left;(focus (intro w' hSw;(try dsimp only at hSw);go_simp;(try with_reducible rfl)));(try simp only[Act.put,List.setIfInBounds_toArray,List.set_cons_zero,List.set_cons_succ])
    (refine zq (i:=7) (v:=?_) rfl rfl (by kernel_rfl) (by kernel_rfl) (by kernel_rfl) (by kernel_rfl) (by kernel_rfl) (fun _ _ _ h=>h) (Or.inl ⟨by rfl,?_⟩) (by assumption) ?_);rotate_left;(focus (intro w' hSw;(try dsimp only at hSw);go_simp;(try with_reducible rfl)));(try simp only[Act.put,List.setIfInBounds_toArray,List.set_cons_zero,List.set_cons_succ])
    (refine zq (i:=8) (v:=?_) rfl rfl (by kernel_rfl) (by kernel_rfl) (by kernel_rfl) (by kernel_rfl) (by kernel_rfl) (fun _ _ _ h=>h) (Or.inl ⟨by rfl,?_⟩) (by assumption) ?_);rotate_left;(focus (intro w' hSw;(try dsimp only at hSw);go_simp;(try with_reducible rfl)));(try simp only[Act.put,List.setIfInBounds_toArray,List.set_cons_zero,List.set_cons_succ])
    (refine yW (i:=6) rfl (by kernel_rfl) (fun K hK=>?_));(rw[if_pos (by rfl)])
    go_simp
    go_at_call 40
    refine(HNU.out _ hBW0).mono ?_
    rintro e w5 ⟨rfl,hb5⟩;have hb45:Below w4.heap.size w4 w5:=hbd0.trans (hb5.mono hbd0.size);have hBW5:=hBW.trans (hb45.mono hBW.size);clear hb5
    go_wp2_with fail
    refine hK _ _ (fun _=>⟨(hb45.cell (p:=⟨w.heap.size,2,none⟩) hX4l).trans x_2,(hb45.cell (p:=⟨w.heap.size,3,none⟩) hX4l).trans x_3,(hb45.cell (p:=⟨w.heap.size,6,none⟩) hX4l).trans x_6⟩) (fun hS'=>?_)
    have hS:=hS' (by kernel_rfl);clear hK K hS'
    (try simp only[Act.put,List.setIfInBounds_toArray,List.set_cons_zero,List.set_cons_succ])
    (refine zq (i:=9) (v:=?_) rfl rfl (by kernel_rfl) (by kernel_rfl) (by kernel_rfl) (by kernel_rfl) (by kernel_rfl) (fun _ _ _ h=>h) (Or.inl ⟨by rfl,?_⟩) (by assumption) ?_);rotate_left;(focus (intro w' hSw;(try dsimp only at hSw);go_simp;(try with_reducible rfl)));(try simp only[Act.put,List.setIfInBounds_toArray,List.set_cons_zero,List.set_cons_succ])
    (refine yW (i:=10) rfl (by kernel_rfl) (fun K hK=>?_));(rw[if_pos (by rfl)])
    go_simp
    go_at_call 123
    refine(HAD.out _ hBW5).mono ?_
    rintro e w6 ⟨vt,rfl,ho6,hb6⟩;obtain⟨T6,t6,rfl⟩:=zH.form ho6;have hb46:=hb45.trans (hb6.mono hb45.size);have HF:=Lib.hid (OutSS.newDs HS4.out hb46 (zH.mono ho6 hb45.size));have HS6:=Lib.hid (HS4.out.below hb46);clear hb6 ho6
    go_wp2_with fail
    refine hK _ _ (fun _=>⟨(hb46.cell (p:=⟨w.heap.size,2,none⟩) hX4l).trans x_2,(hb46.cell (p:=⟨w.heap.size,3,none⟩) hX4l).trans x_3,(hb46.cell (p:=⟨w.heap.size,6,none⟩) hX4l).trans x_6⟩) (fun hS'=>?_)
    have hS:=hS' (by kernel_rfl);clear hK K hS'
    (try simp only[Act.put,List.setIfInBounds_toArray,List.set_cons_zero,List.set_cons_succ])
    (refine zq (i:=11) (v:=?_) rfl rfl (by kernel_rfl) (by kernel_rfl) (by kernel_rfl) (by kernel_rfl) (by kernel_rfl) (fun _ _ _ h=>h) (Or.inl ⟨by rfl,?_⟩) (by assumption) ?_);rotate_left;(focus (intro w' hSw;(try dsimp only at hSw);go_simp;(try with_reducible rfl)));(try simp only[Act.put,List.setIfInBounds_toArray,List.set_cons_zero,List.set_cons_succ])
    (refine zq (i:=12) (v:=?_) rfl rfl (by kernel_rfl) (by kernel_rfl) (by kernel_rfl) (by kernel_rfl) (by kernel_rfl) (fun _ _ _ h=>h) (Or.inl ⟨by rfl,?_⟩) (by assumption) ?_);rotate_left;(focus (intro w' hSw;(try dsimp only at hSw);go_simp;(try with_reducible rfl)));(try simp only[Act.put,List.setIfInBounds_toArray,List.set_cons_zero,List.set_cons_succ])
    (refine z2j (i:=13) (v:=?_) rfl (by decide) (by kernel_rfl) (by kernel_rfl) (by kernel_rfl) (fun _ _ _ h=>h) (Or.inl ⟨by rfl,?_⟩) (by assumption) ?_);rotate_left;(focus (intro w' hSw;(try dsimp only at hSw);go_simp;(try with_reducible rfl)));(try simp only[Act.put,List.setIfInBounds_toArray,List.set_cons_zero,List.set_cons_succ])
    (refine yW (i:=14) rfl (by kernel_rfl) (fun K hK=>?_));(rw[if_pos (by rfl)])
    go_simp;refine hK _ _ (fun h=>by cases h) (fun _=>?_)
    clear hK K
    (try simp only[Act.put,List.setIfInBounds_toArray,List.set_cons_zero,List.set_cons_succ])
    (refine yW (i:=15) rfl (by kernel_rfl) (fun K hK=>?_));(rw[if_pos (by rfl)])
    go_simp;refine hK _ _ (fun h=>by cases h) (fun _=>?_)
    clear hK K
    (try simp only[Act.put,List.setIfInBounds_toArray,List.set_cons_zero,List.set_cons_succ])
    refine VJ (by kernel_rfl) ?_ _
    clear HS4 hb46 hb45 hBW hBW0 hBW5 hbd0 hS hX4 hX4l hZ4l x_0 x_1 x_2 x_3 x_4 x_5 x_6 x_7 HAD HNU
    cases b'
    ·clear HF
     obtain⟨u1,u2⟩:=z4A hr HQ.out HDAY.out HNU0.out HDD.out HB'.out;have hu:S=E:=by rw[←HE.out];exact u1.symm
     have hv:false=bb:=by rw[←HBB.out];exact u2.symm
     subst hu;subst hv;have HF:=HS6;clear HS6 HE HBB u1 u2 hr HB' HL';obtain⟨_,_,hR,hZ,hZl,_,_⟩:=HF.out;obtain⟨z_0,z_1,z_2,z_3,z_4,z_5,z_6,z_7⟩:=hZ.c8;obtain⟨r_0,r_1,r_2,r_3,r_4,r_5,r_6,r_7,r_f0,r_f1,r_f2,r_f3,r_f4,r_f5,r_f6,r_f7⟩:=hR.b8;have hRlt:=hR.lt;have hZlt:=hZ.lt;have HFF:=Lib.hid (fun u0 u1 u2 u3 u4 u5 u6 u7=>HF.out.fin u0 u1 u2 u3 u4 u5 u6 u7);clear hR hZ HF;go_wp2;exact bodyPost_ret (v:= .tuple #[.agg #[.slice A0 S.D.fn.length a0,.slice A1 S.D.fl.length a1,.slice A2 S.D.nn.length a2,.slice A3 S.D.nl.length a3,.slice A4 S.D.ss.length a4,.slice A5 S.cs.length a5,.slice A6 S.ds.length a6,.int .i64 S.fund],.bool false]) (by simp[results,Tryz.results48,go_sem,r_0,r_1,r_2,r_3,r_4,r_5,r_6,r_7,hRlt]) rfl ⟨_,_,_,_,_,_,_,_,_,_,_,_,_,_,fs,rfl,(HFF.out _ _ _ _ _ _ _ _).1,(HFF.out _ _ _ _ _ _ _ _).2⟩
    ·obtain⟨u1,u2⟩:=VR hr HQ.out HDAY.out HNU0.out HDD.out
     rw[HL'.out] at u1;rw[HB'.out] at u2;have hu:(⟨S.D,S.cs,l',S.fund⟩:St)=E:=by rw[←HE.out];exact u1.symm
     have hv:true=bb:=by rw[←HBB.out];exact u2.symm
     subst hu;subst hv;obtain⟨_,_,hR,hZ,hZl,_,_⟩:=HS6.out;obtain⟨z_0,z_1,z_2,z_3,z_4,z_5,z_6,z_7,z_f0,z_f1,z_f2,z_f3,z_f4,z_f5,z_f6,z_f7⟩:=hZ.b8;obtain⟨r_0,r_1,r_2,r_3,r_4,r_5,r_6,r_7,r_f0,r_f1,r_f2,r_f3,r_f4,r_f5,r_f6,r_f7⟩:=hR.b8;have hRlt:=hR.lt;have hZlt:=hZ.lt;have HFF:=Lib.hid (fun u0 u1 u2 u3 u4 u5 u6 u7=>HF.out.fin u0 u1 u2 u3 u4 u5 u6 u7);clear hR hZ HF HS6 HE HBB u1 u2 hr HL' HB';have hne1:¬Z=w.heap.size+1:=by omega
     have hne2:¬w.heap.size+1=Z:=by omega
     go_wp2;exact bodyPost_ret (v:= .tuple #[.agg #[.slice A0 S.D.fn.length a0,.slice A1 S.D.fl.length a1,.slice A2 S.D.nn.length a2,.slice A3 S.D.nl.length a3,.slice A4 S.D.ss.length a4,.slice A5 S.cs.length a5,.slice T6 l'.length t6,.int .i64 S.fund],.bool true]) (by simp[results,Tryz.results48,go_sem,r_0,r_1,r_2,r_3,r_4,r_5,r_6,r_7,z_0,z_1,z_2,z_3,z_4,z_5,z_6,z_7,hRlt,hZlt,hne1,hne2]) rfl ⟨_,_,_,_,_,_,_,_,_,_,_,_,_,_,fs,rfl,(HFF.out _ _ _ _ _ _ _ _).1,(HFF.out _ _ _ _ _ _ _ _).2⟩
end Go.Proofs.YtnjcpljhmhdhkaaGreat
