/- part 34 -/
import Derived.Test.YtnjcpljhmhdhkaaGreatTPk33
import Derived.Deep.RegionHeld3
set_option linter.unusedSimpArgs false
set_option linter.unusedVariables false
set_option maxRecDepth 100000
set_option maxHeartbeats 16000000
namespace Go.Proofs.YtnjcpljhmhdhkaaGreat
open Go.RowKit
attribute [local go_sem ↓] zr zq zU zT
theorem z3w (vn vl:Value) (ns ls:List Pr) (k:Nat) (x y:Int) (w:World) (hn:RP w vn ns) (hl:RP w vl ls) (hw:zC ns ls) (hk:k<ls.length):
  Calls Tryz.prog 259 #[.agg #[vn,vl],.int .i64 k,.agg #[.int .i64 x,.int .i64 y]] w (zI (splN ns ls k x y) (splL ns ls k x y) (splB ns ls k x y) w):=by
 obtain⟨i0,hi,iz0,iz1,iz2⟩:=info_parts kB;obtain⟨j0,hj,jz0,jz1,jz2⟩:=info_parts jd;obtain⟨An,cn,rfl,FQ,GW,Hp⟩:=hn.formI;obtain⟨Al,cl,rfl,Hz,GM,gg⟩:=hl.formI;unfold maxLen at GW GM;have Gn:=zu.2 hw;have FG:=hw.2.1;have BP:=hw.1;have Zc:=hw.2.2.1;obtain⟨p1,p2,p3,_⟩:=zZ.1 (hw.2.2.2.2.2 k hk).1;obtain⟨p,hp⟩:∃p:Nat,(ndI ls k).1=p:=⟨(ndI ls k).1.toNat,by omega⟩;obtain⟨q,hq⟩:∃q:Nat,(ndI ls k).2=q:=⟨(ndI ls k).2.toNat,by omega⟩;obtain⟨bn,offn,rfl,Gh,m8⟩:=Hp o_;obtain⟨bl,offl,rfl,Hd,Nz⟩:=gg o_;obtain⟨l0,l1⟩:=Nz k hk;obtain⟨a0,a1⟩:=m8 p o_;obtain⟨b0,b1⟩:=m8 q o_;rw[hp] at l0;rw[hq] at l1;have ip0:(0:Int)<=(p:Int):=o_
 have ip1:(p:Int)<(ns.length:Int):=o_
 have iq0:(0:Int)<=(q:Int):=o_
 have iq1:(q:Int)<(ns.length:Int):=o_
 have ik0:(0:Int)<=(k:Int):=o_
 have ik1:(k:Int)<(ls.length:Int):=o_
 have Gg:inB (k:Int) 0 ((ls.length:Int) -1)=true:=zc.2 ⟨by omega,by omega⟩;obtain⟨bw,gi⟩:∃bw,jh (ndI ns (p:Int)) (ndI ns (q:Int)) (x,y)=bw:=⟨_,rfl⟩;have HB:Hid (splB ns ls k x y=(bw&&winB (V8 ns x y) (Qq ns ls k))):=h_ (by unfold splB;rw[hp,hq,gi]);have HL:Hid (Qq ns ls k=(ls++[((q:Int),(ns.length:Int))]).set k ((p:Int),(ns.length:Int))):=h_ (by unfold Qq;rw[hp,hq]);have HP:Hid (ndI ls k=((p:Int),(q:Int))):=h_ (by rw[<-hp,<-hq]);obtain⟨bb,H4⟩:∃bb,splB ns ls k x y=bb:=⟨_,rfl⟩;obtain⟨NN,rE⟩:∃NN,splN ns ls k x y=NN:=⟨_,rfl⟩;obtain⟨LL,hLL⟩:∃LL,splL ns ls k x y=LL:=⟨_,rfl⟩;rw[H4,rE,hLL];have H9:=h_ H4;have nh:=h_ rE;have Ww:=h_ hLL;have fY:=h_ gi;clear hw H4 rE hLL Hp gg Nz m8 hp hq p1 p2 p3 gi
 go_enter Tryz.func259,Tryz.ntmps259
 go_wp2_with fail
 refine(zR _ _ ns ls _ (hn.below bel_) (hl.below bel_) o_ o_).mono ?_
 rintro e w1 ⟨A1,c1,B1,d1,rfl,Hj,Hb⟩;have H7:=Hb.size;simp at H7
 have gd:OwnW (w.heap.size+1+1+1) w1 (.slice A1 ns.length c1) (.slice B1 ls.length d1) ns ls:=by simpa using Hj
 have Hu:=Hj.lt
 have GH:Hid (SpSt w (.slice (some ⟨bn,offn,none⟩) ns.length cn) (.slice (some ⟨bl,offl,none⟩) ls.length cl) x y w1.heap.size A1 c1 B1 d1 ns ls (w1.alloc (.cells #[.slice A1 ns.length c1,.slice B1 ls.length d1] 27))):=h_
  ⟨(Blk.below (((Blk.newAt rfl).alloc _).alloc _) Hb sz_).alloc _,(Blk.below ((Blk.newAt (by simp)).alloc _) Hb sz_).alloc _,(Blk.below (Blk.newAt (by simp)) Hb sz_).alloc _,Blk.newAt rfl,gd.alloc _,by omega,
   fun b hb e=>by have:=(Hu b hb).2;omega,by exact bel_⟩
 clear Hb Hj gd Hu;obtain⟨wb,hwb⟩:∃wb,wb=w1.alloc (.cells #[.slice A1 ns.length c1,.slice B1 ls.length d1] 27):=⟨_,rfl⟩;have Ux:w1.heap.size<wb.heap.size:=by rw[hwb];simp
 go_upto_region 2 with (fail)
 rw[<-hwb] at GH⊢;generalize w1.heap.size=T at*;clear hwb;have CO:=GH.out.blw;have Wr:=CO.size;have hA:=GH.out.A;have hPp:=GH.out.P;have hnb:=hn.below CO;have hlb:=hl.below CO;obtain⟨a_0,a_1⟩:=hA.c2;obtain⟨n_0,n_1⟩:=hPp.c2;have zz0:w.heap.size<wb.heap.size:=o_
 have zz1:w.heap.size+1<wb.heap.size:=o_
 have nbn:bn<wb.heap.size:=o_
 have nbl:bl<wb.heap.size:=o_
 have m0:=(CO.cell (p:=⟨bl,offl+k*2,none⟩) Hd).trans l0;have m1:=(CO.cell (p:=⟨bl,offl+k*2+1,none⟩) Hd).trans l1;have s0:=(CO.cell (p:=⟨bn,offn+p*2,none⟩) Gh).trans a0;have s1:=(CO.cell (p:=⟨bn,offn+p*2+1,none⟩) Gh).trans a1;have t0:=(CO.cell (p:=⟨bn,offn+q*2,none⟩) Gh).trans b0;have t1:=(CO.cell (p:=⟨bn,offn+q*2+1,none⟩) Gh).trans b1;have HX:=fY.out
 (refine z7 k_ k_ (fun hG=>?_))
 repeat (go_big_quiet_step (first|(go_at_call 118;exact zE (zH _ _ ns ls true _ (RS.grw _ hnb) (RS.grw _ hlb) Gn))|(go_at_call 138;exact zY (zP _ _ _ true _ Gg))|(go_at_call 240;exact zE (z7R (ndI ns (p:Int)) (ndI ns (q:Int)) (x,y) bw _ fY.out))))
 (refine wpQuiet_nil ?_);(clear hG);(rintro w3 ⟨⟨_,Hg⟩,rfl⟩);(try dsimp only);have fC:=Hg.size;(try simp at fC);(try have F1:=p0_ w w3);(try have F2:=p1_ w w3);(try have Me:=p2_ w w3);(try have WE:=p3_ w w3)
 cases bw
 ·have fF:splB ns ls k x y=false:=by rw[HB.out];rfl
  have e1:false=bb:=by rw[<-H9.out];exact fF.symm
  have e2:ns=NN:=by rw[<-nh.out];exact(Qz fF).1.symm
  have e3:ls=LL:=by rw[<-Ww.out];exact(Qz fF).2.symm
  subst e1 e2 e3;have Ht:=h_ (GH.out.below Hg);have Ga:=Ht.out.R;have Bt:=Ht.out.T_;obtain⟨r_0,r_1,r_f0,r_f1⟩:=Ga.b2;obtain⟨t_0,t_1⟩:=Bt.c2;have Gx:=Ga.lt;have HF:=h_ (fun u0 u1=>Ht.out.fin u0 u1);clear GH Ht Ga Bt hA hPp Hg HX fY H9 nh Ww HB HL HP fF m0 m1 s0 s1 t0 t1 a_0 a_1 n_0 n_1 hnb hlb CO;go_wp2;exact bodyPost_ret (v:= .tuple #[.agg #[.slice A1 ns.length c1,.slice B1 ls.length d1],.bool false]) (by simp[results,Tryz.results259,go_sem,r_0,r_1,Gx]) rfl (zI.mk rfl rfl rfl (HF.out _ _).1 (HF.out _ _).2)
 ·have Ht:=h_ (GH.out.below Hg)
  clear GH hA hPp Hg HX fY m0 m1 s0 s1 t0 t1 a_0 a_1 n_0 n_1 hnb hlb CO;have hA:=Ht.out.A;have hP:=Ht.out.P;have hT:=Ht.out.T_;obtain⟨a_0,a_1⟩:=hA.c2;obtain⟨n_0,n_1⟩:=hP.c2;obtain⟨t_0,t_1⟩:=hT.c2;have CM:=h_ (Ht.out.alloc (.cells #[.int .i64 x,.int .i64 y] 106))
  go_wp2_with (at_builtin;refine zj rfl _ _ _ rfl (w.heap.size+1+1+1) 106 i0 Tryz.underlying24 hi iz0 iz1 iz2 (.slice A1 ns.length c1) _ ns [(x,y)] rfl rfl CM.out.own.1 (j6 (by simp) rfl rfl rfl (by simp[maxLen])) (by simp;omega) (by simp;omega) ?_)
  intro A4 c4 w4 gz Gf C2;have gx:=h_ (CM.out.putN (N':=ns++[(x,y)]) (n:=ns.length+1) (by simp) gz Gf (by simpa using C2));have BF:=CM.out.T_.grownR Gf (fun k hk e=>CM.out.far k (.inl hk) e);clear hA hP hT a_0 a_1 n_0 n_1 t_0 t_1 Gf C2 gz CM Ht;obtain⟨t_0,t_1,t_f0,t_f1⟩:=BF.b2;obtain⟨w5,GE⟩:∃v,v=w4.setCell ⟨T,0,none⟩ (.slice A4 (ns.length+1) c4):=⟨_,rfl⟩;rw[<-GE] at gx;have FP:=gx.out.T_;have CE:=gx.out.A;have Hm:(ns++[(x,y)]).length =ns.length+1:=by simp
  clear Hm BF
  go_upto_region 6 with (fail)
  try rw[<-GE]
  clear GE t_0 t_1 t_f0 t_f1;have m1:=(gx.out.blw.cell (p:=⟨bl,offl+k*2+1,none⟩) Hd).trans l1;refine vO (n:=13) (S:=fun w'=>w'.cell? ⟨w.heap.size,1,none⟩=some (.slice (some ⟨bl,offl,none⟩) ls.length cl)/\w'.cell? ⟨T,1,none⟩=some (.slice B1 ls.length d1)/\w'.cell? ⟨bl,offl+k*2+1,none⟩=some (.int .i64 (q:Int))) k_ ⟨CE.cell 1,FP.cell 1,m1⟩ (fun hS=>?_)
  clear CE FP m1
  (refine zv (i:=0) (v:=?_) rfl rfl k_ k_ k_ k_ (fun _ _ _ h=>h) (Or.inl ⟨by rfl,?_⟩) (by assumption) ?_);rotate_left;(focus (intro w' gm;(try dsimp only at gm);go_simp;(try with_reducible rfl)));(try simp only[lp_])
  (refine zv (i:=1) (v:=?_) rfl rfl k_ k_ k_ k_ (fun _ _ _ h=>h) (Or.inl ⟨by rfl,?_⟩) (by assumption) ?_);rotate_left;(focus (intro w' gm;(try dsimp only at gm);go_simp;(try with_reducible rfl)));(try simp only[lp_])
  (refine zv (i:=2) (v:=?_) rfl rfl k_ k_ k_ k_ (fun _ _ _ h=>h) (Or.inl ⟨by rfl,?_⟩) (by assumption) ?_);rotate_left;(focus (intro w' gm;(try dsimp only at gm);go_simp;(try with_reducible rfl)));(try simp only[lp_])
  (refine zv (i:=3) (v:=?_) rfl rfl k_ k_ k_ k_ (fun _ _ _ h=>h) (Or.inl ⟨by rfl,?_⟩) (by assumption) ?_);rotate_left;(focus (intro w' gm;(try dsimp only at gm);go_simp;(try with_reducible rfl)));(try simp only[lp_])
  (refine zv (i:=4) (v:=?_) rfl rfl k_ k_ k_ k_ (fun _ _ _ h=>h) (Or.inl ⟨by rfl,?_⟩) (by assumption) ?_);rotate_left;(focus (intro w' gm;(try dsimp only at gm);go_simp;(try with_reducible rfl)));(try simp only[lp_])
  (refine zv (i:=5) (v:=?_) rfl rfl k_ k_ k_ k_ (fun _ _ _ h=>h) (Or.inl ⟨by rfl,?_⟩) (by assumption) ?_);rotate_left;(focus (intro w' gm;(try dsimp only at gm);go_simp;(try with_reducible rfl)));(try simp only[lp_])
  (refine zv (i:=6) (v:=?_) rfl rfl k_ k_ k_ k_ (fun _ _ _ h=>h) (Or.inl ⟨by rfl,?_⟩) (by assumption) ?_);rotate_left;(focus (intro w' gm;(try dsimp only at gm);go_simp;(try with_reducible rfl)));(try simp only[lp_])
  (refine zv (i:=7) (v:=?_) rfl rfl k_ k_ k_ k_ (fun _ _ _ h=>h) (Or.inl ⟨by rfl,?_⟩) (by assumption) ?_);rotate_left;(focus (intro w' gm;(try dsimp only at gm);go_simp;(try with_reducible rfl)));(try simp only[lp_])
  (refine zv (i:=8) (v:=?_) rfl rfl k_ k_ k_ k_ (fun _ _ _ h=>h) (Or.inl ⟨by rfl,?_⟩) (by assumption) ?_);rotate_left;(focus (intro w' gm;(try dsimp only at gm);go_simp;(try with_reducible rfl)));(try simp only[lp_])
  (refine zv (i:=9) (v:=?_) rfl rfl k_ k_ k_ k_ (fun _ _ _ h=>h) (Or.inl ⟨by rfl,?_⟩) (by assumption) ?_);rotate_left;(focus (intro w' gm;(try dsimp only at gm);go_simp;(try with_reducible rfl)));(try simp only[lp_])
  (refine qP (i:=10) rfl k_ (fun K hK=>?_));(rw[aao (by rfl)])
  go_simp;have BK:=h_ ((gx.out.alloc (.cells #[.int .i64 (q:Int),.int .i64 (ns.length:Int)] 108)).drew);have mB:=(BK.out.blw.cell (p:=⟨bl,offl+k*2+1,none⟩) Hd).trans l1;refine hK _ _ (fun _=>⟨BK.out.A.cell 1,BK.out.T_.cell 1,mB⟩) (fun gh=>?_)
  clear hK K hS gh mB
  (try simp only[lp_])
  (refine qP (i:=11) rfl k_ (fun K hK=>?_))
  refine zk rfl _ _ _ rfl (w.heap.size+1+1+1) 108 j0 Tryz.underlying25 hj jz0 jz1 jz2 (.slice B1 ls.length d1) _ ls [((q:Int),(ns.length:Int))] rfl rfl BK.out.own.2.1 (z1b (by simp) rfl rfl rfl (by simp[maxLen])) (by simp;omega) (by have:=BK.out.T_.lt;have:=BK.out.lt;omega) ?_
  intro A6 c6 w6 fh fD RQ;have fS:=h_ (BK.out.putL (L':=ls++[((q:Int),(ns.length:Int))]) (n:=ls.length+1) (by simp) (by simpa using fh) fD (by simpa using RQ));have bU:=BK.out.T_.grownR fD (fun k hk e=>BK.out.far k (.inr hk) e);have nw:=BK.out.A.grownR fD (fun k hk e=>by have:=(BK.out.own.lt k (.inr hk)).1;omega);have gJ:=BK.out.blw.grown fD BK.out.blw.size (fun k hk=>by have:=(BK.out.own.lt k (.inr hk)).1;omega);have m6:=(gJ.cell (p:=⟨bl,offl+k*2+1,none⟩) Hd).trans l1;refine hK _ _ (fun _=>⟨nw.cell 1,bU.cell 1,m6⟩) (fun gh=>?_)
  have F5:=gh (by decide);clear hK K gh m6 nw gJ fD RQ fh BK gx
  (try simp only[lp_])
  (refine zv (i:=12) (v:=?_) rfl rfl k_ k_ k_ k_ (fun _ _ _ h=>h) (Or.inl ⟨by rfl,?_⟩) (by assumption) ?_);rotate_left;(focus (intro w' gm;(try dsimp only at gm);go_simp;(try with_reducible rfl)));(try simp only[lp_])
  obtain⟨t_0,t_1,t_f0,t_f1⟩:=bU.b2
  (refine qP (i:=13) rfl k_ (fun K hK=>?_));(rw[aao (by rfl)])
  go_simp;refine hK _ _ (fun h=>absurd rfl h) (fun _=>?_)
  clear hK K F5
  (try simp only[lp_])
  refine xC k_ ?_ _
  obtain⟨w7,BG⟩:∃v,v=w6.setCell ⟨T,1,none⟩ (.slice A6 (ls.length+1) c6):=⟨_,rfl⟩;rw[<-BG] at fS
  try rw[<-BG]
  clear BG t_0 t_1 t_f0 t_f1 bU;have Zn:Hid ((ls++[((q:Int),(ns.length:Int))]).length =ls.length+1):=h_ (by simp);have FC:k<(ls++[((q:Int),(ns.length:Int))]).length :=by rw[Zn.out];omega
  have r4:Hid ((ls++[((q:Int),(ns.length:Int))]).set k ((ls++[((q:Int),(ns.length:Int))])[k].1,(ns.length:Int))=Qq ns ls k):=h_ (by
   rw[HL.out]
   have e:(ls++[((q:Int),(ns.length:Int))])[k].1=(p:Int):=by
    rw[aad hk];have:=HP.out;rw[qd ls k hk] at this;rw[this]
   rw[e])
  have HLN7:Hid ((ns++[(x,y)]).length =ns.length+1):=h_ (by simp);have HYN:Hid (splB ns ls k x y=true->V8 ns x y=NN):=h_ (fun h=>(QW h).1.symm.trans nh.out);have HYL:Hid (splB ns ls k x y=true->Qq ns ls k=LL):=h_ (fun h=>(QW h).2.symm.trans Ww.out);have hNe:ns++[(x,y)]=V8 ns x y:=rfl;rw[hNe] at fS HLN7;clear hNe;generalize V8 ns x y=N7 at*;generalize ls++[((q:Int),(ns.length:Int))]=L7 at*;have hHS:=fS.out.own.2.1
  rcases F4:hHS.2 with ⟨e0,e1⟩|⟨gb,cap,cur,e0,mo,Fs⟩
  ·rw[Zn.out] at e1;omega
  clear F4 Fs
  injection e0 with e0 e1 e2
  subst e0 e2;clear e1 cur hHS;have hT7:=fS.out.T_;obtain⟨t_0,t_1⟩:=hT7.c2;have x7:=(fS.out.own.2.1.cell FC).2;have f7:=fS.out.own.2.1.frz (k*2+1);have NA:=h_ (fS.out.setTo FC (ns.length:Int));rw[r4.out] at NA;have il1:(k:Int)<(L7.length:Int):=o_
  generalize Qq ns ls k=L8 at*;obtain⟨w8,MZ⟩:∃v,v=w7.setCell ⟨gb,k*2+1,none⟩ (.int .i64 (ns.length:Int)):=⟨_,rfl⟩;rw[<-MZ] at NA
  go_upto_region 8 with (fail)
  try rw[<-MZ]
  clear MZ t_0 t_1 x7 f7 fS hT7 HL r4;have hT8:=NA.out.T_;obtain⟨t_0,t_1⟩:=hT8.c2;obtain⟨bw,gi⟩:∃bw,winB N7 L8=bw:=⟨_,rfl⟩;rw[gi] at HB
  go_wp2_with fail
  refine(zH _ _ N7 L8 bw _ NA.out.own.1.reads NA.out.own.2.1.reads gi).mono ?_
  rintro e w9 ⟨rfl,Cv⟩;have mx:=h_ (NA.out.below Cv);clear NA hT8 t_0 t_1 Cv gi;have hA9:=mx.out.A;have mq:=mx.out.R;have hT9:=mx.out.T_;obtain⟨a_0,a_1⟩:=hA9.c2;obtain⟨t_0,t_1⟩:=hT9.c2;have wj:=mq.lt
  cases bw
  ·have fF:splB ns ls k x y=false:=by rw[HB.out];rfl
   have e1:false=bb:=by rw[<-H9.out];exact fF.symm
   have e2:ns=NN:=by rw[<-nh.out];exact(Qz fF).1.symm
   have e3:ls=LL:=by rw[<-Ww.out];exact(Qz fF).2.symm
   subst e1 e2 e3;clear H9 nh Ww HB fF
   go_wp2_with fail
   refine(zR _ _ ns ls _ (hn.below mx.out.blw) (hl.below mx.out.blw) o_ o_).mono ?_
   rintro e w10 ⟨A9,c9,B9,d9,rfl,mN,wk⟩;have mM:=mq.below wk wj;have F7:=mx.out.blw.trans (wk.mono mx.out.blw.size);have Zp:w.heap.size+1+1<w9.heap.size:=wj;have HO:=h_ (((mN.setLow (p:=⟨w.heap.size+1+1,0,none⟩) Zp (.slice A9 ns.length c9)).setLow (p:=⟨w.heap.size+1+1,1,none⟩) Zp (.slice B9 ls.length d9)).mono (show w.heap.size<=_ by omega));have rc:=h_ ((F7.setCell (p:=⟨w.heap.size+1+1,0,none⟩) (show w.heap.size<=w.heap.size+1+1 by omega) (.slice A9 ns.length c9)).setCell (p:=⟨w.heap.size+1+1,1,none⟩) (show w.heap.size<=w.heap.size+1+1 by omega) (.slice B9 ls.length d9));obtain⟨r_0,r_1,r_f0,r_f1⟩:=mM.b2;have ZA:=mM.lt;clear mM F7 hA9 mq hT9 a_0 a_1 t_0 t_1 mN wk mx;go_wp2;exact bodyPost_ret (v:= .tuple #[.agg #[.slice A9 ns.length c9,.slice B9 ls.length d9],.bool false]) (by simp[results,Tryz.results259,go_sem,r_0,r_1,ZA]) rfl (zI.mk rfl rfl rfl HO.out rc.out)
  ·have Cn:splB ns ls k x y=true:=by rw[HB.out];rfl
   have e1:true=bb:=by rw[<-H9.out];exact Cn.symm
   have zV:Hid (N7=NN):=h_ (HYN.out Cn);have HE3:Hid (L8=LL):=h_ (HYL.out Cn);subst e1;clear H9 nh Ww HB Cn;have HF:=h_ (fun u0 u1=>mx.out.fin u0 u1);obtain⟨r_0,r_1,r_f0,r_f1⟩:=mq.b2;clear mx hA9 mq hT9;go_wp2;exact bodyPost_ret (v:= .tuple #[.agg #[.slice A4 N7.length c4,.slice (some ⟨gb,0,none⟩) L8.length c6],.bool true]) (by simp[results,Tryz.results259,go_sem,r_0,r_1,wj]) rfl (by rw[<-zV.out,<-HE3.out];exact zI.mk rfl rfl rfl (HF.out _ _).1 (HF.out _ _).2)
attribute [local go_sem ↓] zr zq zU zT
theorem zw.below {W0 w w':World} {v:Value} {g:Nat} (h:zw W0 v g w) (hb:Below w.heap.size w w'):zw W0 v g w':=by
 obtain⟨hg,Hd,i,s,hi,hB⟩:=h;exact⟨hg,Hd.trans (hb.mono Hd.size),i,s,hi,hB.below hb hB.lt⟩
theorem zX {a w w':World} {row:Option Nat} (h:a.grownBy w row) (hb:Below w.heap.size w w'):a.grownBy w' row:=
 zb h ⟨hb.os,hb.tape,hb.output,hb.size,fun i hi _=>hb.block i hi⟩
structure WSt (W0:World) (v:Value) (g:Nat) (w:World) (X:Nat) (wr:World) (An:Option Addr) (cn:Nat) (Al:Option Addr) (cl:Nat) (ns ls:List Pr):Prop where
 win:zC ns ls
 own:OwnW (w.heap.size+1) wr (.slice An ns.length cn) (.slice Al ls.length cl) ns ls
 box:Blk wr X 27 #[.slice An ns.length cn,.slice Al ls.length cl]
 res:Blk wr w.heap.size 27 #[.slice none 0 0,.slice none 0 0]
 ne:∀b,zp (.slice An ns.length cn) (.slice Al ls.length cl) b->¬b=X
 cur:zw W0 v g wr
 gr:w.grownBy wr (some g)
 hX:w.heap.size<X
 hg:g<w.heap.size
section
variable {W0:World} {v:Value} {g:Nat} {w:World} {X:Nat} {wr w':World} {An:Option Addr} {cn:Nat} {Al:Option Addr} {cl:Nat} {ns ls:List Pr}
theorem WSt.drawn (h:WSt W0 v g w X wr An cn Al cl ns ls) (hc:zw W0 v g w') (hg:wr.grownBy w' (some g)):WSt W0 v g w X w' An cn Al cl ns ls:=
 ⟨h.win,h.own.far hg (fun k hk=>by cases hk;have:=h.hg;omega),h.box.grown hg (by have:=h.hg;have:=h.hX;omega),h.res.grown hg (by have:=h.hg;omega),h.ne,hc,zb h.gr hg,h.hX,h.hg⟩
theorem WSt.below (h:WSt W0 v g w X wr An cn Al cl ns ls) (hb:Below wr.heap.size wr w'):WSt W0 v g w X w' An cn Al cl ns ls:=
 ⟨h.win,h.own.kept hb,h.box.below hb h.box.lt,h.res.below hb h.res.lt,h.ne,h.cur.below hb,zX h.gr hb,h.hX,h.hg⟩
theorem WSt.alloc (h:WSt W0 v g w X wr An cn Al cl ns ls) (o:Obj):WSt W0 v g w X (wr.alloc o) An cn Al cl ns ls:=
 h.below (Below.alloc (aaj _ _) (aaa _) o)
theorem WSt.drew (h:WSt W0 v g w X wr An cn Al cl ns ls):WSt W0 v g w X wr.drew An cn Al cl ns ls:=h.below (Below.drew (aaj _ _))
theorem WSt.row (h:WSt W0 v g w X wr An cn Al cl ns ls) {row:Option Nat} (hg:wr.grownBy w' row) (hr:∀k,row=some k->X<k/\¬zp (.slice An ns.length cn) (.slice Al ls.length cl) k):WSt W0 v g w X w' An cn Al cl ns ls:=by
 have hX:=h.hX;have Mw:=h.hg;obtain⟨mU,Hd,i,s,hi,hB⟩:=h.cur;have hs:=h.gr.size
 refine⟨h.win,h.own.apart hg (fun k hk e=>(hr k e).2 hk),Blk.grownR h.box hg (fun k e=>by have:=(hr k e).1;omega),Blk.grownR h.res hg (fun k e=>by have:=(hr k e).1;omega),h.ne,
  ⟨mU,Hd.grown hg Hd.size (fun k e=>by have:=(hr k e).1;omega),i,s,hi,Blk.grownR hB hg (fun k e=>by have:=(hr k e).1;omega)⟩,
  ⟨hg.os.trans h.gr.os,hg.tape.trans h.gr.tape,hg.output.trans h.gr.output,aai hs hg.size,fun i hi Hv=>(hg.block i o_ (fun e=>by have:=(hr i e.symm).1;omega)).trans (h.gr.block i hi Hv)⟩,hX,Mw⟩
theorem WSt.put (h:WSt W0 v g w X wr An cn Al cl ns ls) {An':Option Addr} {cn':Nat} {Al':Option Addr} {cl' n m base:Nat} {ns' ls':List Pr} (hw:zC ns' ls') (hn:n=ns'.length) (hm:m=ls'.length)
  (ho:OwnW base wr (.slice An' n cn') (.slice Al' m cl') ns' ls') (hb:X<base):
  WSt W0 v g w X ((wr.setCell ⟨X,0,none⟩ (.slice An' n cn')).setCell ⟨X,1,none⟩ (.slice Al' m cl')) An' cn' Al' cl' ns' ls':=by
 subst hn hm;have hX:=h.hX;have hg:=h.hg;have Hf:=ho.lt;have Hv:∀b,zp (.slice An' ns'.length cn') (.slice Al' ls'.length cl') b->¬b=X:=fun b gH e=>by have:=(Hf b gH).1;omega
 have FF:=ho.mono (show w.heap.size+1<=base by omega)
 refine⟨hw,(FF.setFar (p:=⟨X,0,none⟩) (fun k=>Hv _ k rfl) _).setFar (p:=⟨X,1,none⟩) (fun k=>Hv _ k rfl) _,(h.box.set_ 0 _).set_ 1 _,
  (h.res.far (p:=⟨X,0,none⟩) (by show w.heap.size≠X;omega) _).far (p:=⟨X,1,none⟩) (by show w.heap.size≠X;omega) _,Hv,
  (h.cur.far (p:=⟨X,0,none⟩) (by show g<X;omega) _).far (p:=⟨X,1,none⟩) (by show g<X;omega) _,
  zy (p:=⟨X,1,none⟩) (zy (p:=⟨X,0,none⟩) h.gr (by show w.heap.size<=X;omega) _) (by show w.heap.size<=X;omega) _,h.hX,h.hg⟩
end
def z9y (W0:World) (v:Value) (g:Nat) (w:World) (e:Ending) (w':World):Prop:=
 ∃ns ls An cn Al cl,e= .returned (.agg #[.slice An ns.length cn,.slice Al ls.length cl])/\zC ns ls/\OwnW (w.heap.size+1) w' (.slice An ns.length cn) (.slice Al ls.length cl) ns ls/\zw W0 v g w'/\w.grownBy w' (some g)
theorem VH (W0:World) (v:Value) (zs:List Int) (g:Nat) (w:World) (h:RB W0 v zs) (hle:zs.length<=1048576) (hc:zw W0 v g w):
  Calls Tryz.prog 264 #[.pointer (some ⟨g,0,none⟩)] w (z9y W0 v g w):=by
 have hgl:=hc.lt;obtain⟨i0,hi,iz0,iz1,iz2⟩:=info_parts kB;have HC:=h_ hc;have GP:=h_ h;clear h hc
 go_enter Tryz.func264,Tryz.ntmps264
 go_wp2_with fail
 refine(zo W0 v zs g 5 _ GP.out hle o_ (HC.out.alloc _)).mono ?_
 rintro e w1 ⟨x,rfl,x0,x1,gl,gL⟩;have H7:=gL.size;simp at H7
 have H6:Blk w1 w.heap.size 27 #[.slice none 0 0,.slice none 0 0]:=(Blk.new w _ _).grown gL o_;have CZ:=zb (jf (World.grownBy.refl w (some g)) (.cells #[.slice none 0 0,.slice none 0 0] 27)) gL;clear gL
 go_wp2_with fail
 refine(Vi x _).mono ?_
 rintro e w2 ⟨An,cn,Al,cl,rfl,Hn,Hh⟩;have Gp:=Hh.size;have CB:=Hn.lt;have ci:=zu.1 (z2e x);have go:=H6.below Hh H6.lt;have RE:=gl.below Hh;have By:=zX CZ Hh;generalize QN x=ns at*;generalize Qy x=ls at*
 have GH:Hid (WSt W0 v g w w2.heap.size (w2.alloc (.cells #[.slice An ns.length cn,.slice Al ls.length cl] 27)) An cn Al cl ns ls):=h_
  ⟨ci,(Hn.mono o_).alloc _,Blk.newAt rfl,go.alloc _,fun b hb e=>by have:=(CB b hb).2;omega,RE.alloc _,jf By _,by omega,hgl⟩
 clear ci go RE By H6 gl CZ Hh Hn CB
 go_wp2_with fail
 refine(zo W0 v zs g 4 _ GP.out hle o_ GH.out.cur).mono ?_
 rintro e w3 ⟨k,rfl,k0,k1,GK,gq⟩;have cd:=GH.out.drawn GK gq;clear GH GK gq;obtain⟨X,hX⟩:∃X,X=w2.heap.size:=⟨_,rfl⟩;rw[<-hX] at cd⊢;clear hX;obtain⟨kn,rfl⟩:∃kn:Nat,k=(kn:Int):=⟨k.toNat,by omega⟩;go_wp2
 go_loopw [4] (fun i wr=>∃(kn:Nat) (An:Option Addr) (cn:Nat) (Al:Option Addr) (cl:Nat) (ns ls:List Pr),i= .int .i64 kn/\kn<=4/\WSt W0 v g w X wr An cn Al cl ns ls) (fun i _=>(intOf i).toNat)
 case atStart=>exact⟨kn,An,cn,Al,cl,ns,ls,rfl,by omega,cd⟩
 case round=>
  clear cd;obtain⟨kn,An,cn,Al,cl,ns,ls,rfl,hk4,cd⟩:=hrel;have GH:=h_ cd;clear cd
  by_cases Nc:kn=0
  ·subst Nc
   have Uk:=GH.out.win.2.1;have F9:=GH.out.win.1;have YC:=GH.out.win.2.2.1
   go_wp2_with fail
   refine(Vv W0 v zs g 4 _ GP.out hle o_ GH.out.cur).mono ?_
   rintro e w4 ⟨bb,rfl,cf,Gf⟩;have fm:=h_ (GH.out.drawn cf Gf);clear GH cf Gf
   cases bb
   ·--as it is
    have mb:=fm.out.box;have mc:=fm.out.res;obtain⟨x_0,x_1,x_f0,x_f1⟩:=mb.b2;obtain⟨r_0,r_1,r_f0,r_f1⟩:=mc.b2;have HO:=h_ ((fm.out.own.setLow (p:=⟨w.heap.size,0,none⟩) (show w.heap.size<w.heap.size+1 by omega) (.slice An ns.length cn)).setLow (p:=⟨w.heap.size,1,none⟩) (show w.heap.size<w.heap.size+1 by omega) (.slice Al ls.length cl));have Fk:=h_ ((fm.out.cur.far (p:=⟨w.heap.size,0,none⟩) fm.out.hg (.slice An ns.length cn)).far (p:=⟨w.heap.size,1,none⟩) fm.out.hg (.slice Al ls.length cl));have HG:=h_ (zy (p:=⟨w.heap.size,1,none⟩) (zy (p:=⟨w.heap.size,0,none⟩) fm.out.gr (aaa _) (.slice An ns.length cn)) (aaa _) (.slice Al ls.length cl));have HW:=h_ fm.out.win;clear mb mc;go_wp2;exact bodyPost_ret (v:= .agg #[(.slice An ns.length cn),(.slice Al ls.length cl)]) (by simp[results,Tryz.results264,go_sem,r_0,r_1,x_0,x_1]) rfl ⟨ns,ls,An,cn,Al,cl,rfl,HW.out,HO.out,Fk.out,HG.out⟩
   ·have Fl:=fm.out.box
    have MN:=Fl.lt;have hXw:=fm.out.hX;have ZE:=fm.out.own.lt;obtain⟨x_0,x_1⟩:=Fl.c2
    go_wp2_with fail
    refine(zR _ _ ns ls _ fm.out.own.1.reads fm.out.own.2.1.reads o_ o_).mono ?_
    rintro e w5 ⟨An5,cn5,Al5,cl5,rfl,fk,gk⟩;have nm:=gk.size;have b9:=fk.lt;have FN:=h_ ((fm.out.below gk).alloc (.cells #[.slice An5 ns.length cn5,.slice Al5 ls.length cl5] 27));have Z3:Hid (Blk (w5.alloc (.cells #[.slice An5 ns.length cn5,.slice Al5 ls.length cl5] 27)) w5.heap.size 27 #[.slice An5 ns.length cn5,.slice Al5 ls.length cl5]):=h_ (Blk.newAt rfl);have C7:=h_ (fk.alloc (.cells #[.slice An5 ns.length cn5,.slice Al5 ls.length cl5] 27));clear fk gk fm Fl x_0 x_1
    go_wp2_with fail
    obtain⟨v5,hv5⟩:∃v5,v5=w5.alloc (.cells #[.slice An5 ns.length cn5,.slice Al5 ls.length cl5] 27):=⟨_,rfl⟩;have Gk:v5.heap.size=w5.heap.size+1:=by rw[hv5];simp
    rw[<-hv5] at FN Z3 C7⊢;clear hv5;obtain⟨Y,hY⟩:∃Y,Y=w5.heap.size:=⟨_,rfl⟩;rw[<-hY] at Z3 Gk⊢;have hY4:w4.heap.size<=Y:=o_
    have MO:∀b,zp (.slice An5 ns.length cn5) (.slice Al5 ls.length cl5) b->w4.heap.size<=b/\b<Y:=fun b hb=>by have:=b9 b hb;omega
    clear b9 hY nm;have hY0:=Z3.out.cell 0;refine vO (n:=7) (S:=fun w'=>w'.cell? ⟨Y,0,none⟩=some (.slice An5 ns.length cn5)) k_ hY0 (fun hS=>?_)
    (refine zv (i:=0) (v:=?_) rfl rfl k_ k_ k_ k_ (fun _ _ _ h=>h) (Or.inl ⟨by rfl,?_⟩) (by assumption) ?_);rotate_left;(focus (intro w' gm;(try dsimp only at gm);go_simp;(try with_reducible rfl)));(try simp only[lp_])
    (refine zv (i:=1) (v:=?_) rfl rfl k_ k_ k_ k_ (fun _ _ _ h=>h) (Or.inl ⟨by rfl,?_⟩) (by assumption) ?_);rotate_left;(focus (intro w' gm;(try dsimp only at gm);go_simp;(try with_reducible rfl)));(try simp only[lp_])
    (refine zv (i:=2) (v:=?_) rfl rfl k_ k_ k_ k_ (fun _ _ _ h=>h) (Or.inl ⟨by rfl,?_⟩) (by assumption) ?_);rotate_left;(focus (intro w' gm;(try dsimp only at gm);go_simp;(try with_reducible rfl)));(try simp only[lp_])
    (refine qP (i:=3) rfl k_ (fun K hK=>?_));(rw[aao (by rfl)])
    go_simp
    go_at_call 271
    refine(z6I W0 v zs g _ GP.out hle FN.out.drew.cur).mono ?_
    rintro e w6 ⟨nx,ny,rfl,cO,fD⟩;have CU:=fD.size;simp at CU
    have FX:=h_ (FN.out.drew.drawn cO fD);have HY6:=h_ (Z3.out.drew.grown fD o_);have Cm:=h_ (OwnW.far (w:=v5.drew) C7.out fD (fun k hk=>by cases hk;omega));clear cO fD FN Z3 C7 hY0
    go_wp2_with fail
    refine hK _ _ (fun _=>HY6.out.cell 0) (fun gh=>?_)
    clear hK K hS gh
    (try simp only[lp_])
    (refine qP (i:=4) rfl k_ (fun K hK=>?_));(rw[aao (by rfl)])
    go_simp;refine hK _ _ (fun _=>(HY6.out.alloc _).cell 0) (fun gh=>?_)
    clear hK K gh
    (try simp only[lp_])
    (refine qP (i:=5) rfl k_ (fun K hK=>?_))
    refine zk rfl _ _ _ rfl w4.heap.size 106 i0 Tryz.underlying24 hi iz0 iz1 iz2 (.slice An5 ns.length cn5) _ ns [(nx,ny)] rfl rfl (Cm.out.1.alloc _) (j6 (by simp) rfl rfl rfl (by simp[maxLen])) (by simp;omega) (by simp;omega) ?_
    intro A7 c7 w7 FV Fp ha7;rw[show(ns++[(nx,ny)]).length =ns.length+1 by simp] at FV ha7;obtain⟨N7,hN7⟩:∃N7,N7=ns++[(nx,ny)]:=⟨_,rfl⟩;have YA:N7.length=ns.length+1:=by rw[hN7];simp
    rw[<-hN7] at FV;clear hN7;have fg:=h_ YA;clear YA;have me:=h_ ((FX.out.alloc (.cells #[.int .i64 nx,.int .i64 ny] 106)).row Fp (fun k hk=>⟨by have:=(MO k (.inl hk)).1;omega,fun hb=>by have:=(MO k (.inl hk)).1;have:=(ZE k hb).2;omega⟩));have HY7:=h_ (Blk.grownR (HY6.out.alloc (.cells #[.int .i64 nx,.int .i64 ny] 106)) Fp (fun k hk=>by have:=(MO k (.inl hk)).2;omega));have HL7:=h_ ((Cm.out.2.1.alloc (.cells #[.int .i64 nx,.int .i64 ny] 106)).apart Fp (fun k hk gU=>Cm.out.2.2 k gU hk))
    have hd7:∀k,(Value.slice A7 (ns.length+1) c7).ownBlock =some k->(Value.slice Al5 ls.length cl5).ownBlock =some k->False:=fun k hk gU=>by
     have Hf:=MO k (.inr gU)
     rcases ha7 with ha|ha
     ·exact Cm.out.2.2 k (ha.symm.trans hk) gU
     ·rw[ha] at hk;cases hk;simp at Hf;omega
    have hY7:∀k,zp (.slice A7 (ns.length+1) c7) (.slice Al5 ls.length cl5) k->¬k=Y:=by
     rintro k (hk|hk) e
     ·rcases ha7 with ha|ha
      ·have:=(MO k (.inl (ha.symm.trans hk))).2;omega
      ·rw[ha] at hk;cases hk;simp at e;omega
     ·have:=(MO k (.inr hk)).2;omega
    have yF:Hid (OwnW w4.heap.size w7 (.slice A7 (ns.length+1) c7) (.slice Al5 ls.length cl5) N7 ls):=h_ ⟨FV,HL7.out,hd7⟩;clear Fp ha7 FV HL7 hd7 FX HY6 Cm;refine hK _ _ (fun _=>HY7.out.cell 0) (fun gh=>?_)
    have rB:=gh (by decide);clear hK K gh
    (try simp only[lp_])
    (refine zv (i:=6) (v:=?_) rfl rfl k_ k_ k_ k_ (fun _ _ _ h=>h) (Or.inl ⟨by rfl,?_⟩) (by assumption) ?_);rotate_left;(focus (intro w' gm;(try dsimp only at gm);go_simp;(try with_reducible rfl)));(try simp only[lp_])
    clear rB;have gp:=HY7.out;obtain⟨y_0,y_1,y_f0,y_f1⟩:=gp.b2
    (refine qP (i:=7) rfl k_ (fun K hK=>?_));(rw[aao (by rfl)])
    go_simp
    have wn:=h_ (me.out.row (jq w7 ⟨Y,0,none⟩ (.slice A7 (ns.length+1) c7)) (fun k hk=>by
     have FD:Y=k:=Option.some.inj hk;subst FD;exact⟨by omega,fun hb=>by have:=(ZE _ hb).2;omega⟩))
    have HY8:Hid (Blk (w7.setCell ⟨Y,0,none⟩ (.slice A7 (ns.length+1) c7)) Y 27 #[.slice A7 (ns.length+1) c7,.slice Al5 ls.length cl5]):=h_ (HY7.out.set_ 0 _);have HO8:=h_ (yF.out.setFar (p:=⟨Y,0,none⟩) (fun hb=>hY7 _ hb rfl) (.slice A7 (ns.length+1) c7));clear me HY7 yF gp
    refine hK _ _ (fun h=>absurd rfl h) (fun _=>?_)
    clear hK K
    (try simp only[lp_])
    refine xC k_ ?_ _
    obtain⟨w8,MZ⟩:∃w8,w8=w7.setCell ⟨Y,0,none⟩ (.slice A7 (ns.length+1) c7):=⟨_,rfl⟩;rw[<-MZ] at wn HY8 HO8⊢;clear MZ y_0 y_1 y_f0 y_f1;obtain⟨bw,gi⟩:∃bw,winB N7 ls=bw:=⟨_,rfl⟩;have fY:=h_ gi;clear gi;have gp:=HY8.out;obtain⟨y_0,y_1⟩:=gp.c2;have hYl:Y<w8.heap.size:=gp.lt
    go_wp2_with fail
    refine(zH _ _ N7 ls bw _ HO8.out.1.reads HO8.out.2.1.reads fY.out).mono ?_
    rintro e w9 ⟨rfl,Cv⟩;have CP:=h_ (wn.out.below Cv);have HY9:=h_ (gp.below Cv hYl);have HO9:=h_ (HO8.out.kept Cv);clear Cv wn HY8 HO8 gp y_0 y_1 hYl
    cases bw
    ·--it is not taken
     have mb:=CP.out.box;have mc:=CP.out.res;obtain⟨x_0,x_1,x_f0,x_f1⟩:=mb.b2;obtain⟨r_0,r_1,r_f0,r_f1⟩:=mc.b2;have HO:=h_ ((CP.out.own.setLow (p:=⟨w.heap.size,0,none⟩) (show w.heap.size<w.heap.size+1 by omega) (.slice An ns.length cn)).setLow (p:=⟨w.heap.size,1,none⟩) (show w.heap.size<w.heap.size+1 by omega) (.slice Al ls.length cl));have Fk:=h_ ((CP.out.cur.far (p:=⟨w.heap.size,0,none⟩) CP.out.hg (.slice An ns.length cn)).far (p:=⟨w.heap.size,1,none⟩) CP.out.hg (.slice Al ls.length cl));have HG:=h_ (zy (p:=⟨w.heap.size,1,none⟩) (zy (p:=⟨w.heap.size,0,none⟩) CP.out.gr (aaa _) (.slice An ns.length cn)) (aaa _) (.slice Al ls.length cl));have HW:=h_ CP.out.win;clear mb mc;go_wp2;exact bodyPost_ret (v:= .agg #[(.slice An ns.length cn),(.slice Al ls.length cl)]) (by simp[results,Tryz.results264,go_sem,r_0,r_1,x_0,x_1]) rfl ⟨ns,ls,An,cn,Al,cl,rfl,HW.out,HO.out,Fk.out,HG.out⟩
    ·have gp:=HY9.out
     obtain⟨y_0,y_1⟩:=gp.c2;have Fl:=CP.out.box;obtain⟨x_0,x_1,x_f0,x_f1⟩:=Fl.b2;have BT:(0:Int)<(ns.length:Int):=o_
     have hYg:¬Y=g:=o_
     go_wp2_with fail
     have RZ:w9.drew.cell? ⟨X,0,none⟩=some (.slice An ns.length cn)/\w9.drew.cell? ⟨Y,0,none⟩=some (.slice A7 (ns.length+1) c7)/\w9.drew.cell? ⟨Y,1,none⟩=some (.slice Al5 ls.length cl5):=⟨x_0,y_0,y_1⟩;refine qD (n:=13) (S:=fun w'=>w'.cell? ⟨X,0,none⟩=some (.slice An ns.length cn)/\w'.cell? ⟨Y,0,none⟩=some (.slice A7 (ns.length+1) c7)/\w'.cell? ⟨Y,1,none⟩=some (.slice Al5 ls.length cl5)) k_ RZ (fun hS=>?_)
     refine tE_ 0 rfl rfl ?_;(try simp only[lp_])
     refine tE_ 1 rfl rfl ?_;(try simp only[lp_])
     refine tE_ 2 rfl rfl ?_;(try simp only[lp_])
     refine tE_ 3 rfl rfl ?_;(try simp only[lp_])
     refine tE_ 4 rfl rfl ?_;(try simp only[lp_])
     refine tE_ 6 rfl rfl ?_;(try simp only[lp_])
     refine tE_ 7 rfl rfl ?_;(try simp only[lp_])
     refine tE_ 8 rfl rfl ?_;(try simp only[lp_])
     (refine zm (i:=5) rfl k_ (fun K hK=>?_));(rw[aao (by rfl)])
     go_simp
     go_at_call 125
     refine(zo W0 v zs g _ _ GP.out hle BT CP.out.drew.cur).mono ?_
     rintro e wa ⟨z,rfl,z0,z1,Wy,wu⟩;have Cp:=h_ (CP.out.drew.drawn Wy wu);have HYa:=h_ (HY9.out.drew.grown wu hYg);have HOa:=h_ (OwnW.far (w:=w9.drew) HO9.out wu (fun k hk=>by cases hk;omega));clear Wy wu
     go_wp2_with fail
     refine hK _ _ (fun _=>⟨Cp.out.box.cell 0,HYa.out.cell 0,HYa.out.cell 1⟩) (fun gh=>?_)
     clear hK K hS gh
     (try simp only[lp_])
     (refine zm (i:=9) rfl k_ (fun K hK=>?_));(rw[aao (by rfl)])
     go_simp
     go_at_call 107
     refine(Va _ _ N7 ls _ _ _ HOa.out.1.reads HOa.out.2.1.reads (by have:=fg.out;omega) o_).mono ?_
     rintro e wb ⟨Anb,cnb,Alb,clb,rfl,hob,H4⟩;have Cq:=h_ (Cp.out.below H4);have HYb:=h_ (HYa.out.below H4 HYa.out.lt);have HP:=h_ (Cq.out.put (JV (zu.1 fY.out) z ns.length) rfl rfl hob Cp.out.box.lt);clear H4 hob
     go_wp2_with fail
     refine hK _ _ (fun _=>⟨Cq.out.box.cell 0,HYb.out.cell 0,HYb.out.cell 1⟩) (fun gh=>?_)
     have hSb:=gh k_;clear hK K gh
     (try simp only[lp_])
     refine tE_ 10 rfl rfl ?_;(try simp only[lp_])
     refine tE_ 11 rfl rfl ?_;(try simp only[lp_])
     refine tF_ 12 rfl ?_;(try simp only[lp_])
     have hbxb:=Cq.out.box;clear x_0 x_1 x_f0 x_f1 y_0 y_1;obtain⟨x_0,x_1,x_f0,x_f1⟩:=hbxb.b2
     (refine zm (i:=13) rfl k_ (fun K hK=>?_));(rw[aao (by rfl)])
     go_simp;refine hK _ _ (fun h=>by cases h) (fun _=>?_)
     clear hK K hSb
     (try simp only[lp_])
     refine jr k_ ?_ _
     clear x_0 x_1 x_f0 x_f1 hbxb Fl RZ;generalize addL N7 ls z ns.length=L' at*;obtain⟨wc,R0⟩:∃wc,wc=(wb.setCell ⟨X,0,none⟩ (.slice Anb N7.length cnb)).setCell ⟨X,1,none⟩ (.slice Alb L'.length clb):=⟨_,rfl⟩;rw[<-R0] at HP⊢;clear R0;have mb:=HP.out.box;have mc:=HP.out.res;obtain⟨x_0,x_1,x_f0,x_f1⟩:=mb.b2;obtain⟨r_0,r_1,r_f0,r_f1⟩:=mc.b2;have HO:=h_ ((HP.out.own.setLow (p:=⟨w.heap.size,0,none⟩) (show w.heap.size<w.heap.size+1 by omega) (.slice Anb N7.length cnb)).setLow (p:=⟨w.heap.size,1,none⟩) (show w.heap.size<w.heap.size+1 by omega) (.slice Alb L'.length clb));have Fk:=h_ ((HP.out.cur.far (p:=⟨w.heap.size,0,none⟩) HP.out.hg (.slice Anb N7.length cnb)).far (p:=⟨w.heap.size,1,none⟩) HP.out.hg (.slice Alb L'.length clb));have HG:=h_ (zy (p:=⟨w.heap.size,1,none⟩) (zy (p:=⟨w.heap.size,0,none⟩) HP.out.gr (aaa _) (.slice Anb N7.length cnb)) (aaa _) (.slice Alb L'.length clb));have HW:=h_ HP.out.win;clear mb mc;go_wp2;exact bodyPost_ret (v:= .agg #[(.slice Anb N7.length cnb),(.slice Alb L'.length clb)]) (by simp[results,Tryz.results264,go_sem,r_0,r_1,x_0,x_1]) rfl ⟨N7,L',Anb,cnb,Alb,clb,rfl,HW.out,HO.out,Fk.out,HG.out⟩
  ·have hkp:(0:Int)<(kn:Int):=o_
   go_wp2_with fail
   refine(Vv W0 v zs g 2 _ GP.out hle o_ GH.out.cur).mono ?_
   rintro e w4 ⟨bb,rfl,cf,Gf⟩;have fm:=h_ (GH.out.drawn cf Gf);clear GH cf Gf;have Fl:=fm.out.box;have Uk:=fm.out.win.2.1;have F9:=fm.out.win.1;have YC:=fm.out.win.2.2.1;obtain⟨x_0,x_1,x_f0,x_f1⟩:=Fl.b2
   cases bb
   ·go_wp2_with fail
    have RZ:=And.intro x_0 x_1;have BT:(0:Int)<(ns.length:Int):=o_
    refine qD (n:=15) (S:=fun w'=>w'.cell? ⟨X,0,none⟩=some (.slice An ns.length cn)/\w'.cell? ⟨X,1,none⟩=some (.slice Al ls.length cl)) k_ RZ (fun hS=>?_)
    refine tE_ 0 rfl rfl ?_;(try simp only[lp_])
    refine tE_ 1 rfl rfl ?_;(try simp only[lp_])
    refine tE_ 2 rfl rfl ?_;(try simp only[lp_])
    refine tE_ 3 rfl rfl ?_;(try simp only[lp_])
    refine tE_ 4 rfl rfl ?_;(try simp only[lp_])
    refine tE_ 6 rfl rfl ?_;(try simp only[lp_])
    refine tE_ 7 rfl rfl ?_;(try simp only[lp_])
    refine tE_ 8 rfl rfl ?_;(try simp only[lp_])
    refine tE_ 9 rfl rfl ?_;(try simp only[lp_])
    (refine zm (i:=5) rfl k_ (fun K hK=>?_));(rw[aao (by rfl)])
    go_simp
    go_at_call 125
    refine(zo W0 v zs g _ _ GP.out hle BT fm.out.drew.cur).mono ?_
    rintro e w5 ⟨y,rfl,y0,y1,Cs,Cb⟩;have FN:=h_ (fm.out.drew.drawn Cs Cb);clear Cs Cb
    go_wp2_with fail
    refine hK _ _ (fun _=>⟨FN.out.box.cell 0,FN.out.box.cell 1⟩) (fun gh=>?_)
    clear hK K hS gh
    (try simp only[lp_])
    (refine zm (i:=10) rfl k_ (fun K hK=>?_));(rw[aao (by rfl)])
    go_simp
    go_at_call 125
    refine(zo W0 v zs g _ _ GP.out hle BT FN.out.cur).mono ?_
    rintro e w6 ⟨z,rfl,z0,z1,cO,fD⟩;have FX:=h_ (FN.out.drawn cO fD);clear cO fD
    go_wp2_with fail
    refine hK _ _ (fun _=>⟨FX.out.box.cell 0,FX.out.box.cell 1⟩) (fun gh=>?_)
    clear hK K gh
    (try simp only[lp_])
    (refine zm (i:=11) rfl k_ (fun K hK=>?_));(rw[aao (by rfl)])
    go_simp
    go_at_call 107
    refine(Va _ _ ns ls _ _ _ FX.out.own.1.reads FX.out.own.2.1.reads o_ o_).mono ?_
    rintro e w7 ⟨An7,cn7,Al7,cl7,rfl,FV,f9⟩;have me:=h_ (FX.out.below f9);have HP:=h_ (me.out.put (JV me.out.win y z) rfl rfl FV FX.out.box.lt);clear f9 FV
    go_wp2_with fail
    refine hK _ _ (fun _=>⟨me.out.box.cell 0,me.out.box.cell 1⟩) (fun gh=>?_)
    have rB:=gh k_;clear hK K gh
    (try simp only[lp_])
    refine tE_ 12 rfl rfl ?_;(try simp only[lp_])
    refine tE_ 13 rfl rfl ?_;(try simp only[lp_])
    refine tF_ 14 rfl ?_;(try simp only[lp_])
    have hbx7:=me.out.box;clear x_0 x_1 x_f0 x_f1;obtain⟨x_0,x_1,x_f0,x_f1⟩:=hbx7.b2
    (refine zm (i:=15) rfl k_ (fun K hK=>?_));(rw[aao (by rfl)])
    go_simp;refine hK _ _ (fun h=>by cases h) (fun _=>?_)
    clear hK K rB
    (try simp only[lp_])
    refine jr k_ ?_ _
    clear x_0 x_1 x_f0 x_f1 hbx7 Fl RZ;generalize addL ns ls y z=L' at*;go_wp2;go_roundw
    case rel=>exact⟨kn -1,An7,cn7,Al7,cl7,ns,L',by congr 1;omega,by omega,HP.out⟩
    case measure=>simp[intOf];omega
   ·go_wp2_with fail
    have RZ:=And.intro x_0 x_1;have ro:0<mx2 1 (ls.length:Int):=by rw[vW];omega
    refine qD (n:=11) (S:=fun w'=>w'.cell? ⟨X,0,none⟩=some (.slice An ns.length cn)/\w'.cell? ⟨X,1,none⟩=some (.slice Al ls.length cl)) k_ RZ (fun hS=>?_)
    refine tE_ 0 rfl rfl ?_;(try simp only[lp_])
    refine tE_ 1 rfl rfl ?_;(try simp only[lp_])
    refine tE_ 2 rfl rfl ?_;(try simp only[lp_])
    refine tE_ 3 rfl rfl ?_;(try simp only[lp_])
    refine tE_ 4 rfl rfl ?_;(try simp only[lp_])
    refine tE_ 5 rfl rfl ?_;(try simp only[lp_])
    (refine zm (i:=6) rfl k_ (fun K hK=>?_));(rw[aao (by rfl)])
    go_simp
    go_at_call 125
    refine(zo W0 v zs g _ _ GP.out hle ro fm.out.drew.cur).mono ?_
    rintro e w5 ⟨y,rfl,y0,y1,Cs,Cb⟩;have FN:=h_ (fm.out.drew.drawn Cs Cb);clear Cs Cb
    go_wp2_with fail
    refine hK _ _ (fun _=>⟨FN.out.box.cell 0,FN.out.box.cell 1⟩) (fun gh=>?_)
    clear hK K hS gh
    (try simp only[lp_])
    (refine zm (i:=7) rfl k_ (fun K hK=>?_));(rw[aao (by rfl)])
    go_simp
    go_at_call 108
    refine(z0q _ _ ns ls _ _ FN.out.own.1.reads FN.out.own.2.1.reads o_ o_).mono ?_
    rintro e w6 ⟨An6,cn6,Al6,cl6,rfl,fh,gJ⟩;have FX:=h_ (FN.out.below gJ);have HP:=h_ (FX.out.put (z0C FX.out.win y) rfl rfl fh FN.out.box.lt);clear gJ fh
    go_wp2_with fail
    refine hK _ _ (fun _=>⟨FX.out.box.cell 0,FX.out.box.cell 1⟩) (fun gh=>?_)
    have Rr:=gh k_;clear hK K gh
    (try simp only[lp_])
    refine tE_ 8 rfl rfl ?_;(try simp only[lp_])
    refine tE_ 9 rfl rfl ?_;(try simp only[lp_])
    refine tF_ 10 rfl ?_;(try simp only[lp_])
    have hbx6:=FX.out.box;clear x_0 x_1 x_f0 x_f1;obtain⟨x_0,x_1,x_f0,x_f1⟩:=hbx6.b2
    (refine zm (i:=11) rfl k_ (fun K hK=>?_));(rw[aao (by rfl)])
    go_simp;refine hK _ _ (fun h=>by cases h) (fun _=>?_)
    clear hK K Rr
    (try simp only[lp_])
    refine jr k_ ?_ _
    clear x_0 x_1 x_f0 x_f1 hbx6 Fl RZ;generalize jQ ns ls y=L' at*;go_wp2;go_roundw
    case rel=>exact⟨kn -1,An6,cn6,Al6,cl6,ns,L',by congr 1;omega,by omega,HP.out⟩
    case measure=>simp[intOf];omega
attribute [local go_sem ↓] zr zq zU zT
theorem z2N (vn vl:Value) (ns ls:List Pr) (k:Nat) (w:World) (hn:RP w vn ns) (hl:RP w vl ls) (hw:zC ns ls) (hk:k<ls.length):
  Calls Tryz.prog 260 #[.agg #[vn,vl],.int .i64 k] w fun e w'=>(∃x y:Int,e= .returned (.agg #[.int .i64 x,.int .i64 y]))/\Below w.heap.size w w':=by
 obtain⟨An,cn,rfl,FQ,GW,Hp⟩:=hn.formI;obtain⟨Al,cl,rfl,Hz,GM,gg⟩:=hl.formI;unfold maxLen at GW GM;have FG:=hw.2.1;have BP:=hw.1;have Zc:=hw.2.2.1;obtain⟨p1,p2,p3,c1,c2,_⟩:=zZ.1 (hw.2.2.2.2.2 k hk).1;obtain⟨p,hp⟩:∃p:Nat,(ndI ls k).1=p:=⟨(ndI ls k).1.toNat,by omega⟩;obtain⟨q,hq⟩:∃q:Nat,(ndI ls k).2=q:=⟨(ndI ls k).2.toNat,by omega⟩;obtain⟨bn,offn,rfl,Gh,m8⟩:=Hp o_;obtain⟨bl,offl,rfl,Hd,Nz⟩:=gg o_;obtain⟨l0,l1⟩:=Nz k hk;obtain⟨a0,a1⟩:=m8 p o_;obtain⟨b0,b1⟩:=m8 q o_;rw[hp] at l0 c1;rw[hq] at l1 c2;obtain⟨d0,d1,d2,d3⟩:=zF (x:=(ndI ns (p:Int)).1) (y:=(ndI ns (p:Int)).2) c1;obtain⟨e0,e1,e2,e3⟩:=zF (x:=(ndI ns (q:Int)).1) (y:=(ndI ns (q:Int)).2) c2;generalize (ndI ns (p:Int)).1=x0 at*;generalize (ndI ns (p:Int)).2=y0 at*;generalize (ndI ns (q:Int)).1=x1 at*;generalize (ndI ns (q:Int)).2=y1 at*;have ip0:(0:Int)<=(p:Int):=o_
 have ip1:(p:Int)<(ns.length:Int):=o_
 have iq0:(0:Int)<=(q:Int):=o_
 have iq1:(q:Int)<(ns.length:Int):=o_
 have ik0:(0:Int)<=(k:Int):=o_
 have ik1:(k:Int)<(ls.length:Int):=o_
 clear hw Hp gg Nz m8 hp hq p1 p2 p3 c1 c2
 go_enter Tryz.func260,Tryz.ntmps260
 go_upto_region 1 with (fail)
 obtain⟨w1,F9⟩:∃v,v=(w.alloc (.cells #[.slice (some ⟨bn,offn,none⟩) ns.length cn,.slice (some ⟨bl,offl,none⟩) ls.length cl] 27)).alloc (.cells #[.int .i64 0,.int .i64 0] 106):=⟨_,rfl⟩;have GT:Blk w1 w.heap.size 27 #[.slice (some ⟨bn,offn,none⟩) ns.length cn,.slice (some ⟨bl,offl,none⟩) ls.length cl]:=F9▸(Blk.newAt rfl).alloc _;have H6:Blk w1 (w.heap.size+1) 106 #[.int .i64 0,.int .i64 0]:=F9▸Blk.newAt (by simp);have Hb:Below w.heap.size w w1:=F9▸by exact bel_
 have Fd:w1.heap.size=w.heap.size+1+1:=by rw[F9];simp
 rw[<-F9];clear F9;have m0:=(Hb.cell (p:=⟨bl,offl+k*2,none⟩) Hd).trans l0;have m1:=(Hb.cell (p:=⟨bn,offn+p*2,none⟩) Gh).trans a0;have m2:=(Hb.cell (p:=⟨bn,offn+p*2+1,none⟩) Gh).trans a1
 refine vO (n:=11) (S:=fun w'=>w'.cell? ⟨w.heap.size,0,none⟩=some (.slice (some ⟨bn,offn,none⟩) ns.length cn)/\w'.cell? ⟨w.heap.size,1,none⟩=some (.slice (some ⟨bl,offl,none⟩) ls.length cl)/\
  w'.cell? ⟨bl,offl+k*2,none⟩=some (.int .i64 (p:Int))/\w'.cell? ⟨bn,offn+p*2,none⟩=some (.int .i64 x0)/\w'.cell? ⟨bn,offn+p*2+1,none⟩=some (.int .i64 y0)) k_ ⟨GT.cell 0,GT.cell 1,m0,m1,m2⟩ (fun hS=>?_)
 (refine zv (i:=0) (v:=?_) rfl rfl k_ k_ k_ k_ (fun _ _ _ h=>h) (Or.inl ⟨by rfl,?_⟩) (by assumption) ?_);rotate_left;(focus (intro w' gm;(try dsimp only at gm);go_simp;(try with_reducible rfl)));(try simp only[lp_])
 (refine zv (i:=1) (v:=?_) rfl rfl k_ k_ k_ k_ (fun _ _ _ h=>h) (Or.inl ⟨by rfl,?_⟩) (by assumption) ?_);rotate_left;(focus (intro w' gm;(try dsimp only at gm);go_simp;(try with_reducible rfl)));(try simp only[lp_])
 (refine zv (i:=2) (v:=?_) rfl rfl k_ k_ k_ k_ (fun _ _ _ h=>h) (Or.inl ⟨by rfl,?_⟩) (by assumption) ?_);rotate_left;(focus (intro w' gm;(try dsimp only at gm);go_simp;(try with_reducible rfl)));(try simp only[lp_])
 (refine zv (i:=3) (v:=?_) rfl rfl k_ k_ k_ k_ (fun _ _ _ h=>h) (Or.inl ⟨by rfl,?_⟩) (by assumption) ?_);rotate_left;(focus (intro w' gm;(try dsimp only at gm);go_simp;(try with_reducible rfl)));(try simp only[lp_])
 (refine zv (i:=4) (v:=?_) rfl rfl k_ k_ k_ k_ (fun _ _ _ h=>h) (Or.inl ⟨by rfl,?_⟩) (by assumption) ?_);rotate_left;(focus (intro w' gm;(try dsimp only at gm);go_simp;(try with_reducible rfl)));(try simp only[lp_])
 (refine zv (i:=5) (v:=?_) rfl rfl k_ k_ k_ k_ (fun _ _ _ h=>h) (Or.inl ⟨by rfl,?_⟩) (by assumption) ?_);rotate_left;(focus (intro w' gm;(try dsimp only at gm);go_simp;(try with_reducible rfl)));(try simp only[lp_])
 (refine zv (i:=6) (v:=?_) rfl rfl k_ k_ k_ k_ (fun _ _ _ h=>h) (Or.inl ⟨by rfl,?_⟩) (by assumption) ?_);rotate_left;(focus (intro w' gm;(try dsimp only at gm);go_simp;(try with_reducible rfl)));(try simp only[lp_])
 (refine zv (i:=7) (v:=?_) rfl rfl k_ k_ k_ k_ (fun _ _ _ h=>h) (Or.inl ⟨by rfl,?_⟩) (by assumption) ?_);rotate_left;(focus (intro w' gm;(try dsimp only at gm);go_simp;(try with_reducible rfl)));(try simp only[lp_])
 (refine zv (i:=8) (v:=?_) rfl rfl k_ k_ k_ k_ (fun _ _ _ h=>h) (Or.inl ⟨by rfl,?_⟩) (by assumption) ?_);rotate_left;(focus (intro w' gm;(try dsimp only at gm);go_simp;(try with_reducible rfl)));(try simp only[lp_])
 (refine zv (i:=9) (v:=?_) rfl rfl k_ k_ k_ k_ (fun _ _ _ h=>h) (Or.inl ⟨by rfl,?_⟩) (by assumption) ?_);rotate_left;(focus (intro w' gm;(try dsimp only at gm);go_simp;(try with_reducible rfl)));(try simp only[lp_])
 (refine qP (i:=10) rfl k_ (fun K hK=>?_));(rw[aao (by rfl)])
 go_simp;have r8:=GT;have hRw1:=H6;have Ha:=Hb;have hsw1:=Fd;clear GT H6 Hb Fd;have r9:=h_ ((Ha.alloc (show w.heap.size<=w1.heap.size by omega) (.cells #[.int .i64 0,.int .i64 0] 106)).drew);have wv:=((Blk.newAt (w:=w1) (g:=w.heap.size+1+1) (t:=106) (cs:= #[.int .i64 0,.int .i64 0]) o_).drew);refine hK _ _ (fun _=>⟨((r8.alloc _).drew).cell 0,((r8.alloc _).drew).cell 1,(r9.out.cell (p:=⟨bl,offl+k*2,none⟩) Hd).trans l0,(r9.out.cell (p:=⟨bn,offn+p*2,none⟩) Gh).trans a0,(r9.out.cell (p:=⟨bn,offn+p*2+1,none⟩) Gh).trans a1⟩) (fun gh=>?_)
 clear hK K hS gh
 (try simp only[lp_])
 have cz:=wv.cell 0;have fz:=wv.frozen 0;simp only[abd,aah,aag] at cz
 (refine qP (i:=11) rfl k_ (fun K hK=>?_));(rw[aao (by rfl)])
 go_simp;refine hK _ _ (fun h=>absurd rfl h) (fun _=>?_)
 clear hK K cz fz r9 wv
 (try simp only[lp_])
 refine xC k_ ?_ _
 obtain⟨w2,gw⟩:∃v,v=(w1.alloc (.cells #[.int .i64 x0,.int .i64 y0] 106)).drew :=⟨_,rfl⟩;have NE:Blk w2 w.heap.size 27 #[.slice (some ⟨bn,offn,none⟩) ns.length cn,.slice (some ⟨bl,offl,none⟩) ls.length cl]:=gw▸(r8.alloc _).drew;have hRw2:Blk w2 (w.heap.size+1) 106 #[.int .i64 0,.int .i64 0]:=gw▸(hRw1.alloc _).drew;have hNw2:Blk w2 (w.heap.size+1+1) 106 #[.int .i64 x0,.int .i64 y0]:=gw▸(Blk.newAt o_).drew;have Hc:Below w.heap.size w w2:=gw▸(Ha.alloc (show w.heap.size<=w1.heap.size by omega) _).drew;have hsw2:w2.heap.size=w.heap.size+1+1+1:=by rw[gw];simp;omega
 go_upto_region 2 with (fail)
 try rw[<-gw]
 clear gw r8 hRw1 m0 m1 m2 Ha hsw1;have m0:=(Hc.cell (p:=⟨bl,offl+k*2+1,none⟩) Hd).trans l1;have m1:=(Hc.cell (p:=⟨bn,offn+q*2,none⟩) Gh).trans b0;have m2:=(Hc.cell (p:=⟨bn,offn+q*2+1,none⟩) Gh).trans b1
 refine vO (n:=11) (S:=fun w'=>w'.cell? ⟨w.heap.size,0,none⟩=some (.slice (some ⟨bn,offn,none⟩) ns.length cn)/\w'.cell? ⟨w.heap.size,1,none⟩=some (.slice (some ⟨bl,offl,none⟩) ls.length cl)/\
  w'.cell? ⟨bl,offl+k*2+1,none⟩=some (.int .i64 (q:Int))/\w'.cell? ⟨bn,offn+q*2,none⟩=some (.int .i64 x1)/\w'.cell? ⟨bn,offn+q*2+1,none⟩=some (.int .i64 y1)) k_ ⟨NE.cell 0,NE.cell 1,m0,m1,m2⟩ (fun hS=>?_)
 (refine zv (i:=0) (v:=?_) rfl rfl k_ k_ k_ k_ (fun _ _ _ h=>h) (Or.inl ⟨by rfl,?_⟩) (by assumption) ?_);rotate_left;(focus (intro w' gm;(try dsimp only at gm);go_simp;(try with_reducible rfl)));(try simp only[lp_])
 (refine zv (i:=1) (v:=?_) rfl rfl k_ k_ k_ k_ (fun _ _ _ h=>h) (Or.inl ⟨by rfl,?_⟩) (by assumption) ?_);rotate_left;(focus (intro w' gm;(try dsimp only at gm);go_simp;(try with_reducible rfl)));(try simp only[lp_])
 (refine zv (i:=2) (v:=?_) rfl rfl k_ k_ k_ k_ (fun _ _ _ h=>h) (Or.inl ⟨by rfl,?_⟩) (by assumption) ?_);rotate_left;(focus (intro w' gm;(try dsimp only at gm);go_simp;(try with_reducible rfl)));(try simp only[lp_])
 (refine zv (i:=3) (v:=?_) rfl rfl k_ k_ k_ k_ (fun _ _ _ h=>h) (Or.inl ⟨by rfl,?_⟩) (by assumption) ?_);rotate_left;(focus (intro w' gm;(try dsimp only at gm);go_simp;(try with_reducible rfl)));(try simp only[lp_])
 (refine zv (i:=4) (v:=?_) rfl rfl k_ k_ k_ k_ (fun _ _ _ h=>h) (Or.inl ⟨by rfl,?_⟩) (by assumption) ?_);rotate_left;(focus (intro w' gm;(try dsimp only at gm);go_simp;(try with_reducible rfl)));(try simp only[lp_])
 (refine zv (i:=5) (v:=?_) rfl rfl k_ k_ k_ k_ (fun _ _ _ h=>h) (Or.inl ⟨by rfl,?_⟩) (by assumption) ?_);rotate_left;(focus (intro w' gm;(try dsimp only at gm);go_simp;(try with_reducible rfl)));(try simp only[lp_])
 (refine zv (i:=6) (v:=?_) rfl rfl k_ k_ k_ k_ (fun _ _ _ h=>h) (Or.inl ⟨by rfl,?_⟩) (by assumption) ?_);rotate_left;(focus (intro w' gm;(try dsimp only at gm);go_simp;(try with_reducible rfl)));(try simp only[lp_])
 (refine zv (i:=7) (v:=?_) rfl rfl k_ k_ k_ k_ (fun _ _ _ h=>h) (Or.inl ⟨by rfl,?_⟩) (by assumption) ?_);rotate_left;(focus (intro w' gm;(try dsimp only at gm);go_simp;(try with_reducible rfl)));(try simp only[lp_])
 (refine zv (i:=8) (v:=?_) rfl rfl k_ k_ k_ k_ (fun _ _ _ h=>h) (Or.inl ⟨by rfl,?_⟩) (by assumption) ?_);rotate_left;(focus (intro w' gm;(try dsimp only at gm);go_simp;(try with_reducible rfl)));(try simp only[lp_])
 (refine zv (i:=9) (v:=?_) rfl rfl k_ k_ k_ k_ (fun _ _ _ h=>h) (Or.inl ⟨by rfl,?_⟩) (by assumption) ?_);rotate_left;(focus (intro w' gm;(try dsimp only at gm);go_simp;(try with_reducible rfl)));(try simp only[lp_])
 (refine qP (i:=10) rfl k_ (fun K hK=>?_));(rw[aao (by rfl)])
 go_simp;have Ra:=h_ ((Hc.alloc (show w.heap.size<=w2.heap.size by omega) (.cells #[.int .i64 0,.int .i64 0] 106)).drew);have wy:=((Blk.newAt (w:=w2) (g:=w.heap.size+1+1+1) (t:=106) (cs:= #[.int .i64 0,.int .i64 0]) o_).drew);refine hK _ _ (fun _=>⟨((NE.alloc _).drew).cell 0,((NE.alloc _).drew).cell 1,(Ra.out.cell (p:=⟨bl,offl+k*2+1,none⟩) Hd).trans l1,(Ra.out.cell (p:=⟨bn,offn+q*2,none⟩) Gh).trans b0,(Ra.out.cell (p:=⟨bn,offn+q*2+1,none⟩) Gh).trans b1⟩) (fun gh=>?_)
 clear hK K hS gh
 (try simp only[lp_])
 have cz:=wy.cell 0;have fz:=wy.frozen 0;simp only[abd,aah,aag] at cz
 (refine qP (i:=11) rfl k_ (fun K hK=>?_));(rw[aao (by rfl)])
 go_simp;refine hK _ _ (fun h=>absurd rfl h) (fun _=>?_)
 clear hK K cz fz Ra wy
 (try simp only[lp_])
 refine xC k_ ?_ _
 obtain⟨w3,f8⟩:∃v,v=(w2.alloc (.cells #[.int .i64 x1,.int .i64 y1] 106)).drew :=⟨_,rfl⟩;have wz:Blk w3 (w.heap.size+1) 106 #[.int .i64 0,.int .i64 0]:=f8▸(hRw2.alloc _).drew;have hNw3:Blk w3 (w.heap.size+1+1+1) 106 #[.int .i64 x1,.int .i64 y1]:=f8▸(Blk.newAt o_).drew;have hPw3:Blk w3 (w.heap.size+1+1) 106 #[.int .i64 x0,.int .i64 y0]:=f8▸(hNw2.alloc _).drew;have He:Below w.heap.size w w3:=f8▸(Hc.alloc (show w.heap.size<=w2.heap.size by omega) _).drew
 go_upto_region 3 with (fail)
 try rw[<-f8]
 clear f8 NE hRw2 hNw2 Hc hsw2 m0 m1 m2;obtain⟨n_0,n_1⟩:=hPw3.c2;obtain⟨o_0,o_1⟩:=hNw3.c2;obtain⟨r_0,r_1,r_f0,r_f1⟩:=wz.b2;have Gx:=wz.lt;have mQ:=h_ (fun u0 u1=>(He.setCell (p:=⟨w.heap.size+1,0,none⟩) (Nat.le_succ _) u0).setCell (p:=⟨w.heap.size+1,1,none⟩) (Nat.le_succ _) u1);clear hPw3 hNw3 wz He;go_wp2;exact bodyPost_ret (v:= .agg #[.int .i64 _,.int .i64 _]) (by simp[results,Tryz.results260,go_sem,r_0,r_1,Gx];exact⟨rfl,rfl⟩) rfl ⟨⟨_,_,rfl⟩,mQ.out _ _⟩
end Go.Proofs.YtnjcpljhmhdhkaaGreat
