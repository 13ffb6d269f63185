/- part 20 -/
import Derived.Test.YtnjcpljhmhdhkaaGreatUPk18
set_option linter.unusedSimpArgs false
set_option linter.unusedVariables false
set_option maxRecDepth 100000
set_option maxHeartbeats 16000000
namespace Go.Proofs.YtnjcpljhmhdhkaaGreat
open Go.RowKit
theorem z2S (n:Nat):(madeCells #[.int .i64 0] n).toList =(List.replicate n (0:Int)).map vI:=by
 apply aat
 intro j
 by_cases hj:j<n
 ·simp only[madeCells,Array.toList_map,aau,Array.toList_range,aav hj,abm,aao hj,aaw]
  congr 1
  show #[Value.int .i64 0][j%1]! =_
  rw[Nat.mod_one];rfl
 ·simp[madeCells,hj]
noncomputable def kX (ns ls:List Pr):List Int:=if zf ns ls then zF ns ls else []
theorem ye {ns ls:List Pr} (hw:zf ns ls=true):0<(z9 ns ls).length :=by
 have Hn:=zI hw;have Hu:∀j:Nat,j<ls.length->zp ns (ndI ls j)=true:=fun j hj=>(Hn.1.2.2.2.2.2 j hj).1
 have hF:z9 ns ls=zg ns ls:=by simp[z9,hw]
 rw[hF];have h1:=(qS Hu (2*ls.length) (aaa _)).1 0 o_
 rcases abw (zg ns ls).length with h0|h0
 ·have:zr ns ls (2*ls.length)=[]:=aby h0
  rw[this] at h1;simp at h1
 ·exact h0
theorem kl {base:Nat} {w:World} {g n c:Nat} {l:List Int} (h:OwnI base w (.slice (some ⟨g,0,none⟩) n c) l) (q:Nat) (x:Int):OwnI base (w.setCell ⟨g,q,none⟩ (.int .i64 x)) (.slice (some ⟨g,0,none⟩) n c) (l.set q x):=
 OwnE.set_ (t:=3) (enc:=vI) h q x
theorem jH {w w':World} {b o:Nat} (h:w'.heap[b]? =w.heap[b]?):w'.cell? ⟨b,o,none⟩=w.cell? ⟨b,o,none⟩:=by
 simp only[World.cell?,h]
theorem zao {base:Nat} {w:World} {v:Value} {l:List Int} (h:OwnI base w v l) (hn:0<l.length):
  ∃b c,v= .slice (some ⟨b,0,none⟩) l.length c/\base<=b/\b<w.heap.size/\∀j,j<l.length->w.cell? ⟨b,j,none⟩=some (.int .i64 (l.getD j 0)):=by
 rcases hc:h.2 with ⟨_,h0⟩|⟨g,cap,cur,rfl,hb,_⟩
 ·omega
 ·exact⟨g,cap,rfl,hb,(OwnI.lt h g rfl).2,fun j hj=>OwnE.cell (t:=3) (enc:=vI) h 0 hj⟩
theorem z8i {base:Nat} {w:World} {v:Value} {F:List (List Nat)} (h:OwnF base w v F) (hn:0<F.length) (hp:∀k,k<F.length->0<(F.getD k []).length):
  ∃b c,v= .slice (some ⟨b,0,none⟩) F.length c/\base<=b/\b<w.heap.size/\∀k,k<F.length->∃b5 c5,w.cell? ⟨b,k,none⟩=some (.slice (some ⟨b5,0,none⟩) (F.getD k []).length c5)/\base<=b5/\b5<w.heap.size/\
   ∀j,j<(F.getD k []).length ->w.cell? ⟨b5,j,none⟩=some (.int .i64 ((F.getD k []).getD j 0:Nat)):=by
 obtain⟨vs,h1,h2,h3⟩:=h
 rcases hc:h2.2 with ⟨_,h0⟩|⟨g,cap,cur,rfl,hb,_⟩
 ·omega
 ·refine⟨g,cap,rfl,hb,(World.ownsRow.lt h2 g rfl).2,fun k hk=>?_⟩
  obtain⟨b5,c5,e,gf,hl5,cV⟩:=zao (h3 k hk) (by rw[za];exact hp k hk);rw[za] at e cV;have hcell:=h2.cellAt k o_;have hvk:vs[k]? =some (vs.getD k undef):=by rw[List.getD,aac o_];rfl
  rw[hvk,e] at hcell;exact⟨b5,c5,hcell,gf,hl5,fun j hj=>by rw[cV j hj,qj]⟩
theorem z6T (vn vl:Value) (ns ls:List Pr) (w:World) (hn:RP w vn ns) (hl:RP w vl ls) (hw:zf ns ls=false):
  CB_ 145 #[.agg #[vn,vl]] w (.slice none 0 0):=by
 have Hg:Below w.heap.size w (w.alloc (.cells #[vn,vl] 27)):=bel_
 go_enter Tryz.func145,Tryz.ntmps145
 go_wp2_with fail
 refine(j5 _ _ ns ls _ _ (hn.below Hg) (hl.below Hg) hw).mono ?_
 rintro e w1 ⟨rfl,h9⟩;have h8:=Hg.trans (h9.mono Hg.size);go_wp2;go_ret
 exact⟨rfl,h8⟩
theorem Vq (vn vl:Value) (ns ls:List Pr) (w:World) (hn:RP w vn ns) (hl:RP w vl ls):
  Calls Tryz.prog 147 #[.agg #[vn,vl]] w (RetI (kX ns ls) w):=by
 obtain⟨An,cn,rfl,ci,fC,_⟩:=hn.formI;obtain⟨Al,cl,rfl,Ho,GO,_⟩:=hl.formI;unfold maxLen at fC GO;have Hg:Below w.heap.size w (w.alloc (.cells #[.slice An ns.length cn,.slice Al ls.length cl] 27)):=bel_
 have gD:Blk (w.alloc (.cells #[.slice An ns.length cn,.slice Al ls.length cl] 27)) w.heap.size 27 #[.slice An ns.length cn,.slice Al ls.length cl]:=Blk.newAt rfl
 cases hw:zf ns ls
 ·have HR:Hid (kX ns ls=[]):=h_ (by simp[kX,hw])
  have nz:=fun (u:World) (a:Option Addr) (l c:Nat)=>Lib.run_eql_slice_nil (P:=Tryz.prog) u 135 31 a l c 0 0 Tryz.underlying135
  go_enter Tryz.func147,Tryz.ntmps147
  go_wp2_with fail
  refine(z6T _ _ ns ls _ (hn.below Hg) (hl.below Hg) hw).mono ?_
  rintro e w1 ⟨rfl,h9⟩;have h8:=Hg.trans (h9.mono Hg.size);go_wp2;go_ret
  exact⟨_,rfl,by rw[HR.out];exact OwnI.nil _ _,h8⟩
 ·have HR:Hid (kX ns ls=zF ns ls):=h_ (by simp[kX,hw])
  have Hn:=(zI hw).1;have GW:=Hn.2.2.1;have CN:=ye hw;obtain⟨i0,hi,iz0,iz1,iz2⟩:=info_parts ql;have Ft:=h_ (fun k hk=>y6 (ns:=ns) (ls:=ls) (k:=k) hk);have GB:=zq ns ls;have HS:Hid (zF ns ls=qK (z9 ns ls) (List.replicate (2*ls.length) 0) (z9 ns ls).length):=h_ rfl;have e2:2*(ls.length:Int)=((2*ls.length:Nat):Int):=o_
  have nz:=fun (u:World) (a:Option Addr) (l c:Nat)=>Lib.run_eql_slice_nil (P:=Tryz.prog) u 135 31 a l c 0 0 Tryz.underlying135
  go_enter Tryz.func147,Tryz.ntmps147
  go_wp2_with fail
  refine(jP _ _ ns ls _ (hn.below Hg) (hl.below Hg)).mono ?_
  rintro e w1 ⟨v1,rfl,Hj,h9⟩;have h8:=Hg.trans (h9.mono Hg.size);have gg:=gD.below h9 gD.lt;have H8:=gg.lt;have Yl:=Hj.reads;generalize z9 ns ls=F at*;obtain⟨A1,c1,rfl,Gb,F4,Fi⟩:=Yl.get;unfold maxLen at F4;obtain⟨b1,off1,rfl,YV,Us⟩:=Fi CN;have HC1:=h_ Us;obtain⟨a_0,a_1⟩:=gg.c2;generalize hNN:2*ls.length=N at*;have Yh:N<=40:=o_
  have HZ:=h_ (fun k=>vk F (List.replicate N (0:Int)) k);have mB:=h_ (fun (g:List Int) (f:List Nat) (k j:Nat)=>vp g f k j)
  go_wp2_with (at_make;refine wpList_make_full _ rfl _ _ 31 rfl (w.heap.size+1) 3 i0 (.int .i64 0) 1 Tryz.underlying31 hi iz0 iz1 .i64 .i64 _ _ N rfl rfl rfl rfl (by rw[iz2];omega) (by unfold maxLen;omega) o_ ?_)
  intro w2 Hz gQ;have m6:Below w1.heap.size w1 w2:=(aaj _ _).grown gQ (aaa _) (by intro k hk;cases hk)
  have fI:OwnI (w.heap.size+1) w2 (.slice (some ⟨w1.heap.size,0,none⟩) N N) (qK F (List.replicate N 0) 0):=by
   show OwnI _ _ _ (List.replicate N 0)
   unfold OwnI;rw[aaD,<-z2S];exact Hz
  have YW:=(fI.lt _ rfl).2;have UZ:=H8;obtain⟨gs,mS⟩:∃g,w1.heap.size=g:=⟨_,rfl⟩;rw[mS] at m6 fI YW UZ YV⊢;have Ut:=h_ mS;go_wp2
  go_loopw [20] (fun x wr=>∃k:Nat,k<=F.length/\x= .int .i64 k/\OwnI (w.heap.size+1) wr (.slice (some ⟨gs,0,none⟩) N N) (qK F (List.replicate N 0) k)/\Below gs w1 wr) (fun x _=>F.length -(intOf x).toNat)
  case atStart=>exact⟨0,aab _,rfl,fI,m6⟩
  case round=>
   obtain⟨k,hk,rfl,ho,hB⟩:=hrel
   by_cases Hd:k<F.length
   ·have Hr:(k:Int)<(F.length:Int):=o_
    have ik1:(0:Int)<=(k:Int):=o_
    obtain⟨rr,Bs,Nd⟩:=HC1.out k Hd;have hcr':=(hB.cell (p:=⟨b1,off1+k,none⟩) YV).trans Bs;obtain⟨Hn,Nf,NJ,BN⟩:=Ft.out k Hd;have Ym:=h_ Nf;have YX:Hid (qK F (List.replicate N 0) (k+1)=qc (qK F (List.replicate N 0) k) (F.getD k []) k (F.getD k []).length):=h_ rfl;have hgl:=HZ.out k;rw[aaD] at hgl;generalize qK F (List.replicate N 0) k=G at*;generalize F.getD k []=f at*;obtain⟨A5,c5,rfl,cV,hm5,N6⟩:=Nd.form;rw[za] at N6 hcr' cV hm5;obtain⟨b5,off5,rfl,gf,BQ⟩:=N6 NJ;rw[Ut.out] at gf;have Ue:=h_ BQ;have h0:OwnI (w.heap.size+1) wr (.slice (some ⟨gs,0,none⟩) N N) (qc G f k 0):=ho;go_wp2
    go_loopw [27] (fun x wr=>∃j:Nat,j<=f.length/\x= .int .i64 j/\OwnI (w.heap.size+1) wr (.slice (some ⟨gs,0,none⟩) N N) (qc G f k j)/\Below gs w1 wr) (fun x _=>f.length -(intOf x).toNat)
    case atStart=>exact⟨0,aab _,rfl,h0,hB⟩
    case round=>
     obtain⟨j,hj,rfl,ho,hB⟩:=hrel
     by_cases FL:j<f.length
     ·have Yi:(j:Int)<(f.length:Int):=o_
      have ij1:(0:Int)<=(j:Int):=o_
      have hcj:=(hB.cell (p:=⟨b5,off5+j,none⟩) gf).trans (Ue.out j FL);rw[qj] at hcj;have Cc:f.getD j 0<N:=Ym.out _ (by rw[List.getD,aac FL];exact abh FL);have HSJ:Hid (qc G f k (j+1)=(qc G f k j).set (f.getD j 0) k):=h_ rfl;have MK:=mB.out G f k j;generalize f.getD j 0=x at*;have ix1:(0:Int)<=(x:Int):=o_
      have ix2:(x:Int)<(N:Int):=o_
      have Fy:=OwnE.cell (t:=3) (enc:=vI) ho 0 (q:=x) o_;obtain⟨z,hz⟩:∃z,wr.cell? ⟨gs,x,none⟩=some z:=⟨_,Fy⟩;have fx:=OwnE.frz (t:=3) (enc:=vI) ho x;have bU:Hid (OwnI (w.heap.size+1) (wr.setCell ⟨gs,x,none⟩ (.int .i64 k)) (.slice (some ⟨gs,0,none⟩) N N) (qc G f k (j+1))):=h_ (by rw[HSJ.out];exact kl ho x k);have uy:=h_ (hB.setCell (p:=⟨gs,x,none⟩) (aaa _) (.int .i64 k));go_wp2;go_roundw
      case rel=>exact⟨j+1,by omega,by go_num,bU.out,uy.out⟩
      case measure=>simp[intOf];omega
     ·have GV:j=f.length:=o_
      subst GV;go_wp2;go_roundw
      case rel=>exact⟨k+1,by omega,by go_num,by rw[YX.out];exact ho,hB⟩
      case measure=>simp[intOf];omega
   ·have Hw:k=F.length:=o_
    subst Hw;have HB:=h_ (h8.trans (Below.mono (by rw[Ut.out];exact hB) h8.size));go_wp2;go_ret
    exact⟨_,rfl,by rw[HR.out,HS.out];exact OwnI.mono ho o_,HB.out⟩
theorem Vk (vn vl:Value) (ns ls:List Pr) (w:World) (hn:RP w vn ns) (hl:RP w vl ls) (hw:zf ns ls=true):
  Calls Tryz.prog 200 #[.agg #[vn,vl]] w (RetI (zF ns ls) w):=by
 obtain⟨An,cn,rfl,ci,fC,_⟩:=hn.formI;obtain⟨Al,cl,rfl,Ho,GO,_⟩:=hl.formI;unfold maxLen at fC GO;have Hg:Below w.heap.size w (w.alloc (.cells #[.slice An ns.length cn,.slice Al ls.length cl] 27)):=bel_
 have gD:Blk (w.alloc (.cells #[.slice An ns.length cn,.slice Al ls.length cl] 27)) w.heap.size 27 #[.slice An ns.length cn,.slice Al ls.length cl]:=Blk.newAt rfl;have Hn:=(zI hw).1;have GW:=Hn.2.2.1;have CN:=ye hw;obtain⟨i0,hi,iz0,iz1,iz2⟩:=info_parts ql;have Ft:=h_ (fun k hk=>y6 (ns:=ns) (ls:=ls) (k:=k) hk);have GB:=zq ns ls;have HS:Hid (zF ns ls=qK (z9 ns ls) (List.replicate (2*ls.length) 0) (z9 ns ls).length):=h_ rfl;have e2:2*(ls.length:Int)=((2*ls.length:Nat):Int):=o_
 have CX:=h_ (fun (v:World) (h1:RP v (.slice An ns.length cn) ns) (h2:RP v (.slice Al ls.length cl) ls)=>jN (.slice An ns.length cn) (.slice Al ls.length cl) ns ls v h1 h2);clear Hn hw;obtain⟨w1,FY⟩:∃w1,w1=w.alloc (.cells #[.slice An ns.length cn,.slice Al ls.length cl] 27):=⟨_,rfl⟩;have Fv:w1.heap.size=w.heap.size+1:=by rw[FY];simp
 have HW1:=h_ FY;rw[<-FY] at Hg gD;clear FY
 go_enter Tryz.func200,Tryz.ntmps200
 go_upto_region 1 with (fail)
 rw[<-HW1.out];clear HW1;obtain⟨a_0,a_1⟩:=gD.c2;have H8:=gD.lt;generalize hNN:2*ls.length=N at*;have Yh:N<=40:=o_
 have HZ:=h_ (fun F k=>vk F (List.replicate N (0:Int)) k);have mB:=h_ (fun (g:List Int) (f:List Nat) (k j:Nat)=>vp g f k j);clear hNN
 go_wp2_with (at_make;refine wpList_make_full _ rfl _ _ 31 rfl (w.heap.size+1) 3 i0 (.int .i64 0) 1 Tryz.underlying31 hi iz0 iz1 .i64 .i64 _ _ N rfl rfl rfl rfl (by rw[iz2];omega) (by unfold maxLen;omega) o_ ?_)
 intro w2 Hz gQ;have m6:Below w1.heap.size w1 w2:=(aaj _ _).grown gQ (aaa _) (by intro k hk;cases hk)
 have fI:OwnI (w.heap.size+1) w2 (.slice (some ⟨w.heap.size+1,0,none⟩) N N) (List.replicate N 0):=by
  unfold OwnI;rw[aaD,<-z2S];exact Hz
 have Ha:=Hg.trans (m6.mono Hg.size);have gV:=gD.below m6 H8;obtain⟨gs,mS⟩:∃g,w.heap.size+1=g:=⟨_,rfl⟩;clear Hz gQ a_0 a_1 H8 m6 Hg gD i0 hi iz0 iz1 iz2;rw[mS] at fI⊢;have Ut:=h_ mS;clear mS Fv;obtain⟨a_0,a_1⟩:=gV.c2
 go_wp2_with fail
 refine(CX.out _ (hn.below Ha) (hl.below Ha)).mono ?_
 rintro e w3 ⟨v3,rfl,Hq,Hf⟩;have Hc:=Ha.trans (Hf.mono Ha.size);have GL:=fI.kept Hf;have Nc:=Hq.reads;have WS:gs<w2.heap.size:=(OwnI.lt fI gs rfl).2;generalize z9 ns ls=F at*;have hFP:=fun k hk=>(Ft.out k hk).2.2.1
 obtain⟨b1,c1,rfl,gc,YV,Us⟩:=z8i Hq CN hFP;have HC1:=h_ Us;have Ym:=h_ (fun k hk=>(Ft.out k hk).2.1);have H40:=h_ (fun k hk=>(Ft.out k hk).2.2.2);clear Nc Us hFP Ft Hf Hq Ha gV fI a_0 a_1;have hgr0:w3.grownBy w3 (some gs):=World.grownBy.refl _ _;go_wp2
 go_loopw [5] (fun x wr=>∃k:Nat,k<=F.length/\x= .int .i64 k/\OwnI gs wr (.slice (some ⟨gs,0,none⟩) N N) (qK F (List.replicate N 0) k)/\w3.grownBy wr (some gs)) (fun x _=>F.length -(intOf x).toNat)
 case atStart=>exact⟨0,aab _,rfl,GL,hgr0⟩
 case round=>
  clear GL hgr0;obtain⟨k,hk,rfl,ho,hB⟩:=hrel
  by_cases Hd:k<F.length
  ·have Hr:(k:Int)<(F.length:Int):=o_
   have ik1:(0:Int)<=(k:Int):=o_
   obtain⟨b5,c5,Bs,hbb5,gf,cV⟩:=HC1.out k Hd;have HFE1:=h_ (Ym.out k Hd);have BN:=H40.out k Hd;have YX:Hid (qK F (List.replicate N 0) (k+1)=qc (qK F (List.replicate N 0) k) (F.getD k []) k (F.getD k []).length):=h_ rfl;have hgl:=HZ.out F k;rw[aaD] at hgl;generalize qK F (List.replicate N 0) k=G at*;generalize F.getD k []=f at*;have uQ:=h_ Bs;have Ue:=h_ cV;clear Bs cV;have h0:OwnI gs wr (.slice (some ⟨gs,0,none⟩) N N) (qc G f k 0):=ho;clear ho;go_wp2
   go_loopw [6] (fun x wr=>∃j:Nat,j<=f.length/\x= .int .i64 j/\OwnI gs wr (.slice (some ⟨gs,0,none⟩) N N) (qc G f k j)/\w3.grownBy wr (some gs)) (fun x _=>f.length -(intOf x).toNat)
   case atStart=>exact⟨0,aab _,rfl,h0,hB⟩
   case round=>
    clear h0 hB;obtain⟨j,hj,rfl,ho,hB⟩:=hrel;have Bs:=(jH (o:=k) (hB.block b1 o_ (fun e=>by cases e;omega))).trans uQ.out;have gj:=hB.size;have hb5w:b5<wr.heap.size:=o_
    by_cases FL:j<f.length
    ·have Yi:(j:Int)<(f.length:Int):=o_
     have ij1:(0:Int)<=(j:Int):=o_
     have hcj:=(jH (o:=j) (hB.block b5 o_ (fun e=>by cases e;omega))).trans (Ue.out j FL);have Cc:f.getD j 0<N:=HFE1.out _ (by rw[List.getD,aac FL];exact abh FL);have HSJ:Hid (qc G f k (j+1)=(qc G f k j).set (f.getD j 0) k):=h_ rfl;have MK:=mB.out G f k j;generalize f.getD j 0=x at*;have ix1:(0:Int)<=(x:Int):=o_
     have ix2:(x:Int)<(N:Int):=o_
     have Fy:=OwnE.cell (t:=3) (enc:=vI) ho 0 (q:=x) o_;obtain⟨z,hz⟩:∃z,wr.cell? ⟨gs,x,none⟩=some z:=⟨_,Fy⟩;have fx:=OwnE.frz (t:=3) (enc:=vI) ho x;have bU:Hid (OwnI gs (wr.setCell ⟨gs,x,none⟩ (.int .i64 k)) (.slice (some ⟨gs,0,none⟩) N N) (qc G f k (j+1))):=h_ (by rw[HSJ.out];exact kl ho x k);have uy:=h_ (qq hB x (.int .i64 k));clear ho hB Fy;go_wp2;go_roundw
     case rel=>exact⟨j+1,by omega,by go_num,bU.out,uy.out⟩
     case measure=>simp[intOf];omega
    ·have GV:j=f.length:=o_
     subst GV;go_wp2;go_roundw
     case rel=>exact⟨k+1,by omega,by go_num,by rw[YX.out];exact ho,hB⟩
     case measure=>simp[intOf];omega
  ·have Hw:k=F.length:=o_
   subst Hw;have HB:=h_ (Hc.grown hB Hc.size (fun k hk=>by cases hk;have:=Ut.out;omega));go_wp2;go_ret
   exact⟨_,rfl,by rw[HS.out];exact OwnI.mono ho (by have:=Ut.out;omega),HB.out⟩
attribute [local go_sem ↓] qb qf
theorem Vw (vn vl:Value) (ns ls:List Pr) (k:Nat) (w:World) (hn:RP w vn ns) (hl:RP w vl ls) (hk:k<ns.length) (ck:ns.length<=12) (GW:ls.length<=20) (Hu:∀j:Nat,j<ls.length->zp ns (ndI ls j)=true):
  Calls Tryz.prog 144 #[.agg #[vn,vl],.int .i64 k] w fun e w'=>∃b off n c,∃p:Nat,e= .returned (.slice (some ⟨b,off,none⟩) n c)/\0<n/\b<w'.heap.size/\w'.cell? ⟨b,off,none⟩=some (.int .i64 p)/\
   (zi ns.length ls ls.length).getD k 0=(p:Int)/\p<=k/\Below w.heap.size w w':=by
 refine(Ju vn vl ns ls k w hn hl hk ck GW Hu).mono ?_
 rintro e w' ⟨v,rfl,ho,hb⟩;obtain⟨p,h1,h2,h3⟩:=z5r (z1R Hu) hk;obtain⟨hp,hp'⟩:=List.getElem?_eq_some_iff.1 h3;obtain⟨A,c,rfl,_,_,hcell⟩:=ho.reads.form;obtain⟨b,off,rfl,Hd,hc⟩:=hcell (by rw[za];exact hp);refine⟨b,off,_,c,p,rfl,by rw[za];exact hp,Hd,?_,h1,h2,hb⟩
 have:=hc 0 (by rw[za];exact hp);rw[aaf] at this;rw[this];unfold natI;rw[List.getD,aau,h3];rfl
theorem z44 (vn vl:Value) (ns ls:List Pr) (w:World) (hn:RP w vn ns) (hl:RP w vl ls):
  CB_ 148 #[.agg #[vn,vl]] w (.int .i64 (jh ns ls)):=by
 cases hw:winB ns ls
 ·have HR:Hid (jh ns ls=0):=h_ (by simp[jh,hw])
  go_enter Tryz.func148,Tryz.ntmps148
  go_wp2_with fail
  refine(zX _ _ ns ls _ _ (hn.below bel_) (hl.below bel_) hw).mono ?_
  rintro e w1 ⟨rfl,h9⟩;go_wp2;go_ret
  exact⟨zb HR.out.symm,by exact bel_⟩
 ·have HR:Hid (jh ns ls=(yJ ns.length ls ns.length:Int)):=h_ (by simp[jh,hw])
  have Hn:=zD.1 hw;have ck:=Hn.2.1;have GW:=Hn.2.2.1;have Bk:Hid (∀j:Nat,j<ls.length->zp ns (ndI ls j)=true):=h_ (fun j hj=>(Hn.2.2.2.2.2 j hj).1);obtain⟨An,cn,rfl,ci,fC,_⟩:=hn.formI;unfold maxLen at fC
  go_enter Tryz.func148,Tryz.ntmps148
  go_wp2_with fail
  refine(zX _ _ ns ls _ _ (hn.below bel_) (hl.below bel_) hw).mono ?_
  rintro e w1 ⟨rfl,h9⟩;have gg:Blk w1 w.heap.size 27 #[.slice An ns.length cn,vl]:=Blk.below (Blk.newAt rfl) h9 sz_;have h8:Below w.heap.size w w1:=bel_
  obtain⟨a_0,a_1⟩:=gg.c2;go_wp2
  go_loopw [3,11] (fun x i wr=>∃k:Nat,k<=ns.length/\i= .int .i64 k/\x= .int .i64 (yJ ns.length ls k)/\Blk wr w.heap.size 27 #[.slice An ns.length cn,vl]/\Below w.heap.size w wr) (fun _ i _=>ns.length -(intOf i).toNat)
  case atStart=>exact⟨0,aab _,rfl,rfl,gg,h8⟩
  case round=>
   obtain⟨k,hk,rfl,rfl,hW,Hb⟩:=hrel;have gj:=hW.lt;have FL:=ZW ns.length ls k;obtain⟨a_0,a_1⟩:=hW.c2
   by_cases Hd:k<ns.length
   ·have HY:=h_ (fun h=>Jk (n:=ns.length) (ls:=ls) (k:=k) h)
    have b7:=h_ (fun h=>Xx (n:=ns.length) (ls:=ls) (k:=k) h);generalize yJ ns.length ls k=J at*
    go_wp2_with fail
    refine(Vw _ _ ns ls k _ (hn.below Hb) (hl.below Hb) Hd ck GW Bk.out).mono ?_
    rintro e w2 ⟨b,off,n,c,p,rfl,fH,gn,fa,hp,hpk,He⟩;have gV:=hW.below He gj;have Ha:=Hb.trans (He.mono Hb.size)
    by_cases VI:p=k
    ·have HS:=h_ (HY.out (by rw[hp,VI]))
     have e1:((p:Int)==(k:Int))=true:=beq_iff_eq.2 o_;go_wp2;go_roundw
     case rel=>exact⟨k+1,by omega,by go_num,by rw[HS.out];go_num,gV,Ha⟩
     case measure=>simp[intOf];omega
    ·have HS:=h_ (b7.out (by rw[hp];omega))
     have e1:((p:Int)==(k:Int))=false:=beq_eq_false_iff_ne.2 o_;go_wp2;go_roundw
     case rel=>exact⟨k+1,by omega,by go_num,by rw[HS.out],gV,Ha⟩
     case measure=>simp[intOf];omega
   ·have Hw:k=ns.length:=o_
    subst Hw;go_wp2;go_ret
    exact⟨zb HR.out.symm,Hb⟩
theorem z2R (vn vl:Value) (ns ls:List Pr) (w:World) (hn:RP w vn ns) (hl:RP w vl ls):
  CB_ 204 #[.agg #[vn,vl]] w (.int .i64 (jh ns ls)):=by
 cases hw:winB ns ls
 ·have HR:Hid (jh ns ls=0):=h_ (by simp[jh,hw])
  go_enter Tryz.func204,Tryz.ntmps204
  go_wp2_with fail
  refine(zJ _ _ ns ls _ _ (hn.below bel_) (hl.below bel_) hw).mono ?_
  rintro e w1 ⟨rfl,h9⟩;go_wp2;go_ret
  exact⟨zb HR.out.symm,by exact bel_⟩
 ·have HR:Hid (jh ns ls=(yJ ns.length ls ns.length:Int)):=h_ (by simp[jh,hw])
  have Hn:=zD.1 hw;have fH:=Hn.1;have ck:=Hn.2.1;have GW:=Hn.2.2.1;have Bk:Hid (∀j:Nat,j<ls.length->zp ns (ndI ls j)=true):=h_ (fun j hj=>(Hn.2.2.2.2.2 j hj).1);clear Hn
  go_enter Tryz.func204,Tryz.ntmps204
  go_wp2_with fail
  refine(zJ _ _ ns ls _ _ (hn.below bel_) (hl.below bel_) hw).mono ?_
  rintro e w1 ⟨rfl,h9⟩;have gg:Blk w1 w.heap.size 27 #[vn,vl]:=Blk.below (Blk.newAt rfl) h9 sz_;have h8:Below w.heap.size w w1:=bel_
  clear h9;obtain⟨a_0,a_1⟩:=gg.c2
  go_wp2_with fail
  refine(XM _ _ ns ls _ (hn.below h8) (hl.below h8) GW ck fH Bk.out).mono ?_
  rintro e w2 ⟨v2,rfl,Hm,He⟩;have Hi:=jf ns.length ls ls.length;have Ha:=h8.trans (He.mono h8.size);obtain⟨A,c,rfl,_,_,hcell⟩:=Hm.reads.form;rw[Hi] at hcell⊢;obtain⟨b,off,rfl,gn,Ho⟩:=hcell fH;have cX:=h_ Ho;clear hcell Ho Hi Hm He gg h8 a_0 a_1;go_wp2
  go_loopw [4,5] (fun x i wr=>∃k:Nat,k<=ns.length/\i= .int .i64 k/\x= .int .i64 (yJ ns.length ls k)/\wr=w2) (fun _ i _=>ns.length -(intOf i).toNat)
  case atStart=>exact⟨0,aab _,rfl,rfl,rfl⟩
  case round=>
   obtain⟨k,hk,rfl,rfl,rfl⟩:=hrel;have FL:=ZW ns.length ls k
   by_cases Hd:k<ns.length
   ·have HY:=h_ (fun h=>Jk (n:=ns.length) (ls:=ls) (k:=k) h)
    have b7:=h_ (fun h=>Xx (n:=ns.length) (ls:=ls) (k:=k) h);have fK:=cX.out k Hd;generalize yJ ns.length ls k=J at*;generalize (zi ns.length ls ls.length).getD k 0=p at*;have FT:(k:Int)<(ns.length:Int):=o_
    have hi0:(0:Int)<=(k:Int):=o_
    by_cases VI:p=(k:Int)
    ·have HS:=h_ (HY.out VI)
     have e1:(p==(k:Int))=true:=beq_iff_eq.2 VI;clear HY b7 VI;go_wp2;go_roundw
     case rel=>exact⟨k+1,by omega,by go_num,by rw[HS.out];go_num,by trivial⟩
     case measure=>simp[intOf];omega
    ·have HS:=h_ (b7.out VI)
     have e1:(p==(k:Int))=false:=beq_eq_false_iff_ne.2 VI;clear HY b7 VI;go_wp2;go_roundw
     case rel=>exact⟨k+1,by omega,by go_num,by rw[HS.out],by trivial⟩
     case measure=>simp[intOf];omega
   ·have Hw:k=ns.length:=o_
    subst Hw;go_wp2;go_ret
    exact⟨zb HR.out.symm,Ha⟩
theorem z5w (vn vl:Value) (ns ls:List Pr) (x:Int) (w:World) (hn:RP w vn ns) (hl:RP w vl ls) (hx:jh ns ls=x):
  CB_ 204 #[.agg #[vn,vl]] w (.int .i64 x):=by
 subst hx;exact z2R vn vl ns ls w hn hl
theorem z4I (vn vl:Value) (ns ls:List Pr) (x:Int) (w:World) (hn:RP w vn ns) (hl:RP w vl ls) (hx:jh ns ls=x):
  CB_ 148 #[.agg #[vn,vl]] w (.int .i64 x):=by
 subst hx;exact z44 vn vl ns ls w hn hl
theorem z4d (vn vl:Value) (ns ls:List Pr) (w:World) (hn:RP w vn ns) (hl:RP w vl ls):
  CB_ 142 #[.agg #[vn,vl]] w (.int .i64 (qA ns ls)):=by
 cases hw:winB ns ls
 ·have HR:Hid (qA ns ls=0):=h_ (by simp[qA,hw])
  go_enter Tryz.func142,Tryz.ntmps142
  go_wp2_with fail
  refine(zJ _ _ ns ls _ _ (hn.below bel_) (hl.below bel_) hw).mono ?_
  rintro e w1 ⟨rfl,h9⟩;go_wp2;go_ret
  exact⟨zb HR.out.symm,by exact bel_⟩
 ·have Hn:=zD.1 hw
  have ck:=Hn.2.1;have GW:=Hn.2.2.1;have hpb:=Jg ns ls;obtain⟨P,hP⟩:∃P,jh ns ls=P:=⟨_,rfl⟩;have HR:Hid (qA ns ls=(ls.length:Int) -ns.length+1+P):=h_ (by unfold qA;rw[hw,aao rfl,hP]);rw[hP] at hpb;have HP:=h_ hP;obtain⟨An,cn,rfl,ci,fC,_⟩:=hn.formI;obtain⟨Al,cl,rfl,Ho,GO,_⟩:=hl.formI;unfold maxLen at fC GO
  go_enter Tryz.func142,Tryz.ntmps142
  go_wp2_with fail
  refine(zJ _ _ ns ls _ _ (hn.below bel_) (hl.below bel_) hw).mono ?_
  rintro e w1 ⟨rfl,h9⟩;have H8:=h9.size;(try simp at H8);(try have gR:=p0_ w w1)
  have gg:Blk w1 w.heap.size 27 #[.slice An ns.length cn,.slice Al ls.length cl]:=Blk.below (Blk.newAt rfl) h9 sz_;have h8:Below w.heap.size w w1:=bel_
  have rn1:=hn.below h8;have rl1:=hl.below h8;have hw1a:IntKind.i64.wrap ((ls.length:Int) -(ns.length:Int))=(ls.length:Int) -(ns.length:Int):=aaQ _ o_;have hw1b:IntKind.i64.wrap ((ls.length:Int) -(ns.length:Int)+1)=(ls.length:Int) -(ns.length:Int)+1:=aaQ _ o_;have hw1c:IntKind.i64.wrap ((ls.length:Int) -(ns.length:Int)+1+P)=(ls.length:Int) -(ns.length:Int)+1+P:=aaQ _ o_;obtain⟨a_0,a_1⟩:=gg.c2
  go_wp2_with fail
  (refine z7 k_ k_ (fun hG=>?_))
  repeat (go_big_quiet_step ((go_at_call 204;exact zy (z5w _ _ ns ls P _ (rn1.below (Grw.below _)) (rl1.below (Grw.below _)) HP.out))))
  refine wpQuiet_nil ?_
  rintro w2 ⟨⟨_,Fw⟩,rfl⟩;have Ha:=h8.trans (Fw.mono h8.size);go_wp2;go_ret
  exact⟨zb HR.out.symm,Ha⟩
theorem z3q (vn vl:Value) (ns ls:List Pr) (w:World) (hn:RP w vn ns) (hl:RP w vl ls):
  CB_ 84 #[.agg #[vn,vl]] w (.int .i64 (qA ns ls)):=by
 cases hw:winB ns ls
 ·have HR:Hid (qA ns ls=0):=h_ (by simp[qA,hw])
  go_enter Tryz.func84,Tryz.ntmps84
  go_wp2_with fail
  refine(zX _ _ ns ls _ _ (hn.below bel_) (hl.below bel_) hw).mono ?_
  rintro e w1 ⟨rfl,h9⟩;go_wp2;go_ret
  exact⟨zb HR.out.symm,by exact bel_⟩
 ·have Hn:=zD.1 hw
  have ck:=Hn.2.1;have GW:=Hn.2.2.1;have hpb:=Jg ns ls;obtain⟨P,hP⟩:∃P,jh ns ls=P:=⟨_,rfl⟩;have HR:Hid (qA ns ls=(ls.length:Int) -ns.length+1+P):=h_ (by unfold qA;rw[hw,aao rfl,hP]);rw[hP] at hpb;have HP:=h_ hP;obtain⟨An,cn,rfl,ci,fC,_⟩:=hn.formI;obtain⟨Al,cl,rfl,Ho,GO,_⟩:=hl.formI;unfold maxLen at fC GO
  go_enter Tryz.func84,Tryz.ntmps84
  go_wp2_with fail
  refine(zX _ _ ns ls _ _ (hn.below bel_) (hl.below bel_) hw).mono ?_
  rintro e w1 ⟨rfl,h9⟩;have H8:=h9.size;(try simp at H8);(try have gR:=p0_ w w1)
  have gg:Blk w1 w.heap.size 27 #[.slice An ns.length cn,.slice Al ls.length cl]:=Blk.below (Blk.newAt rfl) h9 sz_;have h8:Below w.heap.size w w1:=bel_
  have rn1:=hn.below h8;have rl1:=hl.below h8;have hw1a:IntKind.i64.wrap ((ls.length:Int) -(ns.length:Int))=(ls.length:Int) -(ns.length:Int):=aaQ _ o_;have hw1b:IntKind.i64.wrap ((ls.length:Int) -(ns.length:Int)+1)=(ls.length:Int) -(ns.length:Int)+1:=aaQ _ o_;have hw1c:IntKind.i64.wrap ((ls.length:Int) -(ns.length:Int)+1+P)=(ls.length:Int) -(ns.length:Int)+1+P:=aaQ _ o_;obtain⟨a_0,a_1⟩:=gg.c2
  go_wp2_with fail
  (refine z7 k_ k_ (fun hG=>?_))
  repeat (go_big_quiet_step ((go_at_call 148;exact zy (z4I _ _ ns ls P _ (rn1.below (Grw.below _)) (rl1.below (Grw.below _)) HP.out))))
  refine wpQuiet_nil ?_
  rintro w2 ⟨⟨_,Fw⟩,rfl⟩;have Ha:=h8.trans (Fw.mono h8.size);go_wp2;go_ret
  exact⟨zb HR.out.symm,Ha⟩
theorem z5x (vn vl:Value) (ns ls:List Pr) (w:World) (hn:RP w vn ns) (hl:RP w vl ls):
  CB_ 75 #[.agg #[vn,vl]] w (.int .i64 (jr ns ls)):=by
 have hb:=z03 ns ls;have HR:Hid (jr ns ls=mx2 0 (qA ns ls -1)):=h_ (by rw[kz];unfold jr;split<;>omega)
 go_enter Tryz.func75,Tryz.ntmps75
 go_wp2_with fail
 refine(z4d _ _ ns ls _ (hn.below bel_) (hl.below bel_)).mono ?_
 rintro e w1 ⟨rfl,h9⟩;have h8:Below w.heap.size w w1:=bel_
 generalize qA ns ls=C at*;go_wp2;go_ret
 exact⟨zb HR.out.symm,h8⟩
theorem z4J (vn vl:Value) (ns ls:List Pr) (w:World) (hn:RP w vn ns) (hl:RP w vl ls):
  CB_ 22 #[.agg #[vn,vl]] w (.int .i64 (jr ns ls)):=by
 have hb:=z03 ns ls;have HR:Hid (jr ns ls=mx2 0 (qA ns ls -1)):=h_ (by rw[kz];unfold jr;split<;>omega)
 go_enter Tryz.func22,Tryz.ntmps22
 go_wp2_with fail
 refine(z3q _ _ ns ls _ (hn.below bel_) (hl.below bel_)).mono ?_
 rintro e w1 ⟨rfl,h9⟩;have h8:Below w.heap.size w w1:=bel_
 generalize qA ns ls=C at*;go_wp2;go_ret
 exact⟨zb HR.out.symm,h8⟩
theorem J1 (vn vl:Value) (ns ls:List Pr) (x:Int) (w:World) (hn:RP w vn ns) (hl:RP w vl ls) (hx:jr ns ls=x):
  CB_ 75 #[.agg #[vn,vl]] w (.int .i64 x):=by
 subst hx;exact z5x vn vl ns ls w hn hl
theorem vJ (vn vl:Value) (ns ls:List Pr) (x:Int) (w:World) (hn:RP w vn ns) (hl:RP w vl ls) (hx:jr ns ls=x):
  CB_ 22 #[.agg #[vn,vl]] w (.int .i64 x):=by
 subst hx;exact z4J vn vl ns ls w hn hl
noncomputable def zS (D:Dr) (kd a b:Int):Bool:=okD D&&(decide (D.ss.length<40)&&vx D.nn D.nl kd a b)
noncomputable def ju (D:Dr) (kd a b:Int):Dr:=if zS D kd a b=true then⟨D.fn,D.fl,yh D.nn D.nl kd a b,yd D.nn D.nl kd a b,D.ss++[⟨kd,a,b,D.nn,D.nl⟩]⟩ else D
theorem yP {D:Dr} {kd a b:Int} (h:zS D kd a b=false):ju D kd a b=D:=by unfold ju;rw[h];rfl
theorem Zb {D:Dr} {kd a b:Int} (h:zS D kd a b=true):ju D kd a b=⟨D.fn,D.fl,yh D.nn D.nl kd a b,yd D.nn D.nl kd a b,D.ss++[⟨kd,a,b,D.nn,D.nl⟩]⟩:=by unfold ju;rw[h];rfl
theorem vX:∀l m:List Sp,cntS (l++m)=cntS l+cntS m
 | [],m=>by simp[cntS]
 |s::r,m=>by simp only[List.cons_append,cntS,vX r m];omega
theorem ZU (D:Dr) (kd a b:Int) (h:DrLe D):cntD (ju D kd a b)<=20000000:=by
 by_cases hc:zS D kd a b=true
 ·rw[Zb hc]
  have e:cntD (⟨D.fn,D.fl,yh D.nn D.nl kd a b,yd D.nn D.nl kd a b,D.ss++[⟨kd,a,b,D.nn,D.nl⟩]⟩:Dr)=2*D.fn.length+2*D.fl.length+2*(yh D.nn D.nl kd a b).length +2*(yd D.nn D.nl kd a b).length +cntS (D.ss++[⟨kd,a,b,D.nn,D.nl⟩]):=rfl;have e2:cntS ([⟨kd,a,b,D.nn,D.nl⟩]:List Sp)=3+2*D.nn.length+2*D.nl.length+0:=rfl;rw[vX,e2] at e;have:=z3r D.nn D.nl kd a b;have:=z5Q D.ss;have:=h.fn;have:=h.fl;have:=h.nn;have:=h.nl;have:=h.ss;have:=h.sum;omega
 ·rw[yP (by simpa using hc)]
  exact h.cnt
theorem OwnD.pushNow {base:Nat} {w w':World} {a b c d e e' c' d':Value} {D:Dr} {fs:List SF} {N L:List Pr} {x y z:Int} (h:OwnD base w a b c d e D fs) (hw:OwnW base w c' d' N L) (hf:∀k,zw c' d' k->¬qn a b c d e fs k)
  (hr:w'.ownsRow base 113 5 e' (fs.length+1) ((fs++[((⟨x,y,z,D.nn,D.nl⟩,c,d):SF)]).flatMap sfc)) (hg:w.grownBy w' e.ownBlock) (hv:e'.ownBlock=e.ownBlock∨e'.ownBlock=some w.heap.size):
  OwnD base w' a b c' d' e' ⟨D.fn,D.fl,N,L,D.ss++[⟨x,y,z,D.nn,D.nl⟩]⟩ (fs++[(⟨x,y,z,D.nn,D.nl⟩,c,d)]):=by
 have ht:Turns (fun b=>e.ownBlock=some b) w w':=Turns.ofGrown hg (fun k hk=>hk)
 refine⟨h.first.turned ht (fun k hk e1=>h.f_s k hk (.inl e1)),hw.turned ht (fun k hk e1=>hf k hk (.inr (.inr (.inl e1)))),
  h.ss.snoc hr hg hv h.now (fun k hk e1=>h.n_s k hk (.inl e1)) (fun j hj k hk gH=>h.n_s k hk (.inr ⟨j,hj,gH⟩)),by rw[aaA,h.map];rfl,fun k hk gH=>hf k gH (.inl hk),fun k hk gH=>?_,fun k hk gH=>?_⟩
 ·rcases ym hv gH with h1|h1|h1
  ·exact h.f_s k hk h1
  ·have:=(h.first.lt k hk).2;omega
  ·exact h.f_n k hk h1
 ·rcases ym hv gH with h1|h1|h1
  ·exact hf k hk (.inr (.inr h1))
  ·have:=(hw.lt k hk).2;omega
  ·exact hf k hk (.inr (.inl h1))
theorem Jn {P:Program} {w:World} {ops:Array Oper} {o:Oper} {a:Act} {K:Act->World->Prop} {Q:Exit->Act->World->Prop} {E:Prop} (FH:o.guard=none) (s x:Operand) (t:TypeId)
  (ho:o.op= .call { callee:= .builtin .append,args:= #[s,x],argTypes:= #[t,t] })
  (base:Nat) (e:TypeId) (i:TypeInfo) (ht:P.underlying t=some (.slice e)) (hi:P.info? e=some i) (hz:i.zero=some (.agg #[.int .i64 0,.int .i64 0,.int .i64 0,.slice none 0 0,.slice none 0 0])) (H7:i.size=5) (gG:i.bytes=72)
  (v:Value) (fs:List SF) (f:SF) (ad:Addr) (c:Nat) (hs:a.eval s=v) (hx:a.eval x= .slice (some ad) 1 c) (hown:w.ownsRow base e 5 v fs.length (fs.flatMap sfc)) (hn:∀(j:Nat) (u:Value),(sfc f)[j]? =some u->w.cell? (ad.add j)=some u)
  (fL:∀u∈sfc f,u.oneCell'=true) (Hi:fs.length<=1048576) (H9:base<=w.heap.size)
  (h:∀A c' w',w'.ownsRow base e 5 (.slice A (fs.length+1) c') (fs.length+1) ((fs++[f]).flatMap sfc)->w.grownBy w' v.ownBlock->((Value.slice A (fs.length+1) c').ownBlock =v.ownBlock∨(Value.slice A (fs.length+1) c').ownBlock =some w.heap.size)->K (a.put o.dst (.slice A (fs.length+1) c')) w'):
  if Region.wanted o (yielded ops a.tmps)=true then Oper.wp P o a w K Q else E:=by
 have hw:Region.wanted o (yielded ops a.tmps)=true:=by simp[Region.wanted,FH]
 rw[aao hw];obtain⟨A,c',w',GC,h2,h3,h4⟩:=xy (ty:=o.type) (c:=c) ht hi hz H7 gG hown hn fL Hi H9;unfold Oper.wp execOp;simp only[ho,resolve,invoke,builtin,Sem.run_bind,Sem.run_pure,aaZ,List.map_toArray,aaT,aaU,hs,hx,GC]
 exact h A c' w' h2 h3 h4
theorem z5B (v0 v1 v2 v3 v4:Value) (D:Dr) (kd a b:Int) (w:World) (h:RD w v0 v1 v2 v3 v4 D) (hle:DrLe D):
  Calls Tryz.prog 106 #[.agg #[v0,v1,v2,v3,v4],.int .i64 kd,.int .i64 a,.int .i64 b] w (z5F (ju D kd a b) (zS D kd a b) w):=by
 obtain⟨r,hr⟩:∃r,okD D=r:=⟨_,rfl⟩;have HR:=h_ hr;have gi:=h_ hle;obtain⟨B4,d4,ev4,_⟩:=h.ss;subst ev4;obtain⟨i0,hi,iz0,iz1,iz2⟩:=info_parts Zq;obtain⟨E,hE⟩:∃E,ju D kd a b=E:=⟨_,rfl⟩;obtain⟨bb,gc⟩:∃bb,zS D kd a b=bb:=⟨_,rfl⟩;rw[hE,gc];have HE:=h_ hE;have gm:=h_ gc;clear hle hE gc
 go_enter Tryz.func106,Tryz.ntmps106
 go_wp2_with fail
 refine(Za _ _ _ _ _ D _ (h.below bel_) gi.out).mono ?_
 rintro e w1 ⟨A0,c0,A1,c1,A2,c2,A3,c3,A4,c4,fs,rfl,Hj,h9⟩;have gh:Blk w1 w.heap.size 30 #[v0,v1,v2,v3,(.slice B4 D.ss.length d4)]:=Blk.below ((Blk.newAt rfl).alloc _) h9 sz_;have gu:Blk w1 (w.heap.size+1) 30 z5_:=Blk.below (Blk.newAt (by simp)) h9 sz_;have h8:Below w.heap.size w w1:=bel_
 have Gi:OwnD (w.heap.size+1+1) w1 (.slice A0 D.fn.length c0) (.slice A1 D.fl.length c1) (.slice A2 D.nn.length c2) (.slice A3 D.nl.length c3) (.slice A4 D.ss.length c4) D fs:=by simpa using Hj
 have gB:=h_ (OutSt.start Gi (aaa _) gh gu h8);obtain⟨x_0,x_1,x_2,x_3,x_4⟩:=gh.c5;have fi:=gh.lt;clear Hj h9 Gi
 go_wp2_with fail
 obtain⟨w2,gS⟩:∃w2,w2=w1.alloc (.cells #[.slice A0 D.fn.length c0,.slice A1 D.fl.length c1,.slice A2 D.nn.length c2,.slice A3 D.nl.length c3,.slice A4 D.ss.length c4] 30):=⟨_,rfl⟩;rw[<-gS] at gB⊢;generalize w1.heap.size=Z at*;clear gS gh gu h8 x_0 x_1 x_2 x_3 x_4 fi;refine(z1w _ _ _ _ _ D r _ (h.below gB.out.blw) HR).mono ?_
 rintro e w3 ⟨rfl,Hf⟩;have gd:=h_ (gB.out.below Hf);clear Hf gB;have gU:=gd.out.X;have cZ:=gd.out.Z_;have GK:=gd.out.R;obtain⟨x_0,x_1,x_2,x_3,x_4⟩:=gU.c5
 cases r
 ·have FA:zS D kd a b=false:=by unfold zS;rw[hr];rfl
  have hu:D=E:=by rw[<-HE.out];exact(yP FA).symm
  have hv:false=bb:=by rw[<-gm.out];exact FA.symm
  subst hu;subst hv;have HF:=gd;clear gd HE gm FA;clear hr;obtain⟨_,_,hR,hZ,Ga,_,_⟩:=HF.out;obtain⟨z_0,z_1,z_2,z_3,z_4⟩:=hZ.c5;obtain⟨r_0,r_1,r_2,r_3,r_4,r_f0,r_f1,r_f2,r_f3,r_f4⟩:=hR.b5;have Hl:=hR.lt;have Hy:=h_ (fun u0 u1 u2 u3 u4=>HF.out.fin u0 u1 u2 u3 u4);clear hR hZ HF;go_wp2;exact bodyPost_ret (v:= .tuple #[.agg #[.slice A0 D.fn.length c0,.slice A1 D.fl.length c1,.slice A2 D.nn.length c2,.slice A3 D.nl.length c3,.slice A4 D.ss.length c4],.bool false]) (by simp[results,Tryz.results106,go_sem,r_0,r_1,r_2,r_3,r_4,Hl]) rfl ⟨_,_,_,_,_,_,_,_,_,_,_,rfl,(Hy.out _ _ _ _ _).1,(Hy.out _ _ _ _ _).2⟩
 ·by_cases cY:¬D.ss.length<40
  ·have FA:zS D kd a b=false:=by unfold zS;rw[hr,aaP cY];rfl
   have N7:D.ss.length=40:=by
    have h41:D.ss.length<=40:=by
     unfold okD at hr;simp only[aaH,aa5] at hr
     exact hr.2.1
    omega
   have hu:D=E:=by rw[<-HE.out];exact(yP FA).symm
   have hv:false=bb:=by rw[<-gm.out];exact FA.symm
   subst hu;subst hv;have HF:=gd;clear gd HE gm FA;clear hr cY;obtain⟨_,_,hR,hZ,Ga,_,_⟩:=HF.out;obtain⟨z_0,z_1,z_2,z_3,z_4⟩:=hZ.c5;obtain⟨r_0,r_1,r_2,r_3,r_4,r_f0,r_f1,r_f2,r_f3,r_f4⟩:=hR.b5;have Hl:=hR.lt;have Hy:=h_ (fun u0 u1 u2 u3 u4=>HF.out.fin u0 u1 u2 u3 u4);clear hR hZ HF;go_wp2;exact bodyPost_ret (v:= .tuple #[.agg #[.slice A0 D.fn.length c0,.slice A1 D.fl.length c1,.slice A2 D.nn.length c2,.slice A3 D.nl.length c3,.slice A4 D.ss.length c4],.bool false]) (by simp[results,Tryz.results106,go_sem,r_0,r_1,r_2,r_3,r_4,Hl,N7]) rfl ⟨_,_,_,_,_,_,_,_,_,_,_,rfl,(Hy.out _ _ _ _ _).1,(Hy.out _ _ _ _ _).2⟩
  ·have NV:D.ss.length<40:=o_
   obtain⟨N,hN⟩:∃N,yh D.nn D.nl kd a b=N:=⟨_,rfl⟩;obtain⟨L,hL⟩:∃L,yd D.nn D.nl kd a b=L:=⟨_,rfl⟩;obtain⟨sb,hsb⟩:∃sb,vx D.nn D.nl kd a b=sb:=⟨_,rfl⟩;have H1:=h_ hN;have H2:=h_ hL;have H3:=h_ hsb;have YY:=cZ.lt;have Ch:=(h.below gd.out.blw).nn;have fG:=(h.below gd.out.blw).nl;clear cY;have be:=h_ hr;clear hr hN hL hsb
   go_wp2_with fail
   refine(z31 _ _ D.nn D.nl N L kd a b sb _ Ch fG gi.out.nn gi.out.nl H1 H2 H3).mono ?_
   rintro e w4 ⟨An,cn,Al,cl,rfl,gF,Hv⟩;have gp:=gd.out.own.lt;have gZ:=gd.out.below Hv;have H9:w.heap.size+1+1<=w3.heap.size:=by have:=GK.lt;omega
   have Ci:=gF.lt;have hm:=congrArg List.length gZ.own.map;simp at hm
   have m7:=gZ.lt;obtain⟨w5,GH⟩:∃w5,w5=w4.alloc (.cells #[.slice An N.length cn,.slice Al L.length cl] 27):=⟨_,rfl⟩;have gf:Below w4.heap.size w4 w5:=GH▸(aaj _ _).alloc (aaa _) _;have F1:Blk w5 w4.heap.size 27 #[.slice An N.length cn,.slice Al L.length cl]:=GH▸Blk.newAt rfl;have fj:=h_ (gZ.below gf);have fQ:=h_ ((gF.kept gf).mono H9);have YZ:w3.heap.size<=w4.heap.size:=Hv.size;have mB:Hid (∀k,zw (.slice An N.length cn) (.slice Al L.length cl) k->¬qn (.slice A0 D.fn.length c0) (.slice A1 D.fl.length c1) (.slice A2 D.nn.length c2) (.slice A3 D.nl.length c3) (.slice A4 D.ss.length c4) fs k):=h_ (fun k hk gH=>by have:=(Ci k hk).1;have:=(gp k gH).2;omega);have uE:=fj.out.Z_.lt;have Y0:Hid (¬w4.heap.size=Z):=h_ (by have:=gZ.Z_.lt;omega);have Y1:Hid (zw (.slice An N.length cn) (.slice Al L.length cl) Z->False):=h_ (fun hz=>by have:=(Ci _ hz).1;have:=YY;omega);have HLO:Hid (∀k,qn (.slice A0 D.fn.length c0) (.slice A1 D.fl.length c1) (.slice A2 D.nn.length c2) (.slice A3 D.nl.length c3) (.slice A4 D.ss.length c4) fs k->k<w4.heap.size):=h_ (fun k hk=>by have:=(gp k hk).2;omega);clear gF Hv gp Ci gZ gd gU cZ GK Ch fG x_0 x_1 x_2 x_3 x_4
   go_upto_region 5 with (fail)
   rw[<-GH];generalize w4.heap.size=T at*;clear GH gf
   cases sb
   ·have FA:zS D kd a b=false:=by unfold zS;rw[H3.out,Bool.and_false,Bool.and_false]
    have hu:D=E:=by rw[<-HE.out];exact(yP FA).symm
    have hv:false=bb:=by rw[<-gm.out];exact FA.symm
    subst hu;subst hv;have HF:=fj;clear fj HE gm FA;clear be H1 H2 H3 F1 fQ mB H9 hm YZ;obtain⟨_,_,hR,hZ,Ga,_,_⟩:=HF.out;obtain⟨z_0,z_1,z_2,z_3,z_4⟩:=hZ.c5;obtain⟨r_0,r_1,r_2,r_3,r_4,r_f0,r_f1,r_f2,r_f3,r_f4⟩:=hR.b5;have Hl:=hR.lt;have Hy:=h_ (fun u0 u1 u2 u3 u4=>HF.out.fin u0 u1 u2 u3 u4);clear hR hZ HF;go_wp2;exact bodyPost_ret (v:= .tuple #[.agg #[.slice A0 D.fn.length c0,.slice A1 D.fl.length c1,.slice A2 D.nn.length c2,.slice A3 D.nl.length c3,.slice A4 D.ss.length c4],.bool false]) (by simp[results,Tryz.results106,go_sem,r_0,r_1,r_2,r_3,r_4,Hl]) rfl ⟨_,_,_,_,_,_,_,_,_,_,_,rfl,(Hy.out _ _ _ _ _).1,(Hy.out _ _ _ _ _).2⟩
   ·have m8:zS D kd a b=true:=by unfold zS;rw[be.out,H3.out,aaR NV];rfl
    have hu:E=⟨D.fn,D.fl,N,L,D.ss++[⟨kd,a,b,D.nn,D.nl⟩]⟩:=by rw[<-HE.out,Zb m8,H1.out,H2.out]
    have hv:true=bb:=by rw[<-gm.out];exact m8.symm
    subst hu;subst hv;clear HE gm m8 be H1 H2 H3;have N8:=fj.out.Z_;have m9:=fj.out.X;obtain⟨z_0,z_1,z_2,z_3,z_4,z_f0,z_f1,z_f2,z_f3,z_f4⟩:=N8.b5;obtain⟨x_0,x_1,x_2,x_3,x_4⟩:=m9.c5;obtain⟨t_0,t_1⟩:=F1.c2;have hX5l:=m9.lt;have BY:fs.length<=1048576:=o_
    have HM:=h_ hm;clear hm;have HTZ:Hid (¬T=Z):=Y0;have YN:Hid (zw (.slice An N.length cn) (.slice Al L.length cl) Z->False):=Y1;have Y2:Hid (zw (.slice A2 D.nn.length c2) (.slice A3 D.nl.length c3) Z->False):=h_ (fun hz=>fj.out.far (.inr (.inl hz)));have Hk:=fj.out.own.alloc (.cells #[.int .i64 kd,.int .i64 a,.int .i64 b,.slice A2 D.nn.length c2,.slice A3 D.nl.length c3] 113);have hwn:=fQ.out.alloc' (.cells #[.int .i64 kd,.int .i64 a,.int .i64 b,.slice A2 D.nn.length c2,.slice A3 D.nl.length c3] 113);have rb:=h_ Hk;have HWN:=h_ hwn;have HX6:=h_ (fj.out.X.alloc (.cells #[.int .i64 kd,.int .i64 a,.int .i64 b,.slice A2 D.nn.length c2,.slice A3 D.nl.length c3] 113));have HR6:=h_ (fj.out.R.alloc (.cells #[.int .i64 kd,.int .i64 a,.int .i64 b,.slice A2 D.nn.length c2,.slice A3 D.nl.length c3] 113));have HZ6:=h_ (N8.alloc (.cells #[.int .i64 kd,.int .i64 a,.int .i64 b,.slice A2 D.nn.length c2,.slice A3 D.nl.length c3] 113));have HT6:=h_ (F1.alloc (.cells #[.int .i64 kd,.int .i64 a,.int .i64 b,.slice A2 D.nn.length c2,.slice A3 D.nl.length c3] 113));have rc:=h_ (fj.out.blw.alloc fj.out.blw.size (.cells #[.int .i64 kd,.int .i64 a,.int .i64 b,.slice A2 D.nn.length c2,.slice A3 D.nl.length c3] 113));have F0:Hid (∀k,(Value.slice A4 D.ss.length c4).ownBlock =some k->w.heap.size+1+1<=k/\k≠Z/\k<T):=h_ (fun k hk=>⟨(fj.out.own.lt k (.inr (.inr (.inl hk)))).1,fun e=>fj.out.far (e▸ .inr (.inr (.inl hk))),HLO.out k (.inr (.inr (.inl hk)))⟩)
    have Y3:Hid (∀(j:Nat) (u:Value),(sfc ((⟨kd,a,b,D.nn,D.nl⟩,.slice A2 D.nn.length c2,.slice A3 D.nl.length c3):SF))[j]? =some u->(w5.alloc (.cells #[.int .i64 kd,.int .i64 a,.int .i64 b,.slice A2 D.nn.length c2,.slice A3 D.nl.length c3] 113)).cell? ((⟨w5.heap.size,0,none⟩:Addr).add j)=some u):=h_ (Vl rfl rfl);have NX:w.heap.size+1+1<=(w5.alloc (.cells #[.int .i64 kd,.int .i64 a,.int .i64 b,.slice A2 D.nn.length c2,.slice A3 D.nl.length c3] 113)).heap.size :=by simp;omega
    have HRW:Hid (World.ownsRow (w5.alloc (.cells #[.int .i64 kd,.int .i64 a,.int .i64 b,.slice A2 D.nn.length c2,.slice A3 D.nl.length c3] 113)) (w.heap.size+1+1) 113 5 (.slice A4 D.ss.length c4) fs.length (fs.flatMap sfc)):=h_ rb.out.ss.row;clear Hk hwn m9
    go_wp2_with (at_builtin;refine vT rfl _ _ _ rfl (w.heap.size+1+1) 113 i0 Tryz.underlying28 hi iz0 iz1 iz2 (.slice A4 D.ss.length c4) fs (⟨kd,a,b,D.nn,D.nl⟩,.slice A2 D.nn.length c2,.slice A3 D.nl.length c3) ⟨w5.heap.size,0,none⟩ 1 rfl rfl HRW.out Y3.out (z1K _ _ _ _ _ _ _ rfl rfl) BY NX ?_)
    intro A5 c5 w6 hr6 F7 ha6;have bo:=rb.out.pushNow HWN.out mB.out (by rw[aaY];simpa using hr6) F7 (by simpa using ha6);have CC:=HX6.out.grownR F7 (fun k hk e=>by have:=(F0.out k hk).1;omega);have Fo:=HR6.out.grownR F7 (fun k hk e=>by have:=(F0.out k hk).1;omega);have VN:=HZ6.out.grownR F7 (fun k hk e=>(F0.out k hk).2.1 e);have mO:=HT6.out.grownR F7 (fun k hk e=>by have:=(F0.out k hk).2.2;omega);have gk:=rc.out.grown F7 rc.out.size (fun k hk=>by have:=(F0.out k hk).1;omega);have hv6:(Value.slice A5 (fs.length+1) c5).ownBlock =(Value.slice A4 D.ss.length c4).ownBlock ∨(Value.slice A5 (fs.length+1) c5).ownBlock =some (w5.heap.size+1):=by simpa using ha6
    have Gh:¬qn (.slice A0 D.fn.length c0) (.slice A1 D.fl.length c1) (.slice An N.length cn) (.slice Al L.length cl) (.slice A5 (fs.length+1) c5) (fs++[(⟨kd,a,b,D.nn,D.nl⟩,.slice A2 D.nn.length c2,.slice A3 D.nl.length c3)]) Z:=by
     rintro(hz|hz|hz)
     ·exact fj.out.far (.inl hz)
     ·have:=YN.out hz;exact this
     ·rcases ym hv6 hz with h1|h1|h1
      ·exact fj.out.far (.inr (.inr h1))
      ·omega
      ·exact Y2.out h1
    have nX:w.heap.size≠Z:=o_
    have nR:w.heap.size+1≠Z:=o_
    have nB:w.heap.size<=Z:=o_
    obtain⟨w7,ng⟩:∃w7,w7=((w6.setCell ⟨Z,4,none⟩ (.slice A5 (fs.length+1) c5)).setCell ⟨Z,2,none⟩ (.slice An N.length cn)).setCell ⟨Z,3,none⟩ (.slice Al L.length cl):=⟨_,rfl⟩
    have HF:Hid (OutSt w v0 v1 v2 v3 (.slice B4 D.ss.length d4) Z (.slice A0 D.fn.length c0) (.slice A1 D.fl.length c1) (.slice An N.length cn) (.slice Al L.length cl) (.slice A5 (fs.length+1) c5) ⟨D.fn,D.fl,N,L,D.ss++[⟨kd,a,b,D.nn,D.nl⟩]⟩ (fs++[(⟨kd,a,b,D.nn,D.nl⟩,.slice A2 D.nn.length c2,.slice A3 D.nl.length c3)]) w7):=h_
     (ng▸⟨((bo.setFar (p:=⟨Z,4,none⟩) Gh _).setFar (p:=⟨Z,2,none⟩) Gh _).setFar (p:=⟨Z,3,none⟩) Gh _,((CC.far (p:=⟨Z,4,none⟩) nX _).far (p:=⟨Z,2,none⟩) nX _).far (p:=⟨Z,3,none⟩) nX _,
      ((Fo.far (p:=⟨Z,4,none⟩) nR _).far (p:=⟨Z,2,none⟩) nR _).far (p:=⟨Z,3,none⟩) nR _,((VN.set_ 4 _).set_ 2 _).set_ 3 _,m7,Gh,((gk.setCell (p:=⟨Z,4,none⟩) nB _).setCell (p:=⟨Z,2,none⟩) nB _).setCell (p:=⟨Z,3,none⟩) nB _⟩)
    clear z_0 z_1 z_2 z_3 z_4 z_f0 z_f1 z_f2 z_f3 z_f4 t_0 t_1 x_0 x_1 x_2 x_3 x_4;obtain⟨z_0,z_1,z_2,z_3,z_4,z_f0,z_f1,z_f2,z_f3,z_f4⟩:=VN.b5;obtain⟨t_0,t_1⟩:=mO.c2;clear bo CC Fo VN mO gk Gh
    go_upto_region 9 with (fail)
    rw[<-ng];clear ng z_0 z_1 z_2 z_3 z_4 z_f0 z_f1 z_f2 z_f3 z_f4 t_0 t_1;have Hi:(D.ss++[(⟨kd,a,b,D.nn,D.nl⟩:Sp)]).length =fs.length+1:=by have:=HM.out;simp;omega
    have GP:=h_ Hi;obtain⟨_,_,hR,hZ,Ga,_,_⟩:=HF.out;obtain⟨z_0,z_1,z_2,z_3,z_4⟩:=hZ.c5;obtain⟨r_0,r_1,r_2,r_3,r_4,r_f0,r_f1,r_f2,r_f3,r_f4⟩:=hR.b5;have Hl:=hR.lt;have Hy:=h_ (fun u0 u1 u2 u3 u4=>HF.out.fin u0 u1 u2 u3 u4);clear hR hZ HF Hi;go_wp2
    exact bodyPost_ret (v:= .tuple #[.agg #[.slice A0 D.fn.length c0,.slice A1 D.fl.length c1,.slice An N.length cn,.slice Al L.length cl,.slice A5 (fs.length+1) c5],.bool true]) (by simp[results,Tryz.results106,go_sem,r_0,r_1,r_2,r_3,r_4,Hl]) rfl
     ⟨A0,c0,A1,c1,An,cn,Al,cl,A5,c5,fs++[(⟨kd,a,b,D.nn,D.nl⟩,.slice A2 D.nn.length c2,.slice A3 D.nl.length c3)],by simp only[GP.out],by simp only[GP.out];exact(Hy.out _ _ _ _ _).1,(Hy.out _ _ _ _ _).2⟩
theorem z5f (v0 v1 v2 v3 v4:Value) (D:Dr) (kd a b:Int) (w:World) (h:RD w v0 v1 v2 v3 v4 D) (hle:DrLe D):
  Calls Tryz.prog 139 #[.agg #[v0,v1,v2,v3,v4],.int .i64 kd,.int .i64 a,.int .i64 b] w (z5F (ju D kd a b) (zS D kd a b) w):=by
 obtain⟨r,hr⟩:∃r,okD D=r:=⟨_,rfl⟩;have HR:=h_ hr;have gi:=h_ hle;obtain⟨B4,d4,ev4,_⟩:=h.ss;subst ev4;obtain⟨i0,hi,iz0,iz1,iz2⟩:=info_parts Zq;obtain⟨E,hE⟩:∃E,ju D kd a b=E:=⟨_,rfl⟩;obtain⟨bb,gc⟩:∃bb,zS D kd a b=bb:=⟨_,rfl⟩;rw[hE,gc];have HE:=h_ hE;have gm:=h_ gc;clear hle hE gc
 go_enter Tryz.func139,Tryz.ntmps139
 go_wp2_with fail
 refine(Zf _ _ _ _ _ D _ (h.below bel_) gi.out).mono ?_
 rintro e w1 ⟨A0,c0,A1,c1,A2,c2,A3,c3,A4,c4,fs,rfl,Hj,h9⟩;have gh:Blk w1 w.heap.size 30 #[v0,v1,v2,v3,(.slice B4 D.ss.length d4)]:=Blk.below ((Blk.newAt rfl).alloc _) h9 sz_;have gu:Blk w1 (w.heap.size+1) 30 z5_:=Blk.below (Blk.newAt (by simp)) h9 sz_;have h8:Below w.heap.size w w1:=bel_
 have Gi:OwnD (w.heap.size+1+1) w1 (.slice A0 D.fn.length c0) (.slice A1 D.fl.length c1) (.slice A2 D.nn.length c2) (.slice A3 D.nl.length c3) (.slice A4 D.ss.length c4) D fs:=by simpa using Hj
 have gB:=h_ (OutSt.start Gi (aaa _) gh gu h8);obtain⟨x_0,x_1,x_2,x_3,x_4⟩:=gh.c5;have fi:=gh.lt;clear Hj h9 Gi
 go_wp2_with fail
 obtain⟨w2,gS⟩:∃w2,w2=w1.alloc (.cells #[.slice A0 D.fn.length c0,.slice A1 D.fl.length c1,.slice A2 D.nn.length c2,.slice A3 D.nl.length c3,.slice A4 D.ss.length c4] 30):=⟨_,rfl⟩;rw[<-gS] at gB⊢;generalize w1.heap.size=Z at*;clear gS gh gu h8 x_0 x_1 x_2 x_3 x_4 fi;refine(z2u _ _ _ _ _ D r _ (h.below gB.out.blw) HR).mono ?_
 rintro e w3 ⟨rfl,Hf⟩;have gd:=h_ (gB.out.below Hf);clear Hf gB;have gU:=gd.out.X;have cZ:=gd.out.Z_;have GK:=gd.out.R;obtain⟨x_0,x_1,x_2,x_3,x_4⟩:=gU.c5
 cases r
 ·have FA:zS D kd a b=false:=by unfold zS;rw[hr];rfl
  have hu:D=E:=by rw[<-HE.out];exact(yP FA).symm
  have hv:false=bb:=by rw[<-gm.out];exact FA.symm
  subst hu;subst hv;have HF:=gd;clear gd HE gm FA;clear hr;obtain⟨_,_,hR,hZ,Ga,_,_⟩:=HF.out;obtain⟨z_0,z_1,z_2,z_3,z_4⟩:=hZ.c5;obtain⟨r_0,r_1,r_2,r_3,r_4,r_f0,r_f1,r_f2,r_f3,r_f4⟩:=hR.b5;have Hl:=hR.lt;have Hy:=h_ (fun u0 u1 u2 u3 u4=>HF.out.fin u0 u1 u2 u3 u4);clear hR hZ HF;go_wp2;exact bodyPost_ret (v:= .tuple #[.agg #[.slice A0 D.fn.length c0,.slice A1 D.fl.length c1,.slice A2 D.nn.length c2,.slice A3 D.nl.length c3,.slice A4 D.ss.length c4],.bool false]) (by simp[results,Tryz.results139,go_sem,r_0,r_1,r_2,r_3,r_4,Hl]) rfl ⟨_,_,_,_,_,_,_,_,_,_,_,rfl,(Hy.out _ _ _ _ _).1,(Hy.out _ _ _ _ _).2⟩
 ·by_cases cY:¬D.ss.length<40
  ·have FA:zS D kd a b=false:=by unfold zS;rw[hr,aaP cY];rfl
   have N7:D.ss.length=40:=by
    have h41:D.ss.length<=40:=by
     unfold okD at hr;simp only[aaH,aa5] at hr
     exact hr.2.1
    omega
   have hu:D=E:=by rw[<-HE.out];exact(yP FA).symm
   have hv:false=bb:=by rw[<-gm.out];exact FA.symm
   subst hu;subst hv;have HF:=gd;clear gd HE gm FA;clear hr cY;obtain⟨_,_,hR,hZ,Ga,_,_⟩:=HF.out;obtain⟨z_0,z_1,z_2,z_3,z_4⟩:=hZ.c5;obtain⟨r_0,r_1,r_2,r_3,r_4,r_f0,r_f1,r_f2,r_f3,r_f4⟩:=hR.b5;have Hl:=hR.lt;have Hy:=h_ (fun u0 u1 u2 u3 u4=>HF.out.fin u0 u1 u2 u3 u4);clear hR hZ HF;go_wp2;exact bodyPost_ret (v:= .tuple #[.agg #[.slice A0 D.fn.length c0,.slice A1 D.fl.length c1,.slice A2 D.nn.length c2,.slice A3 D.nl.length c3,.slice A4 D.ss.length c4],.bool false]) (by simp[results,Tryz.results139,go_sem,r_0,r_1,r_2,r_3,r_4,Hl,N7]) rfl ⟨_,_,_,_,_,_,_,_,_,_,_,rfl,(Hy.out _ _ _ _ _).1,(Hy.out _ _ _ _ _).2⟩
  ·have NV:D.ss.length<40:=o_
   have g2:((D.ss.length:Int)==40)=false:=beq_eq_false_iff_ne.2 o_;obtain⟨N,hN⟩:∃N,yh D.nn D.nl kd a b=N:=⟨_,rfl⟩;obtain⟨L,hL⟩:∃L,yd D.nn D.nl kd a b=L:=⟨_,rfl⟩;obtain⟨sb,hsb⟩:∃sb,vx D.nn D.nl kd a b=sb:=⟨_,rfl⟩;have H1:=h_ hN;have H2:=h_ hL;have H3:=h_ hsb;have YY:=cZ.lt;have Ch:=(h.below gd.out.blw).nn;have fG:=(h.below gd.out.blw).nl;clear cY;have be:=h_ hr;clear hr hN hL hsb
   go_wp2_with fail
   refine(z48 _ _ D.nn D.nl N L kd a b sb _ Ch fG gi.out.nn gi.out.nl H1 H2 H3).mono ?_
   rintro e w4 ⟨An,cn,Al,cl,rfl,gF,Hv⟩;have gp:=gd.out.own.lt;have gZ:=gd.out.below Hv;have H9:w.heap.size+1+1<=w3.heap.size:=by have:=GK.lt;omega
   have Ci:=gF.lt;have hm:=congrArg List.length gZ.own.map;simp at hm
   have m7:=gZ.lt;obtain⟨w5,GH⟩:∃w5,w5=w4.alloc (.cells #[.slice An N.length cn,.slice Al L.length cl] 27):=⟨_,rfl⟩;have gf:Below w4.heap.size w4 w5:=GH▸(aaj _ _).alloc (aaa _) _;have F1:Blk w5 w4.heap.size 27 #[.slice An N.length cn,.slice Al L.length cl]:=GH▸Blk.newAt rfl;have fj:=h_ (gZ.below gf);have fQ:=h_ ((gF.kept gf).mono H9);have YZ:w3.heap.size<=w4.heap.size:=Hv.size;have mB:Hid (∀k,zw (.slice An N.length cn) (.slice Al L.length cl) k->¬qn (.slice A0 D.fn.length c0) (.slice A1 D.fl.length c1) (.slice A2 D.nn.length c2) (.slice A3 D.nl.length c3) (.slice A4 D.ss.length c4) fs k):=h_ (fun k hk gH=>by have:=(Ci k hk).1;have:=(gp k gH).2;omega);have HL4:Hid (∀k,zw (.slice An N.length cn) (.slice Al L.length cl) k->k<w4.heap.size):=h_ (fun k hk=>(Ci k hk).2);have uE:=fj.out.Z_.lt;have Y0:Hid (¬w4.heap.size=Z):=h_ (by have:=gZ.Z_.lt;omega);have Y1:Hid (zw (.slice An N.length cn) (.slice Al L.length cl) Z->False):=h_ (fun hz=>by have:=(Ci _ hz).1;have:=YY;omega);have HLO:Hid (∀k,qn (.slice A0 D.fn.length c0) (.slice A1 D.fl.length c1) (.slice A2 D.nn.length c2) (.slice A3 D.nl.length c3) (.slice A4 D.ss.length c4) fs k->k<w4.heap.size):=h_ (fun k hk=>by have:=(gp k hk).2;omega);clear gF Hv gp Ci gZ gd gU cZ GK Ch fG x_0 x_1 x_2 x_3 x_4
   go_upto_region 5 with (fail)
   rw[<-GH];generalize w4.heap.size=T at*;clear GH gf
   cases sb
   ·have FA:zS D kd a b=false:=by unfold zS;rw[H3.out,Bool.and_false,Bool.and_false]
    have hu:D=E:=by rw[<-HE.out];exact(yP FA).symm
    have hv:false=bb:=by rw[<-gm.out];exact FA.symm
    subst hu;subst hv;have HF:=fj;clear fj HE gm FA;clear be H1 H2 H3 F1 fQ mB HL4 H9 hm YZ;obtain⟨_,_,hR,hZ,Ga,_,_⟩:=HF.out;obtain⟨z_0,z_1,z_2,z_3,z_4⟩:=hZ.c5;obtain⟨r_0,r_1,r_2,r_3,r_4,r_f0,r_f1,r_f2,r_f3,r_f4⟩:=hR.b5;have Hl:=hR.lt;have Hy:=h_ (fun u0 u1 u2 u3 u4=>HF.out.fin u0 u1 u2 u3 u4);clear hR hZ HF;go_wp2;exact bodyPost_ret (v:= .tuple #[.agg #[.slice A0 D.fn.length c0,.slice A1 D.fl.length c1,.slice A2 D.nn.length c2,.slice A3 D.nl.length c3,.slice A4 D.ss.length c4],.bool false]) (by simp[results,Tryz.results139,go_sem,r_0,r_1,r_2,r_3,r_4,Hl]) rfl ⟨_,_,_,_,_,_,_,_,_,_,_,rfl,(Hy.out _ _ _ _ _).1,(Hy.out _ _ _ _ _).2⟩
   ·have m8:zS D kd a b=true:=by unfold zS;rw[be.out,H3.out,aaR NV];rfl
    have hu:E=⟨D.fn,D.fl,N,L,D.ss++[⟨kd,a,b,D.nn,D.nl⟩]⟩:=by rw[<-HE.out,Zb m8,H1.out,H2.out]
    have hv:true=bb:=by rw[<-gm.out];exact m8.symm
    subst hu;subst hv;clear HE gm m8 be H1 H2 H3;have N8:=fj.out.Z_;have m9:=fj.out.X;obtain⟨z_0,z_1,z_2,z_3,z_4,z_f0,z_f1,z_f2,z_f3,z_f4⟩:=N8.b5;obtain⟨x_0,x_1,x_2,x_3,x_4⟩:=m9.c5;obtain⟨t_0,t_1⟩:=F1.c2;have hX5l:=m9.lt;have hT5l:=F1.lt;have BY:fs.length<=1048576:=o_
    have HM:=h_ hm;clear hm;have HTZ:Hid (¬T=Z):=Y0;have YN:Hid (zw (.slice An N.length cn) (.slice Al L.length cl) Z->False):=Y1
    go_upto_region 7 with (fail)
    have hnn5:=(h.below fj.out.blw).nn;have hnl5:=(h.below fj.out.blw).nl;have Hx:Below w5.heap.size w5 w5.drew:=(aaj _ _).drew;have MQ:=h_ (fj.out.below Hx);have HWN5:=h_ (fQ.out.kept Hx);have HTD:=h_ (F1.drew);have hnn6:=hnn5.below Hx;have hnl6:=hnl5.below Hx;clear hnn5 hnl5 Hx fj fQ m9;have M9:=MQ.out.own.lt;refine z3v (n:=12) (S:=fun w'=>w'.cell? ⟨w.heap.size,2,none⟩=some v2/\w'.cell? ⟨w.heap.size,3,none⟩=some v3/\w'.cell? ⟨Z,4,none⟩=some (.slice A4 D.ss.length c4)) k_ ⟨x_2,x_3,z_4⟩ (fun hS=>?_)
    (refine jt (i:=0) (v:=?_) rfl rfl k_ k_ k_ k_ (fun _ _ _ h=>h) (Or.inl ⟨by rfl,?_⟩) (by assumption) ?_);rotate_left;(focus (intro w' fV;(try dsimp only at fV);go_simp;(try with_reducible rfl)));(try simp only[lp_])
    (refine jt (i:=1) (v:=?_) rfl rfl k_ k_ k_ k_ (fun _ _ _ h=>h) (Or.inl ⟨by rfl,?_⟩) (by assumption) ?_);rotate_left;(focus (intro w' fV;(try dsimp only at fV);go_simp;(try with_reducible rfl)));(try simp only[lp_])
    (refine jt (i:=2) (v:=?_) rfl rfl k_ k_ k_ k_ (fun _ _ _ h=>h) (Or.inl ⟨by rfl,?_⟩) (by assumption) ?_);rotate_left;(focus (intro w' fV;(try dsimp only at fV);go_simp;(try with_reducible rfl)));(try simp only[lp_])
    (refine jt (i:=3) (v:=?_) rfl rfl k_ k_ k_ k_ (fun _ _ _ h=>h) (Or.inl ⟨by rfl,?_⟩) (by assumption) ?_);rotate_left;(focus (intro w' fV;(try dsimp only at fV);go_simp;(try with_reducible rfl)));(try simp only[lp_])
    (refine jt (i:=4) (v:=?_) rfl rfl k_ k_ k_ k_ (fun _ _ _ h=>h) (Or.inl ⟨by rfl,?_⟩) (by assumption) ?_);rotate_left;(focus (intro w' fV;(try dsimp only at fV);go_simp;(try with_reducible rfl)));(try simp only[lp_])
    (refine jt (i:=5) (v:=?_) rfl rfl k_ k_ k_ k_ (fun _ _ _ h=>h) (Or.inl ⟨by rfl,?_⟩) (by assumption) ?_);rotate_left;(focus (intro w' fV;(try dsimp only at fV);go_simp;(try with_reducible rfl)));(try simp only[lp_])
    (refine jt (i:=6) (v:=?_) rfl rfl k_ k_ k_ k_ (fun _ _ _ h=>h) (Or.inl ⟨by rfl,?_⟩) (by assumption) ?_);rotate_left;(focus (intro w' fV;(try dsimp only at fV);go_simp;(try with_reducible rfl)));(try simp only[lp_])
    (refine xd (i:=7) rfl k_ (fun K hK=>?_));(rw[aao (by rfl)])
    go_simp
    go_at_call 110
    refine(qo _ _ D.nn D.nl _ hnn6 hnl6 gi.out.nn gi.out.nl).mono ?_
    rintro e wa ⟨Bn,dn,Bl,dl,rfl,uS,fe⟩;have mb:=h_ (MQ.out.below fe);have HWNA:=h_ (HWN5.out.kept fe);have HTA:=h_ (HTD.out.below fe (by simpa using hT5l));have Y4:=uS.lt;have hsa:=fe.size;simp at hsa Y4 M9
    have Y5:Hid (∀k,zw (.slice Bn D.nn.length dn) (.slice Bl D.nl.length dl) k->w5.heap.size<=k/\k<wa.heap.size):=h_ (fun k hk=>Y4 k hk);have HLT5:Hid (∀k,qn (.slice A0 D.fn.length c0) (.slice A1 D.fl.length c1) (.slice A2 D.nn.length c2) (.slice A3 D.nl.length c3) (.slice A4 D.ss.length c4) fs k->k<w5.heap.size):=h_ (fun k hk=>(M9 k hk).2);have Y6:w.heap.size+1+1<=w5.heap.size:=o_
    have Y7:=h_ (uS.mono (show w.heap.size+1+1<=w5.drew.heap.size by simpa using Y6));clear Y4 M9 uS fe MQ HWN5 HTD hnn6 hnl6
    go_wp2_with fail
    refine hK _ _ (fun _=>⟨mb.out.X.cell 2,mb.out.X.cell 3,mb.out.Z_.cell 4⟩) (fun gl=>?_)
    have fh:=gl (by decide);clear hK K hS gl x_0 x_1 x_2 x_3 x_4 z_0 z_1 z_2 z_3 z_4 z_f0 z_f1 z_f2 z_f3 z_f4 t_0 t_1 hX5l uE N8 F1
    (try simp only[lp_])
    (refine jt (i:=8) (v:=?_) rfl rfl k_ k_ k_ k_ (fun _ _ _ h=>h) (Or.inl ⟨by rfl,?_⟩) (by assumption) ?_);rotate_left;(focus (intro w' fV;(try dsimp only at fV);go_simp;(try with_reducible rfl)));(try simp only[lp_])
    (refine xd (i:=9) rfl k_ (fun K hK=>?_));(rw[aao (by rfl)])
    go_simp;have rb:=h_ (mb.out.own.alloc (.cells #[.int .i64 kd,.int .i64 a,.int .i64 b,.slice Bn D.nn.length dn,.slice Bl D.nl.length dl] 113));have HWN:=h_ (HWNA.out.alloc' (.cells #[.int .i64 kd,.int .i64 a,.int .i64 b,.slice Bn D.nn.length dn,.slice Bl D.nl.length dl] 113));have HWF:=h_ (Y7.out.alloc' (.cells #[.int .i64 kd,.int .i64 a,.int .i64 b,.slice Bn D.nn.length dn,.slice Bl D.nl.length dl] 113));have HX6:=h_ (mb.out.X.alloc (.cells #[.int .i64 kd,.int .i64 a,.int .i64 b,.slice Bn D.nn.length dn,.slice Bl D.nl.length dl] 113));have HR6:=h_ (mb.out.R.alloc (.cells #[.int .i64 kd,.int .i64 a,.int .i64 b,.slice Bn D.nn.length dn,.slice Bl D.nl.length dl] 113));have HZ6:=h_ (mb.out.Z_.alloc (.cells #[.int .i64 kd,.int .i64 a,.int .i64 b,.slice Bn D.nn.length dn,.slice Bl D.nl.length dl] 113));have HT6:=h_ (HTA.out.alloc (.cells #[.int .i64 kd,.int .i64 a,.int .i64 b,.slice Bn D.nn.length dn,.slice Bl D.nl.length dl] 113));have rc:=h_ (mb.out.blw.alloc mb.out.blw.size (.cells #[.int .i64 kd,.int .i64 a,.int .i64 b,.slice Bn D.nn.length dn,.slice Bl D.nl.length dl] 113));have F0:Hid (∀k,(Value.slice A4 D.ss.length c4).ownBlock =some k->w.heap.size+1+1<=k/\k≠Z/\k<T):=h_ (fun k hk=>⟨(mb.out.own.lt k (.inr (.inr (.inl hk)))).1,fun e=>mb.out.far (e▸ .inr (.inr (.inl hk))),HLO.out k (.inr (.inr (.inl hk)))⟩);have Y3:Hid (∀(j:Nat) (u:Value),(sfc ((⟨kd,a,b,D.nn,D.nl⟩,.slice Bn D.nn.length dn,.slice Bl D.nl.length dl):SF))[j]? =some u->(wa.alloc (.cells #[.int .i64 kd,.int .i64 a,.int .i64 b,.slice Bn D.nn.length dn,.slice Bl D.nl.length dl] 113)).cell? ((⟨wa.heap.size,0,none⟩:Addr).add j)=some u):=h_ (Vl rfl rfl)
    have NX:w.heap.size+1+1<=(wa.alloc (.cells #[.int .i64 kd,.int .i64 a,.int .i64 b,.slice Bn D.nn.length dn,.slice Bl D.nl.length dl] 113)).heap.size :=by simp;omega
    have HRW:Hid (World.ownsRow (wa.alloc (.cells #[.int .i64 kd,.int .i64 a,.int .i64 b,.slice Bn D.nn.length dn,.slice Bl D.nl.length dl] 113)) (w.heap.size+1+1) 113 5 (.slice A4 D.ss.length c4) fs.length (fs.flatMap sfc)):=h_ rb.out.ss.row;refine hK _ _ (fun _=>⟨HX6.out.cell 2,HX6.out.cell 3,HZ6.out.cell 4⟩) (fun gl=>?_)
    clear hK K fh gl
    (try simp only[lp_])
    (refine xd (i:=10) rfl k_ (fun K hK=>?_))
    refine Jn rfl _ _ _ rfl (w.heap.size+1+1) 113 i0 Tryz.underlying28 hi iz0 iz1 iz2 (.slice A4 D.ss.length c4) fs (⟨kd,a,b,D.nn,D.nl⟩,.slice Bn D.nn.length dn,.slice Bl D.nl.length dl) ⟨wa.heap.size,0,none⟩ 1 rfl rfl HRW.out Y3.out (z1K _ _ _ _ _ _ _ rfl rfl) BY NX ?_
    intro A5 c5 w6 hr6 F7 ha6;have hv6:(Value.slice A5 (fs.length+1) c5).ownBlock =(Value.slice A4 D.ss.length c4).ownBlock ∨(Value.slice A5 (fs.length+1) c5).ownBlock =some (wa.heap.size+1):=by simpa using ha6
    have hT6t:Turns (fun b=>(Value.slice A4 D.ss.length c4).ownBlock =some b) _ w6:=Turns.ofGrown F7 (fun k hk=>hk);have rd:=HWN.out.turned hT6t (fun k hk e1=>mB.out k hk (.inr (.inr (.inl e1))))
    have bo:=(rb.out.snoc (f:=(⟨kd,a,b,D.nn,D.nl⟩,.slice Bn D.nn.length dn,.slice Bl D.nl.length dl)) (by rw[aaY];simpa using hr6) F7 (by simpa using ha6) HWF.out (fun k hk gH=>by have:=(Y5.out k hk).1;have:=HLT5.out k gH;omega)).newNow rd (aaa _) (fun k hk gH=>by
     have Ni:=HL4.out k hk
     rcases Xe hv6 gH with h1|h1|h1
     ·exact mB.out k hk h1
     ·omega
     ·have:=(Y5.out k h1).1;omega)
    have CC:=HX6.out.grownR F7 (fun k hk e=>by have:=(F0.out k hk).1;omega);have Fo:=HR6.out.grownR F7 (fun k hk e=>by have:=(F0.out k hk).1;omega);have VN:=HZ6.out.grownR F7 (fun k hk e=>(F0.out k hk).2.1 e);have mO:=HT6.out.grownR F7 (fun k hk e=>by have:=(F0.out k hk).2.2;omega);have gk:=rc.out.grown F7 rc.out.size (fun k hk=>by have:=(F0.out k hk).1;omega);have fj:=mb;have Fr:=mb.out.Z_.lt;have Y2:Hid (zw (.slice Bn D.nn.length dn) (.slice Bl D.nl.length dl) Z->False):=h_ (fun hz=>by have:=(Y5.out _ hz).1;omega);refine hK _ _ (fun _=>⟨CC.cell 2,CC.cell 3,VN.cell 4⟩) (fun gl=>?_)
    have my:=gl (by decide);clear hK K gl
    (try simp only[lp_])
    (refine jt (i:=11) (v:=?_) rfl rfl k_ k_ k_ k_ (fun _ _ _ h=>h) (Or.inl ⟨by rfl,?_⟩) (by assumption) ?_);rotate_left;(focus (intro w' fV;(try dsimp only at fV);go_simp;(try with_reducible rfl)));(try simp only[lp_])
    have Gh:¬qn (.slice A0 D.fn.length c0) (.slice A1 D.fl.length c1) (.slice An N.length cn) (.slice Al L.length cl) (.slice A5 (fs.length+1) c5) (fs++[(⟨kd,a,b,D.nn,D.nl⟩,.slice Bn D.nn.length dn,.slice Bl D.nl.length dl)]) Z:=by
     rintro(hz|hz|hz)
     ·exact fj.out.far (.inl hz)
     ·have:=YN.out hz;exact this
     ·rcases ym hv6 hz with h1|h1|h1
      ·exact fj.out.far (.inr (.inr h1))
      ·omega
      ·exact Y2.out h1
    have nX:w.heap.size≠Z:=o_
    have nR:w.heap.size+1≠Z:=o_
    have nB:w.heap.size<=Z:=o_
    obtain⟨w7,ng⟩:∃w7,w7=((w6.setCell ⟨Z,4,none⟩ (.slice A5 (fs.length+1) c5)).setCell ⟨Z,2,none⟩ (.slice An N.length cn)).setCell ⟨Z,3,none⟩ (.slice Al L.length cl):=⟨_,rfl⟩
    have HF:Hid (OutSt w v0 v1 v2 v3 (.slice B4 D.ss.length d4) Z (.slice A0 D.fn.length c0) (.slice A1 D.fl.length c1) (.slice An N.length cn) (.slice Al L.length cl) (.slice A5 (fs.length+1) c5) ⟨D.fn,D.fl,N,L,D.ss++[⟨kd,a,b,D.nn,D.nl⟩]⟩ (fs++[(⟨kd,a,b,D.nn,D.nl⟩,.slice Bn D.nn.length dn,.slice Bl D.nl.length dl)]) w7):=h_
     (ng▸⟨((bo.setFar (p:=⟨Z,4,none⟩) Gh _).setFar (p:=⟨Z,2,none⟩) Gh _).setFar (p:=⟨Z,3,none⟩) Gh _,((CC.far (p:=⟨Z,4,none⟩) nX _).far (p:=⟨Z,2,none⟩) nX _).far (p:=⟨Z,3,none⟩) nX _,
      ((Fo.far (p:=⟨Z,4,none⟩) nR _).far (p:=⟨Z,2,none⟩) nR _).far (p:=⟨Z,3,none⟩) nR _,((VN.set_ 4 _).set_ 2 _).set_ 3 _,m7,Gh,((gk.setCell (p:=⟨Z,4,none⟩) nB _).setCell (p:=⟨Z,2,none⟩) nB _).setCell (p:=⟨Z,3,none⟩) nB _⟩)
    obtain⟨z_0,z_1,z_2,z_3,z_4,z_f0,z_f1,z_f2,z_f3,z_f4⟩:=VN.b5;obtain⟨t_0,t_1⟩:=mO.c2;clear bo CC Fo VN mO gk Gh
    (refine xd (i:=12) rfl k_ (fun K hK=>?_));(rw[aao (by rfl)])
    go_simp;refine hK _ _ (fun h=>absurd rfl h) (fun _=>?_)
    clear hK K
    (try simp only[lp_])
    refine z95 k_ ?_ _
    go_upto_region 9 with (fail)
    rw[<-ng];clear ng z_0 z_1 z_2 z_3 z_4 z_f0 z_f1 z_f2 z_f3 z_f4 t_0 t_1;have Hi:(D.ss++[(⟨kd,a,b,D.nn,D.nl⟩:Sp)]).length =fs.length+1:=by have:=HM.out;simp;omega
    have GP:=h_ Hi;obtain⟨_,_,hR,hZ,Ga,_,_⟩:=HF.out;obtain⟨z_0,z_1,z_2,z_3,z_4⟩:=hZ.c5;obtain⟨r_0,r_1,r_2,r_3,r_4,r_f0,r_f1,r_f2,r_f3,r_f4⟩:=hR.b5;have Hl:=hR.lt;have Hy:=h_ (fun u0 u1 u2 u3 u4=>HF.out.fin u0 u1 u2 u3 u4);clear hR hZ HF Hi;go_wp2
    exact bodyPost_ret (v:= .tuple #[.agg #[.slice A0 D.fn.length c0,.slice A1 D.fl.length c1,.slice An N.length cn,.slice Al L.length cl,.slice A5 (fs.length+1) c5],.bool true]) (by simp[results,Tryz.results139,go_sem,r_0,r_1,r_2,r_3,r_4,Hl]) rfl
     ⟨A0,c0,A1,c1,An,cn,Al,cl,A5,c5,fs++[(⟨kd,a,b,D.nn,D.nl⟩,.slice Bn D.nn.length dn,.slice Bl D.nl.length dl)],by simp only[GP.out],by simp only[GP.out];exact(Hy.out _ _ _ _ _).1,(Hy.out _ _ _ _ _).2⟩
end Go.Proofs.YtnjcpljhmhdhkaaGreat
