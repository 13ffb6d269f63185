/- part 22 -/
import Derived.Test.YtnjcpljhmhdhkaaGreatTPk18
set_option linter.unusedSimpArgs false
set_option linter.unusedVariables false
set_option maxRecDepth 100000
set_option maxHeartbeats 16000000
namespace Go.Proofs.YtnjcpljhmhdhkaaGreat
open Go.RowKit
theorem z2J (n:Nat):(madeCells #[.int .i64 0] n).toList =(List.replicate n (0:Int)).map vI:=by
 apply aat
 intro j
 by_cases hj:j<n
 ·simp only[madeCells,Array.toList_map,aau,Array.toList_range,aav hj,abl,aao hj,aaw]
  congr 1
  show #[Value.int .i64 0][j%1]! =_
  rw[Nat.mod_one];rfl
 ·simp[madeCells,hj]
noncomputable def x6 (ns ls:List Pr):List Int:=if zf ns ls then zM ns ls else []
theorem yh {ns ls:List Pr} (hw:zf ns ls=true):0<(z9 ns ls).length :=by
 have Hk:=zL hw;have Hr:∀j:Nat,j<ls.length->zt ns (ndI ls j)=true:=fun j hj=>(Hk.1.2.2.2.2.2 j hj).1
 have hF:z9 ns ls=zg ns ls:=by simp[z9,hw]
 rw[hF];have h1:=(qW Hr (2*ls.length) (aaa _)).1 0 o_
 rcases abv (zg ns ls).length with h0|h0
 ·have:zG ns ls (2*ls.length)=[]:=abx h0
  rw[this] at h1;simp at h1
 ·exact h0
theorem kj {base:Nat} {w:World} {g n c:Nat} {l:List Int} (h:OwnI base w (.slice (some ⟨g,0,none⟩) n c) l) (q:Nat) (x:Int):OwnI base (w.setCell ⟨g,q,none⟩ (.int .i64 x)) (.slice (some ⟨g,0,none⟩) n c) (l.set q x):=
 OwnE.set_ (t:=3) (enc:=vI) h q x
theorem jJ {w w':World} {b o:Nat} (h:w'.heap[b]? =w.heap[b]?):w'.cell? ⟨b,o,none⟩=w.cell? ⟨b,o,none⟩:=by
 simp only[World.cell?,h]
theorem z9c {base:Nat} {w:World} {v:Value} {l:List Int} (h:OwnI base w v l) (hn:0<l.length):
  ∃b c,v= .slice (some ⟨b,0,none⟩) l.length c/\base<=b/\b<w.heap.size/\∀j,j<l.length->w.cell? ⟨b,j,none⟩=some (.int .i64 (l.getD j 0)):=by
 rcases hc:h.2 with ⟨_,h0⟩|⟨g,cap,cur,rfl,hb,_⟩
 ·omega
 ·exact⟨g,cap,rfl,hb,(OwnI.lt h g rfl).2,fun j hj=>OwnE.cell (t:=3) (enc:=vI) h 0 hj⟩
theorem z78 {base:Nat} {w:World} {v:Value} {F:List (List Nat)} (h:OwnF base w v F) (hn:0<F.length) (hp:∀k,k<F.length->0<(F.getD k []).length):
  ∃b c,v= .slice (some ⟨b,0,none⟩) F.length c/\base<=b/\b<w.heap.size/\∀k,k<F.length->∃b5 c5,w.cell? ⟨b,k,none⟩=some (.slice (some ⟨b5,0,none⟩) (F.getD k []).length c5)/\base<=b5/\b5<w.heap.size/\
   ∀j,j<(F.getD k []).length ->w.cell? ⟨b5,j,none⟩=some (.int .i64 ((F.getD k []).getD j 0:Nat)):=by
 obtain⟨vs,h1,h2,h3⟩:=h
 rcases hc:h2.2 with ⟨_,h0⟩|⟨g,cap,cur,rfl,hb,_⟩
 ·omega
 ·refine⟨g,cap,rfl,hb,(World.ownsRow.lt h2 g rfl).2,fun k hk=>?_⟩
  obtain⟨b5,c5,e,gk,hl5,Cs⟩:=z9c (h3 k hk) (by rw[za];exact hp k hk);rw[za] at e Cs;have hcell:=h2.cellAt k o_;have hvk:vs[k]? =some (vs.getD k undef):=by rw[List.getD,aac o_];rfl
  rw[hvk,e] at hcell;exact⟨b5,c5,hcell,gk,hl5,fun j hj=>by rw[Cs j hj,qg]⟩
theorem z5d (vn vl:Value) (ns ls:List Pr) (w:World) (hn:RP w vn ns) (hl:RP w vl ls) (hw:zf ns ls=false):
  CB_ 145 #[.agg #[vn,vl]] w (.slice none 0 0):=by
 have Hi:Below w.heap.size w (w.alloc (.cells #[vn,vl] 27)):=bel_
 go_enter Tryz.func145,Tryz.ntmps145
 go_wp2_with fail
 refine(j8 _ _ ns ls _ _ (hn.below Hi) (hl.below Hi) hw).mono ?_
 rintro e w1 ⟨rfl,Hb⟩;have Ha:=Hi.trans (Hb.mono Hi.size);go_wp2;go_ret
 exact⟨rfl,Ha⟩
theorem Vb (vn vl:Value) (ns ls:List Pr) (w:World) (hn:RP w vn ns) (hl:RP w vl ls):
  Calls Tryz.prog 147 #[.agg #[vn,vl]] w (RetI (x6 ns ls) w):=by
 obtain⟨An,cn,rfl,FQ,GW,_⟩:=hn.formI;obtain⟨Al,cl,rfl,Hz,GM,_⟩:=hl.formI;unfold maxLen at GW GM;have Hi:Below w.heap.size w (w.alloc (.cells #[.slice An ns.length cn,.slice Al ls.length cl] 27)):=bel_
 have gE:Blk (w.alloc (.cells #[.slice An ns.length cn,.slice Al ls.length cl] 27)) w.heap.size 27 #[.slice An ns.length cn,.slice Al ls.length cl]:=Blk.newAt rfl
 cases hw:zf ns ls
 ·have HR:Hid (x6 ns ls=[]):=h_ (by simp[x6,hw])
  have MH:=fun (u:World) (a:Option Addr) (l c:Nat)=>Lib.run_eql_slice_nil (P:=Tryz.prog) u 135 31 a l c 0 0 Tryz.underlying135
  go_enter Tryz.func147,Tryz.ntmps147
  go_wp2_with fail
  refine(z5d _ _ ns ls _ (hn.below Hi) (hl.below Hi) hw).mono ?_
  rintro e w1 ⟨rfl,Hb⟩;have Ha:=Hi.trans (Hb.mono Hi.size);go_wp2;go_ret
  exact⟨_,rfl,by rw[HR.out];exact OwnI.nil _ _,Ha⟩
 ·have HR:Hid (x6 ns ls=zM ns ls):=h_ (by simp[x6,hw])
  have Hk:=(zL hw).1;have GN:=Hk.2.2.1;have CX:=yh hw;obtain⟨i0,hi,iz0,iz1,iz2⟩:=info_parts qq;have FB:=h_ (fun k hk=>y7 (ns:=ns) (ls:=ls) (k:=k) hk);have fK:=zD ns ls;have HS:Hid (zM ns ls=qQ (z9 ns ls) (List.replicate (2*ls.length) 0) (z9 ns ls).length):=h_ rfl;have e2:2*(ls.length:Int)=((2*ls.length:Nat):Int):=o_
  have MH:=fun (u:World) (a:Option Addr) (l c:Nat)=>Lib.run_eql_slice_nil (P:=Tryz.prog) u 135 31 a l c 0 0 Tryz.underlying135
  go_enter Tryz.func147,Tryz.ntmps147
  go_wp2_with fail
  refine(jS _ _ ns ls _ (hn.below Hi) (hl.below Hi)).mono ?_
  rintro e w1 ⟨v1,rfl,Hj,Hb⟩;have Ha:=Hi.trans (Hb.mono Hi.size);have gc:=gE.below Hb gE.lt;have H7:=gc.lt;have uU:=Hj.reads;generalize z9 ns ls=F at*;obtain⟨A1,c1,rfl,gl,bH,Fc⟩:=uU.get;unfold maxLen at bH;obtain⟨b1,off1,rfl,Uu,rY⟩:=Fc CX;have YR:=h_ rY;obtain⟨a_0,a_1⟩:=gc.c2;generalize rE:2*ls.length=N at*;have uO:N<=40:=o_
  have HZ:=h_ (fun k=>vo F (List.replicate N (0:Int)) k);have mt:=h_ (fun (g:List Int) (f:List Nat) (k j:Nat)=>vi g f k j)
  go_wp2_with (at_make;refine wpList_make_full _ rfl _ _ 31 rfl (w.heap.size+1) 3 i0 (.int .i64 0) 1 Tryz.underlying31 hi iz0 iz1 .i64 .i64 _ _ N rfl rfl rfl rfl (by rw[iz2];omega) (by unfold maxLen;omega) o_ ?_)
  intro w2 gZ gR;have mT:Below w1.heap.size w1 w2:=(aaj _ _).grown gR (aaa _) (by intro k hk;cases hk)
  have ft:OwnI (w.heap.size+1) w2 (.slice (some ⟨w1.heap.size,0,none⟩) N N) (qQ F (List.replicate N 0) 0):=by
   show OwnI _ _ _ (List.replicate N 0)
   unfold OwnI;rw[aaC,<-z2J];exact gZ
  have Uv:=(ft.lt _ rfl).2;have NY:=H7;obtain⟨gs,mP⟩:∃g,w1.heap.size=g:=⟨_,rfl⟩;rw[mP] at mT ft Uv NY Uu⊢;have rZ:=h_ mP;go_wp2
  go_loopw [20] (fun x wr=>∃k:Nat,k<=F.length/\x= .int .i64 k/\OwnI (w.heap.size+1) wr (.slice (some ⟨gs,0,none⟩) N N) (qQ F (List.replicate N 0) k)/\Below gs w1 wr) (fun x _=>F.length -(intOf x).toNat)
  case atStart=>exact⟨0,aab _,rfl,ft,mT⟩
  case round=>
   obtain⟨k,hk,rfl,ho,hB⟩:=hrel
   by_cases Hf:k<F.length
   ·have Hu:(k:Int)<(F.length:Int):=o_
    have ik1:(0:Int)<=(k:Int):=o_
    obtain⟨rr,Bp,M4⟩:=YR.out k Hf;have hcr':=(hB.cell (p:=⟨b1,off1+k,none⟩) Uu).trans Bp;obtain⟨Hk,MC,nY,BM⟩:=FB.out k Hf;have uV:=h_ MC;have Uw:Hid (qQ F (List.replicate N 0) (k+1)=qj (qQ F (List.replicate N 0) k) (F.getD k []) k (F.getD k []).length):=h_ rfl;have hgl:=HZ.out k;rw[aaC] at hgl;generalize qQ F (List.replicate N 0) k=G at*;generalize F.getD k []=f at*;obtain⟨A5,c5,rfl,Cs,YS,Nh⟩:=M4.form;rw[za] at Nh hcr' Cs YS;obtain⟨b5,off5,rfl,gk,BO⟩:=Nh nY;rw[rZ.out] at gk;have rP:=h_ BO;have h0:OwnI (w.heap.size+1) wr (.slice (some ⟨gs,0,none⟩) N N) (qj G f k 0):=ho;go_wp2
    go_loopw [27] (fun x wr=>∃j:Nat,j<=f.length/\x= .int .i64 j/\OwnI (w.heap.size+1) wr (.slice (some ⟨gs,0,none⟩) N N) (qj G f k j)/\Below gs w1 wr) (fun x _=>f.length -(intOf x).toNat)
    case atStart=>exact⟨0,aab _,rfl,h0,hB⟩
    case round=>
     obtain⟨j,hj,rfl,ho,hB⟩:=hrel
     by_cases ce:j<f.length
     ·have uQ:(j:Int)<(f.length:Int):=o_
      have ij1:(0:Int)<=(j:Int):=o_
      have YT:=(hB.cell (p:=⟨b5,off5+j,none⟩) gk).trans (rP.out j ce);rw[qg] at YT;have Ck:f.getD j 0<N:=uV.out _ (by rw[List.getD,aac ce];exact abg ce);have HSJ:Hid (qj G f k (j+1)=(qj G f k j).set (f.getD j 0) k):=h_ rfl;have Bk:=mt.out G f k j;generalize f.getD j 0=x at*;have ix1:(0:Int)<=(x:Int):=o_
      have ix2:(x:Int)<(N:Int):=o_
      have Cx:=OwnE.cell (t:=3) (enc:=vI) ho 0 (q:=x) o_;obtain⟨z,hz⟩:∃z,wr.cell? ⟨gs,x,none⟩=some z:=⟨_,Cx⟩;have fx:=OwnE.frz (t:=3) (enc:=vI) ho x;have nU:Hid (OwnI (w.heap.size+1) (wr.setCell ⟨gs,x,none⟩ (.int .i64 k)) (.slice (some ⟨gs,0,none⟩) N N) (qj G f k (j+1))):=h_ (by rw[HSJ.out];exact kj ho x k);have NW:=h_ (hB.setCell (p:=⟨gs,x,none⟩) (aaa _) (.int .i64 k));go_wp2;go_roundw
      case rel=>exact⟨j+1,by omega,by go_num,nU.out,NW.out⟩
      case measure=>simp[intOf];omega
     ·have GS:j=f.length:=o_
      subst GS;go_wp2;go_roundw
      case rel=>exact⟨k+1,by omega,by go_num,by rw[Uw.out];exact ho,hB⟩
      case measure=>simp[intOf];omega
   ·have gn:k=F.length:=o_
    subst gn;have HB:=h_ (Ha.trans (Below.mono (by rw[rZ.out];exact hB) Ha.size));go_wp2;go_ret
    exact⟨_,rfl,by rw[HR.out,HS.out];exact OwnI.mono ho o_,HB.out⟩
theorem V7 (vn vl:Value) (ns ls:List Pr) (w:World) (hn:RP w vn ns) (hl:RP w vl ls) (hw:zf ns ls=true):
  Calls Tryz.prog 200 #[.agg #[vn,vl]] w (RetI (zM ns ls) w):=by
 obtain⟨An,cn,rfl,FQ,GW,_⟩:=hn.formI;obtain⟨Al,cl,rfl,Hz,GM,_⟩:=hl.formI;unfold maxLen at GW GM;have Hi:Below w.heap.size w (w.alloc (.cells #[.slice An ns.length cn,.slice Al ls.length cl] 27)):=bel_
 have gE:Blk (w.alloc (.cells #[.slice An ns.length cn,.slice Al ls.length cl] 27)) w.heap.size 27 #[.slice An ns.length cn,.slice Al ls.length cl]:=Blk.newAt rfl;have Hk:=(zL hw).1;have GN:=Hk.2.2.1;have CX:=yh hw;obtain⟨i0,hi,iz0,iz1,iz2⟩:=info_parts qq;have FB:=h_ (fun k hk=>y7 (ns:=ns) (ls:=ls) (k:=k) hk);have fK:=zD ns ls;have HS:Hid (zM ns ls=qQ (z9 ns ls) (List.replicate (2*ls.length) 0) (z9 ns ls).length):=h_ rfl;have e2:2*(ls.length:Int)=((2*ls.length:Nat):Int):=o_
 have bm:=h_ (fun (v:World) (h1:RP v (.slice An ns.length cn) ns) (h2:RP v (.slice Al ls.length cl) ls)=>jU (.slice An ns.length cn) (.slice Al ls.length cl) ns ls v h1 h2);clear Hk hw;obtain⟨w1,F9⟩:∃w1,w1=w.alloc (.cells #[.slice An ns.length cn,.slice Al ls.length cl] 27):=⟨_,rfl⟩;have Fd:w1.heap.size=w.heap.size+1:=by rw[F9];simp
 have Wh:=h_ F9;rw[<-F9] at Hi gE;clear F9
 go_enter Tryz.func200,Tryz.ntmps200
 go_upto_region 1 with (fail)
 rw[<-Wh.out];clear Wh;obtain⟨a_0,a_1⟩:=gE.c2;have H7:=gE.lt;generalize rE:2*ls.length=N at*;have uO:N<=40:=o_
 have HZ:=h_ (fun F k=>vo F (List.replicate N (0:Int)) k);have mt:=h_ (fun (g:List Int) (f:List Nat) (k j:Nat)=>vi g f k j);clear rE
 go_wp2_with (at_make;refine wpList_make_full _ rfl _ _ 31 rfl (w.heap.size+1) 3 i0 (.int .i64 0) 1 Tryz.underlying31 hi iz0 iz1 .i64 .i64 _ _ N rfl rfl rfl rfl (by rw[iz2];omega) (by unfold maxLen;omega) o_ ?_)
 intro w2 gZ gR;have mT:Below w1.heap.size w1 w2:=(aaj _ _).grown gR (aaa _) (by intro k hk;cases hk)
 have ft:OwnI (w.heap.size+1) w2 (.slice (some ⟨w.heap.size+1,0,none⟩) N N) (List.replicate N 0):=by
  unfold OwnI;rw[aaC,<-z2J];exact gZ
 have Hc:=Hi.trans (mT.mono Hi.size);have gX:=gE.below mT H7;obtain⟨gs,mP⟩:∃g,w.heap.size+1=g:=⟨_,rfl⟩;clear gZ gR a_0 a_1 H7 mT Hi gE i0 hi iz0 iz1 iz2;rw[mP] at ft⊢;have rZ:=h_ mP;clear mP Fd;obtain⟨a_0,a_1⟩:=gX.c2
 go_wp2_with fail
 refine(bm.out _ (hn.below Hc) (hl.below Hc)).mono ?_
 rintro e w3 ⟨v3,rfl,Hq,Hg⟩;have He:=Hc.trans (Hg.mono Hc.size);have GF:=ft.kept Hg;have uP:=Hq.reads;have ug:gs<w2.heap.size:=(OwnI.lt ft gs rfl).2;generalize z9 ns ls=F at*;have hFP:=fun k hk=>(FB.out k hk).2.2.1
 obtain⟨b1,c1,rfl,H4,Uu,rY⟩:=z78 Hq CX hFP;have YR:=h_ rY;have uV:=h_ (fun k hk=>(FB.out k hk).2.1);have H40:=h_ (fun k hk=>(FB.out k hk).2.2.2);clear uP rY hFP FB Hg Hq Hc gX ft a_0 a_1;have YV:w3.grownBy w3 (some gs):=World.grownBy.refl _ _;go_wp2
 go_loopw [5] (fun x wr=>∃k:Nat,k<=F.length/\x= .int .i64 k/\OwnI gs wr (.slice (some ⟨gs,0,none⟩) N N) (qQ F (List.replicate N 0) k)/\w3.grownBy wr (some gs)) (fun x _=>F.length -(intOf x).toNat)
 case atStart=>exact⟨0,aab _,rfl,GF,YV⟩
 case round=>
  clear GF YV;obtain⟨k,hk,rfl,ho,hB⟩:=hrel
  by_cases Hf:k<F.length
  ·have Hu:(k:Int)<(F.length:Int):=o_
   have ik1:(0:Int)<=(k:Int):=o_
   obtain⟨b5,c5,Bp,hbb5,gk,Cs⟩:=YR.out k Hf;have HFE1:=h_ (uV.out k Hf);have BM:=H40.out k Hf;have Uw:Hid (qQ F (List.replicate N 0) (k+1)=qj (qQ F (List.replicate N 0) k) (F.getD k []) k (F.getD k []).length):=h_ rfl;have hgl:=HZ.out F k;rw[aaC] at hgl;generalize qQ F (List.replicate N 0) k=G at*;generalize F.getD k []=f at*;have ru:=h_ Bp;have rP:=h_ Cs;clear Bp Cs;have h0:OwnI gs wr (.slice (some ⟨gs,0,none⟩) N N) (qj G f k 0):=ho;clear ho;go_wp2
   go_loopw [6] (fun x wr=>∃j:Nat,j<=f.length/\x= .int .i64 j/\OwnI gs wr (.slice (some ⟨gs,0,none⟩) N N) (qj G f k j)/\w3.grownBy wr (some gs)) (fun x _=>f.length -(intOf x).toNat)
   case atStart=>exact⟨0,aab _,rfl,h0,hB⟩
   case round=>
    clear h0 hB;obtain⟨j,hj,rfl,ho,hB⟩:=hrel;have Bp:=(jJ (o:=k) (hB.block b1 o_ (fun e=>by cases e;omega))).trans ru.out;have gI:=hB.size;have hb5w:b5<wr.heap.size:=o_
    by_cases ce:j<f.length
    ·have uQ:(j:Int)<(f.length:Int):=o_
     have ij1:(0:Int)<=(j:Int):=o_
     have YT:=(jJ (o:=j) (hB.block b5 o_ (fun e=>by cases e;omega))).trans (rP.out j ce);have Ck:f.getD j 0<N:=HFE1.out _ (by rw[List.getD,aac ce];exact abg ce);have HSJ:Hid (qj G f k (j+1)=(qj G f k j).set (f.getD j 0) k):=h_ rfl;have Bk:=mt.out G f k j;generalize f.getD j 0=x at*;have ix1:(0:Int)<=(x:Int):=o_
     have ix2:(x:Int)<(N:Int):=o_
     have Cx:=OwnE.cell (t:=3) (enc:=vI) ho 0 (q:=x) o_;obtain⟨z,hz⟩:∃z,wr.cell? ⟨gs,x,none⟩=some z:=⟨_,Cx⟩;have fx:=OwnE.frz (t:=3) (enc:=vI) ho x;have nU:Hid (OwnI gs (wr.setCell ⟨gs,x,none⟩ (.int .i64 k)) (.slice (some ⟨gs,0,none⟩) N N) (qj G f k (j+1))):=h_ (by rw[HSJ.out];exact kj ho x k);have NW:=h_ (k7 hB x (.int .i64 k));clear ho hB Cx;go_wp2;go_roundw
     case rel=>exact⟨j+1,by omega,by go_num,nU.out,NW.out⟩
     case measure=>simp[intOf];omega
    ·have GS:j=f.length:=o_
     subst GS;go_wp2;go_roundw
     case rel=>exact⟨k+1,by omega,by go_num,by rw[Uw.out];exact ho,hB⟩
     case measure=>simp[intOf];omega
  ·have gn:k=F.length:=o_
   subst gn;have HB:=h_ (He.grown hB He.size (fun k hk=>by cases hk;have:=rZ.out;omega));go_wp2;go_ret
   exact⟨_,rfl,by rw[HS.out];exact OwnI.mono ho (by have:=rZ.out;omega),HB.out⟩
noncomputable def qw (D:Dr):Dr:=z07 (okD D) D
noncomputable def qV (D:Dr):Bool:=z1x (okD D) D
theorem yZ {D:Dr} (h:okD D=false∨D.ss.length=0):qw D=D/\qV D=false:=by
 have hn:¬(okD D=true/\0<D.ss.length):=by
  rcases h with h|h
  ·rw[h];simp
  ·omega
 refine⟨z7L hn,?_⟩
 unfold qV z1x
 rcases h with h|h
 ·rw[h];rfl
 ·rw[h];simp
theorem kQ {D:Dr} {k:Nat} (h:okD D=true) (hk:D.ss.length=k+1) (s:Sp) (hs:D.ss[k]? =some s):qw D=⟨D.fn,D.fl,s.ns,s.ls,D.ss.take k⟩/\qV D=true:=by
 have hp:0<D.ss.length:=o_
 obtain⟨gU,Fi⟩:=List.getElem?_eq_some_iff.1 hs
 constructor
 ·unfold qw
  rw[h,z5f hp];have e:D.ss.length -1=k:=o_
  simp only[e,Fi]
 ·unfold qV z1x
  rw[h,aaQ hp];rfl
theorem z6i {a b c d:Value} {g n c' k x:Nat} {fs:List SF} (hk:k<fs.length) (h:qE a b fs[k].2.1 fs[k].2.2 (.slice (some ⟨g,0,none⟩) k c') (fs.take k) x):qE a b c d (.slice (some ⟨g,0,none⟩) n c') fs x:=by
 rcases h with h|h|h
 ·exact .inl h
 ·exact .inr (.inr (.inr ⟨k,hk,h⟩))
 ·exact .inr (.inr (vR h))
theorem z1f (v0 v1 v2 v3 v4:Value) (D:Dr) (w:World) (h:RD w v0 v1 v2 v3 v4 D) (hle:DrLe D):
  Calls Tryz.prog 117 #[.agg #[v0,v1,v2,v3,v4]] w (z5b (qw D) (qV D) w):=by
 obtain⟨r,hr⟩:∃r,okD D=r:=⟨_,rfl⟩;have HR:=h_ hr;have gf:=h_ hle;obtain⟨B4,d4,ev4,_⟩:=h.ss;subst ev4;obtain⟨E,hE⟩:∃E,qw D=E:=⟨_,rfl⟩;obtain⟨bb,H4⟩:∃bb,qV D=bb:=⟨_,rfl⟩;rw[hE,H4];have HE:=h_ hE;have H9:=h_ H4;clear hle hE H4
 go_enter Tryz.func117,Tryz.ntmps117
 go_wp2_with fail
 refine(kY _ _ _ _ _ D _ (h.below bel_) gf.out).mono ?_
 rintro e w1 ⟨A0,c0,A1,c1,A2,c2,A3,c3,A4,c4,fs,rfl,Hj,Hb⟩;have gB:Blk w1 w.heap.size 30 #[v0,v1,v2,v3,(.slice B4 D.ss.length d4)]:=Blk.below ((Blk.newAt rfl).alloc _) Hb sz_;have H6:Blk w1 (w.heap.size+1) 30 z5_:=Blk.below (Blk.newAt (by simp)) Hb sz_;have Ha:Below w.heap.size w w1:=bel_
 have Gt:OwnD (w.heap.size+1+1) w1 (.slice A0 D.fn.length c0) (.slice A1 D.fl.length c1) (.slice A2 D.nn.length c2) (.slice A3 D.nl.length c3) (.slice A4 D.ss.length c4) D fs:=by simpa using Hj
 have gD:=h_ (OutSt.start Gt (aaa _) gB H6 Ha);obtain⟨x_0,x_1,x_2,x_3,x_4⟩:=gB.c5;have GR:=gB.lt;clear Hj Hb Gt
 go_wp2_with fail
 obtain⟨w2,gw⟩:∃w2,w2=w1.alloc (.cells #[.slice A0 D.fn.length c0,.slice A1 D.fl.length c1,.slice A2 D.nn.length c2,.slice A3 D.nl.length c3,.slice A4 D.ss.length c4] 30):=⟨_,rfl⟩;rw[<-gw] at gD⊢;generalize w1.heap.size=Z at*;clear gw gB H6 Ha x_0 x_1 x_2 x_3 x_4 GR;refine(Z0 _ _ _ _ _ D r _ (h.below gD.out.blw) HR).mono ?_
 rintro e w3 ⟨rfl,Hg⟩;have Ht:=h_ (gD.out.below Hg);clear Hg gD;have gS:=Ht.out.X;have Fh:=Ht.out.Z_;obtain⟨x_0,x_1,x_2,x_3,x_4⟩:=gS.c5
 cases r
 ·obtain⟨u1,u2⟩:=yZ (D:=D) (.inl hr)
  have hu:D=E:=by rw[<-HE.out];exact u1.symm
  have hv:false=bb:=by rw[<-H9.out];exact u2.symm
  subst hu;subst hv;have HF:=Ht;clear Ht HE H9 hr u1 u2;obtain⟨_,_,hR,hZ,Gb,_,_⟩:=HF.out;obtain⟨z_0,z_1,z_2,z_3,z_4⟩:=hZ.c5;obtain⟨r_0,r_1,r_2,r_3,r_4,r_f0,r_f1,r_f2,r_f3,r_f4⟩:=hR.b5;have Hl:=hR.lt;have Hx:=h_ (fun u0 u1 u2 u3 u4=>HF.out.fin u0 u1 u2 u3 u4);clear hR hZ HF;go_wp2;exact bodyPost_ret (v:= .tuple #[.agg #[.slice A0 D.fn.length c0,.slice A1 D.fl.length c1,.slice A2 D.nn.length c2,.slice A3 D.nl.length c3,.slice A4 D.ss.length c4],.bool false]) (by simp[results,Tryz.results117,go_sem,r_0,r_1,r_2,r_3,r_4,Hl]) rfl ⟨_,_,_,_,_,_,_,_,_,_,_,rfl,(Hx.out _ _ _ _ _).1,(Hx.out _ _ _ _ _).2⟩
 ·by_cases fX:D.ss.length=0
  ·obtain⟨u1,u2⟩:=yZ (D:=D) (.inr fX)
   have hu:D=E:=by rw[<-HE.out];exact u1.symm
   have hv:false=bb:=by rw[<-H9.out];exact u2.symm
   subst hu;subst hv;have HF:=Ht;clear Ht HE H9 hr u1 u2;obtain⟨_,_,hR,hZ,Gb,_,_⟩:=HF.out;obtain⟨z_0,z_1,z_2,z_3,z_4⟩:=hZ.c5;obtain⟨r_0,r_1,r_2,r_3,r_4,r_f0,r_f1,r_f2,r_f3,r_f4⟩:=hR.b5;have Hl:=hR.lt;have Hx:=h_ (fun u0 u1 u2 u3 u4=>HF.out.fin u0 u1 u2 u3 u4);clear hR hZ HF;go_wp2;exact bodyPost_ret (v:= .tuple #[.agg #[.slice A0 D.fn.length c0,.slice A1 D.fl.length c1,.slice A2 D.nn.length c2,.slice A3 D.nl.length c3,.slice A4 D.ss.length c4],.bool false]) (by simp[results,Tryz.results117,go_sem,r_0,r_1,r_2,r_3,r_4,Hl,fX]) rfl ⟨_,_,_,_,_,_,_,_,_,_,_,rfl,(Hx.out _ _ _ _ _).1,(Hx.out _ _ _ _ _).2⟩
  ·obtain⟨k,hk⟩:∃k,D.ss.length=k+1:=⟨D.ss.length -1,by omega⟩
   have BJ:k<D.ss.length:=o_
   have hm:=congrArg List.length Ht.out.own.map;simp at hm
   have UZ:k<fs.length:=o_
   obtain⟨g,hg,hgl,bY⟩:=Ht.out.own.ss.addr o_;subst hg
   have Wq:fs[k].1=D.ss[k]:=by
    have h1:=Ht.out.own.map;have h2:(fs.map Prod.fst)[k]'(by simpa using UZ)=D.ss[k]:=by simp only[h1]
    simpa using h2
   obtain⟨u1,u2⟩:=kQ hr hk D.ss[k] (aac BJ);have hu:E=⟨D.fn,D.fl,D.ss[k].ns,D.ss[k].ls,D.ss.take k⟩:=by rw[<-HE.out];exact u1
   have hv:true=bb:=by rw[<-H9.out];exact u2.symm
   subst hu;subst hv;clear HE H9 u1 u2 hr;have e1:(D.ss.length:Int) -1=(k:Int):=o_
   have k0:(0:Int)<=(k:Int):=o_
   have k1:(k:Int)<(D.ss.length:Int):=o_
   have k2:(k:Int)<=(c4:Int):=o_
   have BP:((D.ss.length:Int)==0)=false:=beq_eq_false_iff_ne.2 o_;have hkm:k<1048576:=by have:=gf.out.ss;omega
   have hwk:IntKind.i64.wrap (k:Int)=(k:Int):=aaP _ o_;have rX:=Ht.out.lt;have nX:w.heap.size≠Z:=o_
   have nR:w.heap.size+1≠Z:=o_
   have nB:w.heap.size<=Z:=o_
   have uY:(D.ss.take k).length =k:=by simp;omega
   have Hk:=Ht.out.own.ss.win k UZ;obtain⟨An,cn,en⟩:=Hk.1.form;obtain⟨Al,cl,el⟩:=Hk.2.1.form;have Hw:=Ht.out.own.ss.row;have Cb:k*5+3<D.ss.length*5:=o_
   have fD:k*5+4<D.ss.length*5:=o_
   rw[<-hgl] at Hw;have q3:=Hw.cellAt (k*5+3) Cb;have q4:=Hw.cellAt (k*5+4) fD;rw[yA sfc 5 (fun _=>rfl) _ k _ UZ o_] at q3 q4;simp only[sfc,aag,aah] at q3 q4
   have hN:=Ht.out.own.popNow UZ;have gM:¬qE (.slice A0 D.fn.length c0) (.slice A1 D.fl.length c1) fs[k].2.1 fs[k].2.2 (.slice (some ⟨g,0,none⟩) k c4) (fs.take k) Z:=fun hz=>Ht.out.far (z6i UZ hz)
   rw[Wq] at hN;rw[Wq] at en;rw[Wq] at el;rw[en,el] at hN gM;rw[en] at q3;rw[el] at q4;obtain⟨w5,GE⟩:∃w5,w5=((w3.setCell ⟨Z,2,none⟩ (.slice An D.ss[k].ns.length cn)).setCell ⟨Z,3,none⟩ (.slice Al D.ss[k].ls.length cl)).setCell ⟨Z,4,none⟩ (.slice (some ⟨g,0,none⟩) k c4):=⟨_,rfl⟩
   have HF:Hid (OutSt w v0 v1 v2 v3 (.slice B4 D.ss.length d4) Z (.slice A0 D.fn.length c0) (.slice A1 D.fl.length c1) (.slice An D.ss[k].ns.length cn) (.slice Al D.ss[k].ls.length cl) (.slice (some ⟨g,0,none⟩) k c4) ⟨D.fn,D.fl,D.ss[k].ns,D.ss[k].ls,D.ss.take k⟩ (fs.take k) w5):=h_
    (GE▸⟨((hN.setFar (p:=⟨Z,2,none⟩) gM _).setFar (p:=⟨Z,3,none⟩) gM _).setFar (p:=⟨Z,4,none⟩) gM _,((Ht.out.X.far (p:=⟨Z,2,none⟩) nX _).far (p:=⟨Z,3,none⟩) nX _).far (p:=⟨Z,4,none⟩) nX _,
     ((Ht.out.R.far (p:=⟨Z,2,none⟩) nR _).far (p:=⟨Z,3,none⟩) nR _).far (p:=⟨Z,4,none⟩) nR _,((Fh.set_ 2 _).set_ 3 _).set_ 4 _,rX,gM,((Ht.out.blw.setCell (p:=⟨Z,2,none⟩) nB _).setCell (p:=⟨Z,3,none⟩) nB _).setCell (p:=⟨Z,4,none⟩) nB _⟩)
   obtain⟨z_0,z_1,z_2,z_3,z_4,z_f0,z_f1,z_f2,z_f3,z_f4⟩:=Fh.b5;have bL:=h_ uY;generalize D.ss[k]=s at*;clear hN Ht Hk Hw Cb fD en el Wq gS Fh hm hk hgl bY uY gM BJ
   go_upto_region 7 with (fail)
   rw[<-GE];clear GE z_0 z_1 z_2 z_3 z_4 z_f0 z_f1 z_f2 z_f3 z_f4 q3 q4 x_0 x_1 x_2 x_3 x_4;obtain⟨_,_,hR,hZ,Gb,_,_⟩:=HF.out;obtain⟨z_0,z_1,z_2,z_3,z_4⟩:=hZ.c5;obtain⟨r_0,r_1,r_2,r_3,r_4,r_f0,r_f1,r_f2,r_f3,r_f4⟩:=hR.b5;have Hl:=hR.lt;have Hx:=h_ (fun u0 u1 u2 u3 u4=>HF.out.fin u0 u1 u2 u3 u4);clear hR hZ HF;go_wp2
   exact bodyPost_ret (v:= .tuple #[.agg #[.slice A0 D.fn.length c0,.slice A1 D.fl.length c1,.slice An s.ns.length cn,.slice Al s.ls.length cl,.slice (some ⟨g,0,none⟩) k c4],.bool true]) (by simp[results,Tryz.results117,go_sem,r_0,r_1,r_2,r_3,r_4,Hl]) rfl
    ⟨A0,c0,A1,c1,An,cn,Al,cl,some ⟨g,0,none⟩,c4,fs.take k,by simp only[bL.out],by simp only[bL.out];exact(Hx.out _ _ _ _ _).1,(Hx.out _ _ _ _ _).2⟩
theorem z19 (v0 v1 v2 v3 v4:Value) (D:Dr) (w:World) (h:RD w v0 v1 v2 v3 v4 D) (hle:DrLe D):
  Calls Tryz.prog 140 #[.agg #[v0,v1,v2,v3,v4]] w (z5b (qw D) (qV D) w):=by
 obtain⟨r,hr⟩:∃r,okD D=r:=⟨_,rfl⟩;have HR:=h_ hr;have gf:=h_ hle;obtain⟨B4,d4,ev4,_⟩:=h.ss;subst ev4;obtain⟨E,hE⟩:∃E,qw D=E:=⟨_,rfl⟩;obtain⟨bb,H4⟩:∃bb,qV D=bb:=⟨_,rfl⟩;rw[hE,H4];have HE:=h_ hE;have H9:=h_ H4;clear hle hE H4
 go_enter Tryz.func140,Tryz.ntmps140
 go_wp2_with fail
 refine(QM _ _ _ _ _ D _ (h.below bel_) gf.out).mono ?_
 rintro e w1 ⟨A0,c0,A1,c1,A2,c2,A3,c3,A4,c4,fs,rfl,Hj,Hb⟩;have gB:Blk w1 w.heap.size 30 #[v0,v1,v2,v3,(.slice B4 D.ss.length d4)]:=Blk.below ((Blk.newAt rfl).alloc _) Hb sz_;have H6:Blk w1 (w.heap.size+1) 30 z5_:=Blk.below (Blk.newAt (by simp)) Hb sz_;have Ha:Below w.heap.size w w1:=bel_
 have Gt:OwnD (w.heap.size+1+1) w1 (.slice A0 D.fn.length c0) (.slice A1 D.fl.length c1) (.slice A2 D.nn.length c2) (.slice A3 D.nl.length c3) (.slice A4 D.ss.length c4) D fs:=by simpa using Hj
 have gD:=h_ (OutSt.start Gt (aaa _) gB H6 Ha);obtain⟨x_0,x_1,x_2,x_3,x_4⟩:=gB.c5;have GR:=gB.lt;clear Hj Hb Gt
 go_wp2_with fail
 obtain⟨w2,gw⟩:∃w2,w2=w1.alloc (.cells #[.slice A0 D.fn.length c0,.slice A1 D.fl.length c1,.slice A2 D.nn.length c2,.slice A3 D.nl.length c3,.slice A4 D.ss.length c4] 30):=⟨_,rfl⟩;rw[<-gw] at gD⊢;generalize w1.heap.size=Z at*;clear gw gB H6 Ha x_0 x_1 x_2 x_3 x_4 GR;refine(z1e _ _ _ _ _ D r _ (h.below gD.out.blw) HR).mono ?_
 rintro e w3 ⟨rfl,Hg⟩;have Ht:=h_ (gD.out.below Hg);clear Hg gD;have gS:=Ht.out.X;have Fh:=Ht.out.Z_;have Ga:=Ht.out.R;obtain⟨x_0,x_1,x_2,x_3,x_4⟩:=gS.c5
 cases r
 ·obtain⟨u1,u2⟩:=yZ (D:=D) (.inl hr)
  have hu:D=E:=by rw[<-HE.out];exact u1.symm
  have hv:false=bb:=by rw[<-H9.out];exact u2.symm
  subst hu;subst hv;have HF:=Ht;clear Ht HE H9 hr u1 u2;obtain⟨_,_,hR,hZ,Gb,_,_⟩:=HF.out;obtain⟨z_0,z_1,z_2,z_3,z_4⟩:=hZ.c5;obtain⟨r_0,r_1,r_2,r_3,r_4,r_f0,r_f1,r_f2,r_f3,r_f4⟩:=hR.b5;have Hl:=hR.lt;have Hx:=h_ (fun u0 u1 u2 u3 u4=>HF.out.fin u0 u1 u2 u3 u4);clear hR hZ HF;go_wp2;exact bodyPost_ret (v:= .tuple #[.agg #[.slice A0 D.fn.length c0,.slice A1 D.fl.length c1,.slice A2 D.nn.length c2,.slice A3 D.nl.length c3,.slice A4 D.ss.length c4],.bool false]) (by simp[results,Tryz.results140,go_sem,r_0,r_1,r_2,r_3,r_4,Hl]) rfl ⟨_,_,_,_,_,_,_,_,_,_,_,rfl,(Hx.out _ _ _ _ _).1,(Hx.out _ _ _ _ _).2⟩
 ·by_cases fX:D.ss.length=0
  ·obtain⟨u1,u2⟩:=yZ (D:=D) (.inr fX)
   have hu:D=E:=by rw[<-HE.out];exact u1.symm
   have hv:false=bb:=by rw[<-H9.out];exact u2.symm
   subst hu;subst hv;have HF:=Ht;clear Ht HE H9 hr u1 u2;obtain⟨_,_,hR,hZ,Gb,_,_⟩:=HF.out;obtain⟨z_0,z_1,z_2,z_3,z_4⟩:=hZ.c5;obtain⟨r_0,r_1,r_2,r_3,r_4,r_f0,r_f1,r_f2,r_f3,r_f4⟩:=hR.b5;have Hl:=hR.lt;have Hx:=h_ (fun u0 u1 u2 u3 u4=>HF.out.fin u0 u1 u2 u3 u4);clear hR hZ HF;go_wp2;exact bodyPost_ret (v:= .tuple #[.agg #[.slice A0 D.fn.length c0,.slice A1 D.fl.length c1,.slice A2 D.nn.length c2,.slice A3 D.nl.length c3,.slice A4 D.ss.length c4],.bool false]) (by simp[results,Tryz.results140,go_sem,r_0,r_1,r_2,r_3,r_4,Hl,fX]) rfl ⟨_,_,_,_,_,_,_,_,_,_,_,rfl,(Hx.out _ _ _ _ _).1,(Hx.out _ _ _ _ _).2⟩
  ·obtain⟨k,hk⟩:∃k,D.ss.length=k+1:=⟨D.ss.length -1,by omega⟩
   have BJ:k<D.ss.length:=o_
   have hm:=congrArg List.length Ht.out.own.map;simp at hm
   have UZ:k<fs.length:=o_
   obtain⟨g,hg,hgl,bY⟩:=Ht.out.own.ss.addr o_;subst hg
   have Wq:fs[k].1=D.ss[k]:=by
    have h1:=Ht.out.own.map;have h2:(fs.map Prod.fst)[k]'(by simpa using UZ)=D.ss[k]:=by simp only[h1]
    simpa using h2
   obtain⟨u1,u2⟩:=kQ hr hk D.ss[k] (aac BJ);have hu:E=⟨D.fn,D.fl,D.ss[k].ns,D.ss[k].ls,D.ss.take k⟩:=by rw[<-HE.out];exact u1
   have hv:true=bb:=by rw[<-H9.out];exact u2.symm
   subst hu;subst hv;clear HE H9 u1 u2 hr;have k0:(0:Int)<=(k:Int):=o_
   have k2:(k:Int)<=(c4:Int):=o_
   have hkm:k<1048576:=by have:=gf.out.ss;omega
   have hwk:IntKind.i64.wrap (k:Int)=(k:Int):=aaP _ o_;have rX:=Ht.out.lt;have nX:w.heap.size≠Z:=o_
   have nR:w.heap.size+1≠Z:=o_
   have nB:w.heap.size<=Z:=o_
   have uY:(D.ss.take k).length =k:=by simp;omega
   obtain⟨B5,d5,ev5,_,_,hcell⟩:=h.ss
   cases ev5
   have hB:=hcell o_;obtain⟨b,off,rfl,hb,Hz⟩:=hB;obtain⟨_,_,_,vn,vl,k3,k4,hn,hl⟩:=Hz k BJ;obtain⟨F9,gw⟩:=gf.out.ws k BJ;obtain⟨Av,cv,ev,_⟩:=hn.form;obtain⟨Au,cu,eu,_⟩:=hl.form;subst ev eu;have Hd:=Ht.out.blw;have q3:=(Hd.cell (p:=⟨b,off+k*5+3,none⟩) hb).trans k3;have q4:=(Hd.cell (p:=⟨b,off+k*5+4,none⟩) hb).trans k4;have bQ:=hn.below Hd;have Gq:=hl.below Hd;have bL:=h_ uY;clear uY Wq;generalize D.ss[k]=s at*;clear k3 k4 Hz hcell hn hl Hd;have Ut:=Fh.lt
   go_wp2_with fail
   refine(zR _ _ s.ns s.ls _ bQ Gq F9 gw).mono ?_
   rintro e w4 ⟨An,cn,Al,cl,rfl,gz,H5⟩;have gj:=Ht.out.own.lt;have gx:=Ht.out.below H5;have CL:=gx.Z_;have FJ:=gz.lt;have Hs:w.heap.size+1+1<=w3.heap.size:=by have:=Ga.lt;omega
   have BS:=gx.own.newNow gz Hs (fun k hk FD=>by have:=(FJ k hk).1;have:=(gj k FD).2;omega);have hN:=BS.takeN (k:=k) o_
   have gM:¬qE (.slice A0 D.fn.length c0) (.slice A1 D.fl.length c1) (.slice An s.ns.length cn) (.slice Al s.ls.length cl) (.slice (some ⟨g,0,none⟩) k c4) (fs.take k) Z:=by
    rintro(hz|hz|hz)
    ·exact gx.far (.inl hz)
    ·have:=(FJ _ hz).1;omega
    ·exact gx.far (.inr (.inr (vR hz)))
   obtain⟨w5,GE⟩:∃w5,w5=((w4.setCell ⟨Z,2,none⟩ (.slice An s.ns.length cn)).setCell ⟨Z,3,none⟩ (.slice Al s.ls.length cl)).setCell ⟨Z,4,none⟩ (.slice (some ⟨g,0,none⟩) k c4):=⟨_,rfl⟩
   have HF:Hid (OutSt w v0 v1 v2 v3 (.slice (some ⟨b,off,none⟩) D.ss.length d4) Z (.slice A0 D.fn.length c0) (.slice A1 D.fl.length c1) (.slice An s.ns.length cn) (.slice Al s.ls.length cl) (.slice (some ⟨g,0,none⟩) k c4) ⟨D.fn,D.fl,s.ns,s.ls,D.ss.take k⟩ (fs.take k) w5):=h_
    (GE▸⟨((hN.setFar (p:=⟨Z,2,none⟩) gM _).setFar (p:=⟨Z,3,none⟩) gM _).setFar (p:=⟨Z,4,none⟩) gM _,((gx.X.far (p:=⟨Z,2,none⟩) nX _).far (p:=⟨Z,3,none⟩) nX _).far (p:=⟨Z,4,none⟩) nX _,
     ((gx.R.far (p:=⟨Z,2,none⟩) nR _).far (p:=⟨Z,3,none⟩) nR _).far (p:=⟨Z,4,none⟩) nR _,((CL.set_ 2 _).set_ 3 _).set_ 4 _,rX,gM,((gx.blw.setCell (p:=⟨Z,2,none⟩) nB _).setCell (p:=⟨Z,3,none⟩) nB _).setCell (p:=⟨Z,4,none⟩) nB _⟩)
   obtain⟨z_0,z_1,z_2,z_3,z_4,z_f0,z_f1,z_f2,z_f3,z_f4⟩:=CL.b5;clear hN BS gx Ht gj FJ gM gz H5 gS Fh Ga x_0 x_1 x_2 x_3 x_4 bQ Gq Ut CL q3 q4 hm hk hgl bY BJ
   go_upto_region 7 with (fail)
   rw[<-GE];clear GE z_0 z_1 z_2 z_3 z_4 z_f0 z_f1 z_f2 z_f3 z_f4;obtain⟨_,_,hR,hZ,Gb,_,_⟩:=HF.out;obtain⟨z_0,z_1,z_2,z_3,z_4⟩:=hZ.c5;obtain⟨r_0,r_1,r_2,r_3,r_4,r_f0,r_f1,r_f2,r_f3,r_f4⟩:=hR.b5;have Hl:=hR.lt;have Hx:=h_ (fun u0 u1 u2 u3 u4=>HF.out.fin u0 u1 u2 u3 u4);clear hR hZ HF;go_wp2
   exact bodyPost_ret (v:= .tuple #[.agg #[.slice A0 D.fn.length c0,.slice A1 D.fl.length c1,.slice An s.ns.length cn,.slice Al s.ls.length cl,.slice (some ⟨g,0,none⟩) k c4],.bool true]) (by simp[results,Tryz.results140,go_sem,r_0,r_1,r_2,r_3,r_4,Hl]) rfl
    ⟨A0,c0,A1,c1,An,cn,Al,cl,some ⟨g,0,none⟩,c4,fs.take k,by simp only[bL.out],by simp only[bL.out];exact(Hx.out _ _ _ _ _).1,(Hx.out _ _ _ _ _).2⟩
noncomputable def zS (D:Dr) (kd a b:Int):Bool:=okD D&&(decide (D.ss.length<40)&&ko D.nn D.nl kd a b)
noncomputable def qJ (D:Dr) (kd a b:Int):Dr:=if zS D kd a b=true then⟨D.fn,D.fl,yz D.nn D.nl kd a b,yD D.nn D.nl kd a b,D.ss++[⟨kd,a,b,D.nn,D.nl⟩]⟩ else D
theorem yu {D:Dr} {kd a b:Int} (h:zS D kd a b=false):qJ D kd a b=D:=by unfold qJ;rw[h];rfl
theorem kP {D:Dr} {kd a b:Int} (h:zS D kd a b=true):qJ D kd a b=⟨D.fn,D.fl,yz D.nn D.nl kd a b,yD D.nn D.nl kd a b,D.ss++[⟨kd,a,b,D.nn,D.nl⟩]⟩:=by unfold qJ;rw[h];rfl
theorem OwnD.pushNow {base:Nat} {w w':World} {a b c d e e' c' d':Value} {D:Dr} {fs:List SF} {N L:List Pr} {x y z:Int} (h:OwnD base w a b c d e D fs) (hw:OwnW base w c' d' N L) (hf:∀k,zp c' d' k->¬qE a b c d e fs k)
  (hr:w'.ownsRow base 113 5 e' (fs.length+1) ((fs++[((⟨x,y,z,D.nn,D.nl⟩,c,d):SF)]).flatMap sfc)) (hg:w.grownBy w' e.ownBlock) (hv:e'.ownBlock=e.ownBlock∨e'.ownBlock=some w.heap.size):
  OwnD base w' a b c' d' e' ⟨D.fn,D.fl,N,L,D.ss++[⟨x,y,z,D.nn,D.nl⟩]⟩ (fs++[(⟨x,y,z,D.nn,D.nl⟩,c,d)]):=by
 have ht:Turns (fun b=>e.ownBlock=some b) w w':=Turns.ofGrown hg (fun k hk=>hk)
 refine⟨h.first.turned ht (fun k hk e1=>h.f_s k hk (.inl e1)),hw.turned ht (fun k hk e1=>hf k hk (.inr (.inr (.inl e1)))),
  h.ss.snoc hr hg hv h.now (fun k hk e1=>h.n_s k hk (.inl e1)) (fun j hj k hk FD=>h.n_s k hk (.inr ⟨j,hj,FD⟩)),by rw[aaz,h.map];rfl,fun k hk FD=>hf k FD (.inl hk),fun k hk FD=>?_,fun k hk FD=>?_⟩
 ·rcases yq hv FD with h1|h1|h1
  ·exact h.f_s k hk h1
  ·have:=(h.first.lt k hk).2;omega
  ·exact h.f_n k hk h1
 ·rcases yq hv FD with h1|h1|h1
  ·exact hf k hk (.inr (.inr h1))
  ·have:=(hw.lt k hk).2;omega
  ·exact hf k hk (.inr (.inl h1))
theorem Zs {P:Program} {w:World} {ops:Array Oper} {o:Oper} {a:Act} {K:Act->World->Prop} {Q:Exit->Act->World->Prop} {E:Prop} (Fu:o.guard=none) (s x:Operand) (t:TypeId)
  (ho:o.op= .call { callee:= .builtin .append,args:= #[s,x],argTypes:= #[t,t] })
  (base:Nat) (e:TypeId) (i:TypeInfo) (ht:P.underlying t=some (.slice e)) (hi:P.info? e=some i) (hz:i.zero=some (.agg #[.int .i64 0,.int .i64 0,.int .i64 0,.slice none 0 0,.slice none 0 0])) (Hy:i.size=5) (gp:i.bytes=72)
  (v:Value) (fs:List SF) (f:SF) (ad:Addr) (c:Nat) (hs:a.eval s=v) (hx:a.eval x= .slice (some ad) 1 c) (hown:w.ownsRow base e 5 v fs.length (fs.flatMap sfc)) (hn:∀(j:Nat) (u:Value),(sfc f)[j]? =some u->w.cell? (ad.add j)=some u)
  (FW:∀u∈sfc f,u.oneCell'=true) (Hm:fs.length<=1048576) (Hs:base<=w.heap.size)
  (h:∀A c' w',w'.ownsRow base e 5 (.slice A (fs.length+1) c') (fs.length+1) ((fs++[f]).flatMap sfc)->w.grownBy w' v.ownBlock->((Value.slice A (fs.length+1) c').ownBlock =v.ownBlock∨(Value.slice A (fs.length+1) c').ownBlock =some w.heap.size)->K (a.put o.dst (.slice A (fs.length+1) c')) w'):
  if Region.wanted o (yielded ops a.tmps)=true then Oper.wp P o a w K Q else E:=by
 have hw:Region.wanted o (yielded ops a.tmps)=true:=by simp[Region.wanted,Fu]
 rw[aao hw];obtain⟨A,c',w',fj,h2,h3,h4⟩:=xt (ty:=o.type) (c:=c) ht hi hz Hy gp hown hn FW Hm Hs;unfold Oper.wp execOp;simp only[ho,resolve,invoke,builtin,Sem.run_bind,Sem.run_pure,aaY,List.map_toArray,aaS,aaT,hs,hx,fj]
 exact h A c' w' h2 h3 h4
theorem z3I (v0 v1 v2 v3 v4:Value) (D:Dr) (kd a b:Int) (w:World) (h:RD w v0 v1 v2 v3 v4 D) (hle:DrLe D):
  Calls Tryz.prog 106 #[.agg #[v0,v1,v2,v3,v4],.int .i64 kd,.int .i64 a,.int .i64 b] w (z5b (qJ D kd a b) (zS D kd a b) w):=by
 obtain⟨r,hr⟩:∃r,okD D=r:=⟨_,rfl⟩;have HR:=h_ hr;have gf:=h_ hle;obtain⟨B4,d4,ev4,_⟩:=h.ss;subst ev4;obtain⟨i0,hi,iz0,iz1,iz2⟩:=info_parts VZ;obtain⟨E,hE⟩:∃E,qJ D kd a b=E:=⟨_,rfl⟩;obtain⟨bb,H4⟩:∃bb,zS D kd a b=bb:=⟨_,rfl⟩;rw[hE,H4];have HE:=h_ hE;have H9:=h_ H4;clear hle hE H4
 go_enter Tryz.func106,Tryz.ntmps106
 go_wp2_with fail
 refine(kY _ _ _ _ _ D _ (h.below bel_) gf.out).mono ?_
 rintro e w1 ⟨A0,c0,A1,c1,A2,c2,A3,c3,A4,c4,fs,rfl,Hj,Hb⟩;have gB:Blk w1 w.heap.size 30 #[v0,v1,v2,v3,(.slice B4 D.ss.length d4)]:=Blk.below ((Blk.newAt rfl).alloc _) Hb sz_;have H6:Blk w1 (w.heap.size+1) 30 z5_:=Blk.below (Blk.newAt (by simp)) Hb sz_;have Ha:Below w.heap.size w w1:=bel_
 have Gt:OwnD (w.heap.size+1+1) w1 (.slice A0 D.fn.length c0) (.slice A1 D.fl.length c1) (.slice A2 D.nn.length c2) (.slice A3 D.nl.length c3) (.slice A4 D.ss.length c4) D fs:=by simpa using Hj
 have gD:=h_ (OutSt.start Gt (aaa _) gB H6 Ha);obtain⟨x_0,x_1,x_2,x_3,x_4⟩:=gB.c5;have GR:=gB.lt;clear Hj Hb Gt
 go_wp2_with fail
 obtain⟨w2,gw⟩:∃w2,w2=w1.alloc (.cells #[.slice A0 D.fn.length c0,.slice A1 D.fl.length c1,.slice A2 D.nn.length c2,.slice A3 D.nl.length c3,.slice A4 D.ss.length c4] 30):=⟨_,rfl⟩;rw[<-gw] at gD⊢;generalize w1.heap.size=Z at*;clear gw gB H6 Ha x_0 x_1 x_2 x_3 x_4 GR;refine(Z0 _ _ _ _ _ D r _ (h.below gD.out.blw) HR).mono ?_
 rintro e w3 ⟨rfl,Hg⟩;have Ht:=h_ (gD.out.below Hg);clear Hg gD;have gS:=Ht.out.X;have Fh:=Ht.out.Z_;have Ga:=Ht.out.R;obtain⟨x_0,x_1,x_2,x_3,x_4⟩:=gS.c5
 cases r
 ·have fF:zS D kd a b=false:=by unfold zS;rw[hr];rfl
  have hu:D=E:=by rw[<-HE.out];exact(yu fF).symm
  have hv:false=bb:=by rw[<-H9.out];exact fF.symm
  subst hu;subst hv;have HF:=Ht;clear Ht HE H9 fF;clear hr;obtain⟨_,_,hR,hZ,Gb,_,_⟩:=HF.out;obtain⟨z_0,z_1,z_2,z_3,z_4⟩:=hZ.c5;obtain⟨r_0,r_1,r_2,r_3,r_4,r_f0,r_f1,r_f2,r_f3,r_f4⟩:=hR.b5;have Hl:=hR.lt;have Hx:=h_ (fun u0 u1 u2 u3 u4=>HF.out.fin u0 u1 u2 u3 u4);clear hR hZ HF;go_wp2;exact bodyPost_ret (v:= .tuple #[.agg #[.slice A0 D.fn.length c0,.slice A1 D.fl.length c1,.slice A2 D.nn.length c2,.slice A3 D.nl.length c3,.slice A4 D.ss.length c4],.bool false]) (by simp[results,Tryz.results106,go_sem,r_0,r_1,r_2,r_3,r_4,Hl]) rfl ⟨_,_,_,_,_,_,_,_,_,_,_,rfl,(Hx.out _ _ _ _ _).1,(Hx.out _ _ _ _ _).2⟩
 ·by_cases Mp:¬D.ss.length<40
  ·have fF:zS D kd a b=false:=by unfold zS;rw[hr,aaO Mp];rfl
   have Ns:D.ss.length=40:=by
    have h41:D.ss.length<=40:=by
     unfold okD at hr;simp only[aaG,aa4] at hr
     exact hr.2.1
    omega
   have hu:D=E:=by rw[<-HE.out];exact(yu fF).symm
   have hv:false=bb:=by rw[<-H9.out];exact fF.symm
   subst hu;subst hv;have HF:=Ht;clear Ht HE H9 fF;clear hr Mp;obtain⟨_,_,hR,hZ,Gb,_,_⟩:=HF.out;obtain⟨z_0,z_1,z_2,z_3,z_4⟩:=hZ.c5;obtain⟨r_0,r_1,r_2,r_3,r_4,r_f0,r_f1,r_f2,r_f3,r_f4⟩:=hR.b5;have Hl:=hR.lt;have Hx:=h_ (fun u0 u1 u2 u3 u4=>HF.out.fin u0 u1 u2 u3 u4);clear hR hZ HF;go_wp2;exact bodyPost_ret (v:= .tuple #[.agg #[.slice A0 D.fn.length c0,.slice A1 D.fl.length c1,.slice A2 D.nn.length c2,.slice A3 D.nl.length c3,.slice A4 D.ss.length c4],.bool false]) (by simp[results,Tryz.results106,go_sem,r_0,r_1,r_2,r_3,r_4,Hl,Ns]) rfl ⟨_,_,_,_,_,_,_,_,_,_,_,rfl,(Hx.out _ _ _ _ _).1,(Hx.out _ _ _ _ _).2⟩
  ·have rR:D.ss.length<40:=o_
   obtain⟨N,hN⟩:∃N,yz D.nn D.nl kd a b=N:=⟨_,rfl⟩;obtain⟨L,hL⟩:∃L,yD D.nn D.nl kd a b=L:=⟨_,rfl⟩;obtain⟨sb,Wr⟩:∃sb,ko D.nn D.nl kd a b=sb:=⟨_,rfl⟩;have H1:=h_ hN;have H2:=h_ hL;have H3:=h_ Wr;have U1:=Fh.lt;have BQ:=(h.below Ht.out.blw).nn;have fQ:=(h.below Ht.out.blw).nl;clear Mp;have Fq:=h_ hr;clear hr hN hL Wr
   go_wp2_with fail
   refine(z3r _ _ D.nn D.nl N L kd a b sb _ BQ fQ gf.out.nn gf.out.nl H1 H2 H3).mono ?_
   rintro e w4 ⟨An,cn,Al,cl,rfl,gz,H5⟩;have gj:=Ht.out.own.lt;have gx:=Ht.out.below H5;have Hs:w.heap.size+1+1<=w3.heap.size:=by have:=Ga.lt;omega
   have FJ:=gz.lt;have hm:=congrArg List.length gx.own.map;simp at hm
   have rX:=gx.lt;obtain⟨w5,GE⟩:∃w5,w5=w4.alloc (.cells #[.slice An N.length cn,.slice Al L.length cl] 27):=⟨_,rfl⟩;have gk:Below w4.heap.size w4 w5:=GE▸(aaj _ _).alloc (aaa _) _;have FP:Blk w5 w4.heap.size 27 #[.slice An N.length cn,.slice Al L.length cl]:=GE▸Blk.newAt rfl;have Gu:=h_ (gx.below gk);have fk:=h_ ((gz.kept gk).mono Hs);have U2:w3.heap.size<=w4.heap.size:=H5.size;have mt:Hid (∀k,zp (.slice An N.length cn) (.slice Al L.length cl) k->¬qE (.slice A0 D.fn.length c0) (.slice A1 D.fl.length c1) (.slice A2 D.nn.length c2) (.slice A3 D.nl.length c3) (.slice A4 D.ss.length c4) fs k):=h_ (fun k hk FD=>by have:=(FJ k hk).1;have:=(gj k FD).2;omega);have M7:=Gu.out.Z_.lt;have U3:Hid (¬w4.heap.size=Z):=h_ (by have:=gx.Z_.lt;omega);have U4:Hid (zp (.slice An N.length cn) (.slice Al L.length cl) Z->False):=h_ (fun hz=>by have:=(FJ _ hz).1;have:=U1;omega);have HLO:Hid (∀k,qE (.slice A0 D.fn.length c0) (.slice A1 D.fl.length c1) (.slice A2 D.nn.length c2) (.slice A3 D.nl.length c3) (.slice A4 D.ss.length c4) fs k->k<w4.heap.size):=h_ (fun k hk=>by have:=(gj k hk).2;omega);clear gz H5 gj FJ gx Ht gS Fh Ga BQ fQ x_0 x_1 x_2 x_3 x_4
   go_upto_region 5 with (fail)
   rw[<-GE];generalize w4.heap.size=T at*;clear GE gk
   cases sb
   ·have fF:zS D kd a b=false:=by unfold zS;rw[H3.out,Bool.and_false,Bool.and_false]
    have hu:D=E:=by rw[<-HE.out];exact(yu fF).symm
    have hv:false=bb:=by rw[<-H9.out];exact fF.symm
    subst hu;subst hv;have HF:=Gu;clear Gu HE H9 fF;clear Fq H1 H2 H3 FP fk mt Hs hm U2;obtain⟨_,_,hR,hZ,Gb,_,_⟩:=HF.out;obtain⟨z_0,z_1,z_2,z_3,z_4⟩:=hZ.c5;obtain⟨r_0,r_1,r_2,r_3,r_4,r_f0,r_f1,r_f2,r_f3,r_f4⟩:=hR.b5;have Hl:=hR.lt;have Hx:=h_ (fun u0 u1 u2 u3 u4=>HF.out.fin u0 u1 u2 u3 u4);clear hR hZ HF;go_wp2;exact bodyPost_ret (v:= .tuple #[.agg #[.slice A0 D.fn.length c0,.slice A1 D.fl.length c1,.slice A2 D.nn.length c2,.slice A3 D.nl.length c3,.slice A4 D.ss.length c4],.bool false]) (by simp[results,Tryz.results106,go_sem,r_0,r_1,r_2,r_3,r_4,Hl]) rfl ⟨_,_,_,_,_,_,_,_,_,_,_,rfl,(Hx.out _ _ _ _ _).1,(Hx.out _ _ _ _ _).2⟩
   ·have Cn:zS D kd a b=true:=by unfold zS;rw[Fq.out,H3.out,aaQ rR];rfl
    have hu:E=⟨D.fn,D.fl,N,L,D.ss++[⟨kd,a,b,D.nn,D.nl⟩]⟩:=by rw[<-HE.out,kP Cn,H1.out,H2.out]
    have hv:true=bb:=by rw[<-H9.out];exact Cn.symm
    subst hu;subst hv;clear HE H9 Cn Fq H1 H2 H3;have Nt:=Gu.out.Z_;have mZ:=Gu.out.X;obtain⟨z_0,z_1,z_2,z_3,z_4,z_f0,z_f1,z_f2,z_f3,z_f4⟩:=Nt.b5;obtain⟨x_0,x_1,x_2,x_3,x_4⟩:=mZ.c5;obtain⟨t_0,t_1⟩:=FP.c2;have fR:=mZ.lt;have BR:fs.length<=1048576:=o_
    have HM:=h_ hm;clear hm;have HTZ:Hid (¬T=Z):=U3;have Uo:Hid (zp (.slice An N.length cn) (.slice Al L.length cl) Z->False):=U4;have U5:Hid (zp (.slice A2 D.nn.length c2) (.slice A3 D.nl.length c3) Z->False):=h_ (fun hz=>Gu.out.far (.inr (.inl hz)));have Hw:=Gu.out.own.alloc (.cells #[.int .i64 kd,.int .i64 a,.int .i64 b,.slice A2 D.nn.length c2,.slice A3 D.nl.length c3] 113);have ci:=fk.out.alloc' (.cells #[.int .i64 kd,.int .i64 a,.int .i64 b,.slice A2 D.nn.length c2,.slice A3 D.nl.length c3] 113);have Nu:=h_ Hw;have HWN:=h_ ci;have cj:=h_ (Gu.out.X.alloc (.cells #[.int .i64 kd,.int .i64 a,.int .i64 b,.slice A2 D.nn.length c2,.slice A3 D.nl.length c3] 113));have HR6:=h_ (Gu.out.R.alloc (.cells #[.int .i64 kd,.int .i64 a,.int .i64 b,.slice A2 D.nn.length c2,.slice A3 D.nl.length c3] 113));have HZ6:=h_ (Nt.alloc (.cells #[.int .i64 kd,.int .i64 a,.int .i64 b,.slice A2 D.nn.length c2,.slice A3 D.nl.length c3] 113));have HT6:=h_ (FP.alloc (.cells #[.int .i64 kd,.int .i64 a,.int .i64 b,.slice A2 D.nn.length c2,.slice A3 D.nl.length c3] 113));have Nv:=h_ (Gu.out.blw.alloc Gu.out.blw.size (.cells #[.int .i64 kd,.int .i64 a,.int .i64 b,.slice A2 D.nn.length c2,.slice A3 D.nl.length c3] 113));have Cf:Hid (∀k,(Value.slice A4 D.ss.length c4).ownBlock =some k->w.heap.size+1+1<=k/\k≠Z/\k<T):=h_ (fun k hk=>⟨(Gu.out.own.lt k (.inr (.inr (.inl hk)))).1,fun e=>Gu.out.far (e▸ .inr (.inr (.inl hk))),HLO.out k (.inr (.inr (.inl hk)))⟩)
    have U6:Hid (∀(j:Nat) (u:Value),(sfc ((⟨kd,a,b,D.nn,D.nl⟩,.slice A2 D.nn.length c2,.slice A3 D.nl.length c3):SF))[j]? =some u->(w5.alloc (.cells #[.int .i64 kd,.int .i64 a,.int .i64 b,.slice A2 D.nn.length c2,.slice A3 D.nl.length c3] 113)).cell? ((⟨w5.heap.size,0,none⟩:Addr).add j)=some u):=h_ (JI rfl rfl);have Ng:w.heap.size+1+1<=(w5.alloc (.cells #[.int .i64 kd,.int .i64 a,.int .i64 b,.slice A2 D.nn.length c2,.slice A3 D.nl.length c3] 113)).heap.size :=by simp;omega
    have HRW:Hid (World.ownsRow (w5.alloc (.cells #[.int .i64 kd,.int .i64 a,.int .i64 b,.slice A2 D.nn.length c2,.slice A3 D.nl.length c3] 113)) (w.heap.size+1+1) 113 5 (.slice A4 D.ss.length c4) fs.length (fs.flatMap sfc)):=h_ Nu.out.ss.row;clear Hw ci mZ
    go_wp2_with (at_builtin;refine vU rfl _ _ _ rfl (w.heap.size+1+1) 113 i0 Tryz.underlying28 hi iz0 iz1 iz2 (.slice A4 D.ss.length c4) fs (⟨kd,a,b,D.nn,D.nl⟩,.slice A2 D.nn.length c2,.slice A3 D.nl.length c3) ⟨w5.heap.size,0,none⟩ 1 rfl rfl HRW.out U6.out (z1j _ _ _ _ _ _ _ rfl rfl) BR Ng ?_)
    intro A5 c5 w6 hr6 fD RQ;have bG:=Nu.out.pushNow HWN.out mt.out (by rw[aaX];simpa using hr6) fD (by simpa using RQ);have bB:=cj.out.grownR fD (fun k hk e=>by have:=(Cf.out k hk).1;omega);have Fg:=HR6.out.grownR fD (fun k hk e=>by have:=(Cf.out k hk).1;omega);have RU:=HZ6.out.grownR fD (fun k hk e=>(Cf.out k hk).2.1 e);have bU:=HT6.out.grownR fD (fun k hk e=>by have:=(Cf.out k hk).2.2;omega);have gJ:=Nv.out.grown fD Nv.out.size (fun k hk=>by have:=(Cf.out k hk).1;omega);have hv6:(Value.slice A5 (fs.length+1) c5).ownBlock =(Value.slice A4 D.ss.length c4).ownBlock ∨(Value.slice A5 (fs.length+1) c5).ownBlock =some (w5.heap.size+1):=by simpa using RQ
    have gM:¬qE (.slice A0 D.fn.length c0) (.slice A1 D.fl.length c1) (.slice An N.length cn) (.slice Al L.length cl) (.slice A5 (fs.length+1) c5) (fs++[(⟨kd,a,b,D.nn,D.nl⟩,.slice A2 D.nn.length c2,.slice A3 D.nl.length c3)]) Z:=by
     rintro(hz|hz|hz)
     ·exact Gu.out.far (.inl hz)
     ·have:=Uo.out hz;exact this
     ·rcases yq hv6 hz with h1|h1|h1
      ·exact Gu.out.far (.inr (.inr h1))
      ·omega
      ·exact U5.out h1
    have nX:w.heap.size≠Z:=o_
    have nR:w.heap.size+1≠Z:=o_
    have nB:w.heap.size<=Z:=o_
    obtain⟨w7,BG⟩:∃w7,w7=((w6.setCell ⟨Z,4,none⟩ (.slice A5 (fs.length+1) c5)).setCell ⟨Z,2,none⟩ (.slice An N.length cn)).setCell ⟨Z,3,none⟩ (.slice Al L.length cl):=⟨_,rfl⟩
    have HF:Hid (OutSt w v0 v1 v2 v3 (.slice B4 D.ss.length d4) Z (.slice A0 D.fn.length c0) (.slice A1 D.fl.length c1) (.slice An N.length cn) (.slice Al L.length cl) (.slice A5 (fs.length+1) c5) ⟨D.fn,D.fl,N,L,D.ss++[⟨kd,a,b,D.nn,D.nl⟩]⟩ (fs++[(⟨kd,a,b,D.nn,D.nl⟩,.slice A2 D.nn.length c2,.slice A3 D.nl.length c3)]) w7):=h_
     (BG▸⟨((bG.setFar (p:=⟨Z,4,none⟩) gM _).setFar (p:=⟨Z,2,none⟩) gM _).setFar (p:=⟨Z,3,none⟩) gM _,((bB.far (p:=⟨Z,4,none⟩) nX _).far (p:=⟨Z,2,none⟩) nX _).far (p:=⟨Z,3,none⟩) nX _,
      ((Fg.far (p:=⟨Z,4,none⟩) nR _).far (p:=⟨Z,2,none⟩) nR _).far (p:=⟨Z,3,none⟩) nR _,((RU.set_ 4 _).set_ 2 _).set_ 3 _,rX,gM,((gJ.setCell (p:=⟨Z,4,none⟩) nB _).setCell (p:=⟨Z,2,none⟩) nB _).setCell (p:=⟨Z,3,none⟩) nB _⟩)
    clear z_0 z_1 z_2 z_3 z_4 z_f0 z_f1 z_f2 z_f3 z_f4 t_0 t_1 x_0 x_1 x_2 x_3 x_4;obtain⟨z_0,z_1,z_2,z_3,z_4,z_f0,z_f1,z_f2,z_f3,z_f4⟩:=RU.b5;obtain⟨t_0,t_1⟩:=bU.c2;clear bG bB Fg RU bU gJ gM
    go_upto_region 9 with (fail)
    rw[<-BG];clear BG z_0 z_1 z_2 z_3 z_4 z_f0 z_f1 z_f2 z_f3 z_f4 t_0 t_1;have Hm:(D.ss++[(⟨kd,a,b,D.nn,D.nl⟩:Sp)]).length =fs.length+1:=by have:=HM.out;simp;omega
    have fN:=h_ Hm;obtain⟨_,_,hR,hZ,Gb,_,_⟩:=HF.out;obtain⟨z_0,z_1,z_2,z_3,z_4⟩:=hZ.c5;obtain⟨r_0,r_1,r_2,r_3,r_4,r_f0,r_f1,r_f2,r_f3,r_f4⟩:=hR.b5;have Hl:=hR.lt;have Hx:=h_ (fun u0 u1 u2 u3 u4=>HF.out.fin u0 u1 u2 u3 u4);clear hR hZ HF Hm;go_wp2
    exact bodyPost_ret (v:= .tuple #[.agg #[.slice A0 D.fn.length c0,.slice A1 D.fl.length c1,.slice An N.length cn,.slice Al L.length cl,.slice A5 (fs.length+1) c5],.bool true]) (by simp[results,Tryz.results106,go_sem,r_0,r_1,r_2,r_3,r_4,Hl]) rfl
     ⟨A0,c0,A1,c1,An,cn,Al,cl,A5,c5,fs++[(⟨kd,a,b,D.nn,D.nl⟩,.slice A2 D.nn.length c2,.slice A3 D.nl.length c3)],by simp only[fN.out],by simp only[fN.out];exact(Hx.out _ _ _ _ _).1,(Hx.out _ _ _ _ _).2⟩
theorem JS (v0 v1 v2 v3 v4:Value) (D:Dr) (kd a b:Int) (w:World) (h:RD w v0 v1 v2 v3 v4 D) (hle:DrLe D):
  Calls Tryz.prog 139 #[.agg #[v0,v1,v2,v3,v4],.int .i64 kd,.int .i64 a,.int .i64 b] w (z5b (qJ D kd a b) (zS D kd a b) w):=by
 obtain⟨r,hr⟩:∃r,okD D=r:=⟨_,rfl⟩;have HR:=h_ hr;have gf:=h_ hle;obtain⟨B4,d4,ev4,_⟩:=h.ss;subst ev4;obtain⟨i0,hi,iz0,iz1,iz2⟩:=info_parts VZ;obtain⟨E,hE⟩:∃E,qJ D kd a b=E:=⟨_,rfl⟩;obtain⟨bb,H4⟩:∃bb,zS D kd a b=bb:=⟨_,rfl⟩;rw[hE,H4];have HE:=h_ hE;have H9:=h_ H4;clear hle hE H4
 go_enter Tryz.func139,Tryz.ntmps139
 go_wp2_with fail
 refine(QM _ _ _ _ _ D _ (h.below bel_) gf.out).mono ?_
 rintro e w1 ⟨A0,c0,A1,c1,A2,c2,A3,c3,A4,c4,fs,rfl,Hj,Hb⟩;have gB:Blk w1 w.heap.size 30 #[v0,v1,v2,v3,(.slice B4 D.ss.length d4)]:=Blk.below ((Blk.newAt rfl).alloc _) Hb sz_;have H6:Blk w1 (w.heap.size+1) 30 z5_:=Blk.below (Blk.newAt (by simp)) Hb sz_;have Ha:Below w.heap.size w w1:=bel_
 have Gt:OwnD (w.heap.size+1+1) w1 (.slice A0 D.fn.length c0) (.slice A1 D.fl.length c1) (.slice A2 D.nn.length c2) (.slice A3 D.nl.length c3) (.slice A4 D.ss.length c4) D fs:=by simpa using Hj
 have gD:=h_ (OutSt.start Gt (aaa _) gB H6 Ha);obtain⟨x_0,x_1,x_2,x_3,x_4⟩:=gB.c5;have GR:=gB.lt;clear Hj Hb Gt
 go_wp2_with fail
 obtain⟨w2,gw⟩:∃w2,w2=w1.alloc (.cells #[.slice A0 D.fn.length c0,.slice A1 D.fl.length c1,.slice A2 D.nn.length c2,.slice A3 D.nl.length c3,.slice A4 D.ss.length c4] 30):=⟨_,rfl⟩;rw[<-gw] at gD⊢;generalize w1.heap.size=Z at*;clear gw gB H6 Ha x_0 x_1 x_2 x_3 x_4 GR;refine(z1e _ _ _ _ _ D r _ (h.below gD.out.blw) HR).mono ?_
 rintro e w3 ⟨rfl,Hg⟩;have Ht:=h_ (gD.out.below Hg);clear Hg gD;have gS:=Ht.out.X;have Fh:=Ht.out.Z_;have Ga:=Ht.out.R;obtain⟨x_0,x_1,x_2,x_3,x_4⟩:=gS.c5
 cases r
 ·have fF:zS D kd a b=false:=by unfold zS;rw[hr];rfl
  have hu:D=E:=by rw[<-HE.out];exact(yu fF).symm
  have hv:false=bb:=by rw[<-H9.out];exact fF.symm
  subst hu;subst hv;have HF:=Ht;clear Ht HE H9 fF;clear hr;obtain⟨_,_,hR,hZ,Gb,_,_⟩:=HF.out;obtain⟨z_0,z_1,z_2,z_3,z_4⟩:=hZ.c5;obtain⟨r_0,r_1,r_2,r_3,r_4,r_f0,r_f1,r_f2,r_f3,r_f4⟩:=hR.b5;have Hl:=hR.lt;have Hx:=h_ (fun u0 u1 u2 u3 u4=>HF.out.fin u0 u1 u2 u3 u4);clear hR hZ HF;go_wp2;exact bodyPost_ret (v:= .tuple #[.agg #[.slice A0 D.fn.length c0,.slice A1 D.fl.length c1,.slice A2 D.nn.length c2,.slice A3 D.nl.length c3,.slice A4 D.ss.length c4],.bool false]) (by simp[results,Tryz.results139,go_sem,r_0,r_1,r_2,r_3,r_4,Hl]) rfl ⟨_,_,_,_,_,_,_,_,_,_,_,rfl,(Hx.out _ _ _ _ _).1,(Hx.out _ _ _ _ _).2⟩
 ·by_cases Mp:¬D.ss.length<40
  ·have fF:zS D kd a b=false:=by unfold zS;rw[hr,aaO Mp];rfl
   have Ns:D.ss.length=40:=by
    have h41:D.ss.length<=40:=by
     unfold okD at hr;simp only[aaG,aa4] at hr
     exact hr.2.1
    omega
   have hu:D=E:=by rw[<-HE.out];exact(yu fF).symm
   have hv:false=bb:=by rw[<-H9.out];exact fF.symm
   subst hu;subst hv;have HF:=Ht;clear Ht HE H9 fF;clear hr Mp;obtain⟨_,_,hR,hZ,Gb,_,_⟩:=HF.out;obtain⟨z_0,z_1,z_2,z_3,z_4⟩:=hZ.c5;obtain⟨r_0,r_1,r_2,r_3,r_4,r_f0,r_f1,r_f2,r_f3,r_f4⟩:=hR.b5;have Hl:=hR.lt;have Hx:=h_ (fun u0 u1 u2 u3 u4=>HF.out.fin u0 u1 u2 u3 u4);clear hR hZ HF;go_wp2;exact bodyPost_ret (v:= .tuple #[.agg #[.slice A0 D.fn.length c0,.slice A1 D.fl.length c1,.slice A2 D.nn.length c2,.slice A3 D.nl.length c3,.slice A4 D.ss.length c4],.bool false]) (by simp[results,Tryz.results139,go_sem,r_0,r_1,r_2,r_3,r_4,Hl,Ns]) rfl ⟨_,_,_,_,_,_,_,_,_,_,_,rfl,(Hx.out _ _ _ _ _).1,(Hx.out _ _ _ _ _).2⟩
  ·have rR:D.ss.length<40:=o_
   have g2:((D.ss.length:Int)==40)=false:=beq_eq_false_iff_ne.2 o_;obtain⟨N,hN⟩:∃N,yz D.nn D.nl kd a b=N:=⟨_,rfl⟩;obtain⟨L,hL⟩:∃L,yD D.nn D.nl kd a b=L:=⟨_,rfl⟩;obtain⟨sb,Wr⟩:∃sb,ko D.nn D.nl kd a b=sb:=⟨_,rfl⟩;have H1:=h_ hN;have H2:=h_ hL;have H3:=h_ Wr;have U1:=Fh.lt;have BQ:=(h.below Ht.out.blw).nn;have fQ:=(h.below Ht.out.blw).nl;clear Mp;have Fq:=h_ hr;clear hr hN hL Wr
   go_wp2_with fail
   refine(z1Y _ _ D.nn D.nl N L kd a b sb _ BQ fQ gf.out.nn gf.out.nl H1 H2 H3).mono ?_
   rintro e w4 ⟨An,cn,Al,cl,rfl,gz,H5⟩;have gj:=Ht.out.own.lt;have gx:=Ht.out.below H5;have Hs:w.heap.size+1+1<=w3.heap.size:=by have:=Ga.lt;omega
   have FJ:=gz.lt;have hm:=congrArg List.length gx.own.map;simp at hm
   have rX:=gx.lt;obtain⟨w5,GE⟩:∃w5,w5=w4.alloc (.cells #[.slice An N.length cn,.slice Al L.length cl] 27):=⟨_,rfl⟩;have gk:Below w4.heap.size w4 w5:=GE▸(aaj _ _).alloc (aaa _) _;have FP:Blk w5 w4.heap.size 27 #[.slice An N.length cn,.slice Al L.length cl]:=GE▸Blk.newAt rfl;have Gu:=h_ (gx.below gk);have fk:=h_ ((gz.kept gk).mono Hs);have U2:w3.heap.size<=w4.heap.size:=H5.size;have mt:Hid (∀k,zp (.slice An N.length cn) (.slice Al L.length cl) k->¬qE (.slice A0 D.fn.length c0) (.slice A1 D.fl.length c1) (.slice A2 D.nn.length c2) (.slice A3 D.nl.length c3) (.slice A4 D.ss.length c4) fs k):=h_ (fun k hk FD=>by have:=(FJ k hk).1;have:=(gj k FD).2;omega);have HL4:Hid (∀k,zp (.slice An N.length cn) (.slice Al L.length cl) k->k<w4.heap.size):=h_ (fun k hk=>(FJ k hk).2);have M7:=Gu.out.Z_.lt;have U3:Hid (¬w4.heap.size=Z):=h_ (by have:=gx.Z_.lt;omega);have U4:Hid (zp (.slice An N.length cn) (.slice Al L.length cl) Z->False):=h_ (fun hz=>by have:=(FJ _ hz).1;have:=U1;omega);have HLO:Hid (∀k,qE (.slice A0 D.fn.length c0) (.slice A1 D.fl.length c1) (.slice A2 D.nn.length c2) (.slice A3 D.nl.length c3) (.slice A4 D.ss.length c4) fs k->k<w4.heap.size):=h_ (fun k hk=>by have:=(gj k hk).2;omega);clear gz H5 gj FJ gx Ht gS Fh Ga BQ fQ x_0 x_1 x_2 x_3 x_4
   go_upto_region 5 with (fail)
   rw[<-GE];generalize w4.heap.size=T at*;clear GE gk
   cases sb
   ·have fF:zS D kd a b=false:=by unfold zS;rw[H3.out,Bool.and_false,Bool.and_false]
    have hu:D=E:=by rw[<-HE.out];exact(yu fF).symm
    have hv:false=bb:=by rw[<-H9.out];exact fF.symm
    subst hu;subst hv;have HF:=Gu;clear Gu HE H9 fF;clear Fq H1 H2 H3 FP fk mt HL4 Hs hm U2;obtain⟨_,_,hR,hZ,Gb,_,_⟩:=HF.out;obtain⟨z_0,z_1,z_2,z_3,z_4⟩:=hZ.c5;obtain⟨r_0,r_1,r_2,r_3,r_4,r_f0,r_f1,r_f2,r_f3,r_f4⟩:=hR.b5;have Hl:=hR.lt;have Hx:=h_ (fun u0 u1 u2 u3 u4=>HF.out.fin u0 u1 u2 u3 u4);clear hR hZ HF;go_wp2;exact bodyPost_ret (v:= .tuple #[.agg #[.slice A0 D.fn.length c0,.slice A1 D.fl.length c1,.slice A2 D.nn.length c2,.slice A3 D.nl.length c3,.slice A4 D.ss.length c4],.bool false]) (by simp[results,Tryz.results139,go_sem,r_0,r_1,r_2,r_3,r_4,Hl]) rfl ⟨_,_,_,_,_,_,_,_,_,_,_,rfl,(Hx.out _ _ _ _ _).1,(Hx.out _ _ _ _ _).2⟩
   ·have Cn:zS D kd a b=true:=by unfold zS;rw[Fq.out,H3.out,aaQ rR];rfl
    have hu:E=⟨D.fn,D.fl,N,L,D.ss++[⟨kd,a,b,D.nn,D.nl⟩]⟩:=by rw[<-HE.out,kP Cn,H1.out,H2.out]
    have hv:true=bb:=by rw[<-H9.out];exact Cn.symm
    subst hu;subst hv;clear HE H9 Cn Fq H1 H2 H3;have Nt:=Gu.out.Z_;have mZ:=Gu.out.X;obtain⟨z_0,z_1,z_2,z_3,z_4,z_f0,z_f1,z_f2,z_f3,z_f4⟩:=Nt.b5;obtain⟨x_0,x_1,x_2,x_3,x_4⟩:=mZ.c5;obtain⟨t_0,t_1⟩:=FP.c2;have fR:=mZ.lt;have hT5l:=FP.lt;have BR:fs.length<=1048576:=o_
    have HM:=h_ hm;clear hm;have HTZ:Hid (¬T=Z):=U3;have Uo:Hid (zp (.slice An N.length cn) (.slice Al L.length cl) Z->False):=U4
    go_upto_region 7 with (fail)
    have ck:=(h.below Gu.out.blw).nn;have cr:=(h.below Gu.out.blw).nl;have H8:Below w5.heap.size w5 w5.drew:=(aaj _ _).drew;have fS:=h_ (Gu.out.below H8);have m5:=h_ (fk.out.kept H8);have HTD:=h_ (FP.drew);have nL:=ck.below H8;have nT:=cr.below H8;clear ck cr H8 Gu fk mZ;have b9:=fS.out.own.lt;refine vO (n:=12) (S:=fun w'=>w'.cell? ⟨w.heap.size,2,none⟩=some v2/\w'.cell? ⟨w.heap.size,3,none⟩=some v3/\w'.cell? ⟨Z,4,none⟩=some (.slice A4 D.ss.length c4)) k_ ⟨x_2,x_3,z_4⟩ (fun hS=>?_)
    (refine zv (i:=0) (v:=?_) rfl rfl k_ k_ k_ k_ (fun _ _ _ h=>h) (Or.inl ⟨by rfl,?_⟩) (by assumption) ?_);rotate_left;(focus (intro w' gm;(try dsimp only at gm);go_simp;(try with_reducible rfl)));(try simp only[lp_])
    (refine zv (i:=1) (v:=?_) rfl rfl k_ k_ k_ k_ (fun _ _ _ h=>h) (Or.inl ⟨by rfl,?_⟩) (by assumption) ?_);rotate_left;(focus (intro w' gm;(try dsimp only at gm);go_simp;(try with_reducible rfl)));(try simp only[lp_])
    (refine zv (i:=2) (v:=?_) rfl rfl k_ k_ k_ k_ (fun _ _ _ h=>h) (Or.inl ⟨by rfl,?_⟩) (by assumption) ?_);rotate_left;(focus (intro w' gm;(try dsimp only at gm);go_simp;(try with_reducible rfl)));(try simp only[lp_])
    (refine zv (i:=3) (v:=?_) rfl rfl k_ k_ k_ k_ (fun _ _ _ h=>h) (Or.inl ⟨by rfl,?_⟩) (by assumption) ?_);rotate_left;(focus (intro w' gm;(try dsimp only at gm);go_simp;(try with_reducible rfl)));(try simp only[lp_])
    (refine zv (i:=4) (v:=?_) rfl rfl k_ k_ k_ k_ (fun _ _ _ h=>h) (Or.inl ⟨by rfl,?_⟩) (by assumption) ?_);rotate_left;(focus (intro w' gm;(try dsimp only at gm);go_simp;(try with_reducible rfl)));(try simp only[lp_])
    (refine zv (i:=5) (v:=?_) rfl rfl k_ k_ k_ k_ (fun _ _ _ h=>h) (Or.inl ⟨by rfl,?_⟩) (by assumption) ?_);rotate_left;(focus (intro w' gm;(try dsimp only at gm);go_simp;(try with_reducible rfl)));(try simp only[lp_])
    (refine zv (i:=6) (v:=?_) rfl rfl k_ k_ k_ k_ (fun _ _ _ h=>h) (Or.inl ⟨by rfl,?_⟩) (by assumption) ?_);rotate_left;(focus (intro w' gm;(try dsimp only at gm);go_simp;(try with_reducible rfl)));(try simp only[lp_])
    (refine qP (i:=7) rfl k_ (fun K hK=>?_));(rw[aao (by rfl)])
    go_simp
    go_at_call 110
    refine(zR _ _ D.nn D.nl _ nL nT gf.out.nn gf.out.nl).mono ?_
    rintro e wa ⟨Bn,dn,Bl,dl,rfl,rv,fr⟩;have CM:=h_ (fS.out.below fr);have HWNA:=h_ (m5.out.kept fr);have HTA:=h_ (HTD.out.below fr (by simpa using hT5l));have U7:=rv.lt;have hsa:=fr.size;simp at hsa U7 b9
    have U8:Hid (∀k,zp (.slice Bn D.nn.length dn) (.slice Bl D.nl.length dl) k->w5.heap.size<=k/\k<wa.heap.size):=h_ (fun k hk=>U7 k hk);have HLT5:Hid (∀k,qE (.slice A0 D.fn.length c0) (.slice A1 D.fl.length c1) (.slice A2 D.nn.length c2) (.slice A3 D.nl.length c3) (.slice A4 D.ss.length c4) fs k->k<w5.heap.size):=h_ (fun k hk=>(b9 k hk).2);have U9:w.heap.size+1+1<=w5.heap.size:=o_
    have UP:=h_ (rv.mono (show w.heap.size+1+1<=w5.drew.heap.size by simpa using U9));clear U7 b9 rv fr fS m5 HTD nL nT
    go_wp2_with fail
    refine hK _ _ (fun _=>⟨CM.out.X.cell 2,CM.out.X.cell 3,CM.out.Z_.cell 4⟩) (fun gh=>?_)
    have fT:=gh (by decide);clear hK K hS gh x_0 x_1 x_2 x_3 x_4 z_0 z_1 z_2 z_3 z_4 z_f0 z_f1 z_f2 z_f3 z_f4 t_0 t_1 fR M7 Nt FP
    (try simp only[lp_])
    (refine zv (i:=8) (v:=?_) rfl rfl k_ k_ k_ k_ (fun _ _ _ h=>h) (Or.inl ⟨by rfl,?_⟩) (by assumption) ?_);rotate_left;(focus (intro w' gm;(try dsimp only at gm);go_simp;(try with_reducible rfl)));(try simp only[lp_])
    (refine qP (i:=9) rfl k_ (fun K hK=>?_));(rw[aao (by rfl)])
    go_simp;have Nu:=h_ (CM.out.own.alloc (.cells #[.int .i64 kd,.int .i64 a,.int .i64 b,.slice Bn D.nn.length dn,.slice Bl D.nl.length dl] 113));have HWN:=h_ (HWNA.out.alloc' (.cells #[.int .i64 kd,.int .i64 a,.int .i64 b,.slice Bn D.nn.length dn,.slice Bl D.nl.length dl] 113));have Yk:=h_ (UP.out.alloc' (.cells #[.int .i64 kd,.int .i64 a,.int .i64 b,.slice Bn D.nn.length dn,.slice Bl D.nl.length dl] 113));have cj:=h_ (CM.out.X.alloc (.cells #[.int .i64 kd,.int .i64 a,.int .i64 b,.slice Bn D.nn.length dn,.slice Bl D.nl.length dl] 113));have HR6:=h_ (CM.out.R.alloc (.cells #[.int .i64 kd,.int .i64 a,.int .i64 b,.slice Bn D.nn.length dn,.slice Bl D.nl.length dl] 113));have HZ6:=h_ (CM.out.Z_.alloc (.cells #[.int .i64 kd,.int .i64 a,.int .i64 b,.slice Bn D.nn.length dn,.slice Bl D.nl.length dl] 113));have HT6:=h_ (HTA.out.alloc (.cells #[.int .i64 kd,.int .i64 a,.int .i64 b,.slice Bn D.nn.length dn,.slice Bl D.nl.length dl] 113));have Nv:=h_ (CM.out.blw.alloc CM.out.blw.size (.cells #[.int .i64 kd,.int .i64 a,.int .i64 b,.slice Bn D.nn.length dn,.slice Bl D.nl.length dl] 113));have Cf:Hid (∀k,(Value.slice A4 D.ss.length c4).ownBlock =some k->w.heap.size+1+1<=k/\k≠Z/\k<T):=h_ (fun k hk=>⟨(CM.out.own.lt k (.inr (.inr (.inl hk)))).1,fun e=>CM.out.far (e▸ .inr (.inr (.inl hk))),HLO.out k (.inr (.inr (.inl hk)))⟩);have U6:Hid (∀(j:Nat) (u:Value),(sfc ((⟨kd,a,b,D.nn,D.nl⟩,.slice Bn D.nn.length dn,.slice Bl D.nl.length dl):SF))[j]? =some u->(wa.alloc (.cells #[.int .i64 kd,.int .i64 a,.int .i64 b,.slice Bn D.nn.length dn,.slice Bl D.nl.length dl] 113)).cell? ((⟨wa.heap.size,0,none⟩:Addr).add j)=some u):=h_ (JI rfl rfl)
    have Ng:w.heap.size+1+1<=(wa.alloc (.cells #[.int .i64 kd,.int .i64 a,.int .i64 b,.slice Bn D.nn.length dn,.slice Bl D.nl.length dl] 113)).heap.size :=by simp;omega
    have HRW:Hid (World.ownsRow (wa.alloc (.cells #[.int .i64 kd,.int .i64 a,.int .i64 b,.slice Bn D.nn.length dn,.slice Bl D.nl.length dl] 113)) (w.heap.size+1+1) 113 5 (.slice A4 D.ss.length c4) fs.length (fs.flatMap sfc)):=h_ Nu.out.ss.row;refine hK _ _ (fun _=>⟨cj.out.cell 2,cj.out.cell 3,HZ6.out.cell 4⟩) (fun gh=>?_)
    clear hK K fT gh
    (try simp only[lp_])
    (refine qP (i:=10) rfl k_ (fun K hK=>?_))
    refine Zs rfl _ _ _ rfl (w.heap.size+1+1) 113 i0 Tryz.underlying28 hi iz0 iz1 iz2 (.slice A4 D.ss.length c4) fs (⟨kd,a,b,D.nn,D.nl⟩,.slice Bn D.nn.length dn,.slice Bl D.nl.length dl) ⟨wa.heap.size,0,none⟩ 1 rfl rfl HRW.out U6.out (z1j _ _ _ _ _ _ _ rfl rfl) BR Ng ?_
    intro A5 c5 w6 hr6 fD RQ;have hv6:(Value.slice A5 (fs.length+1) c5).ownBlock =(Value.slice A4 D.ss.length c4).ownBlock ∨(Value.slice A5 (fs.length+1) c5).ownBlock =some (wa.heap.size+1):=by simpa using RQ
    have hT6t:Turns (fun b=>(Value.slice A4 D.ss.length c4).ownBlock =some b) _ w6:=Turns.ofGrown fD (fun k hk=>hk);have Nr:=HWN.out.turned hT6t (fun k hk e1=>mt.out k hk (.inr (.inr (.inl e1))))
    have bG:=(Nu.out.snoc (f:=(⟨kd,a,b,D.nn,D.nl⟩,.slice Bn D.nn.length dn,.slice Bl D.nl.length dl)) (by rw[aaX];simpa using hr6) fD (by simpa using RQ) Yk.out (fun k hk FD=>by have:=(U8.out k hk).1;have:=HLT5.out k FD;omega)).newNow Nr (aaa _) (fun k hk FD=>by
     have ng:=HL4.out k hk
     rcases X6 hv6 FD with h1|h1|h1
     ·exact mt.out k hk h1
     ·omega
     ·have:=(U8.out k h1).1;omega)
    have bB:=cj.out.grownR fD (fun k hk e=>by have:=(Cf.out k hk).1;omega);have Fg:=HR6.out.grownR fD (fun k hk e=>by have:=(Cf.out k hk).1;omega);have RU:=HZ6.out.grownR fD (fun k hk e=>(Cf.out k hk).2.1 e);have bU:=HT6.out.grownR fD (fun k hk e=>by have:=(Cf.out k hk).2.2;omega);have gJ:=Nv.out.grown fD Nv.out.size (fun k hk=>by have:=(Cf.out k hk).1;omega);have Gu:=CM;have fW:=CM.out.Z_.lt;have U5:Hid (zp (.slice Bn D.nn.length dn) (.slice Bl D.nl.length dl) Z->False):=h_ (fun hz=>by have:=(U8.out _ hz).1;omega);refine hK _ _ (fun _=>⟨bB.cell 2,bB.cell 3,RU.cell 4⟩) (fun gh=>?_)
    have mp:=gh (by decide);clear hK K gh
    (try simp only[lp_])
    (refine zv (i:=11) (v:=?_) rfl rfl k_ k_ k_ k_ (fun _ _ _ h=>h) (Or.inl ⟨by rfl,?_⟩) (by assumption) ?_);rotate_left;(focus (intro w' gm;(try dsimp only at gm);go_simp;(try with_reducible rfl)));(try simp only[lp_])
    have gM:¬qE (.slice A0 D.fn.length c0) (.slice A1 D.fl.length c1) (.slice An N.length cn) (.slice Al L.length cl) (.slice A5 (fs.length+1) c5) (fs++[(⟨kd,a,b,D.nn,D.nl⟩,.slice Bn D.nn.length dn,.slice Bl D.nl.length dl)]) Z:=by
     rintro(hz|hz|hz)
     ·exact Gu.out.far (.inl hz)
     ·have:=Uo.out hz;exact this
     ·rcases yq hv6 hz with h1|h1|h1
      ·exact Gu.out.far (.inr (.inr h1))
      ·omega
      ·exact U5.out h1
    have nX:w.heap.size≠Z:=o_
    have nR:w.heap.size+1≠Z:=o_
    have nB:w.heap.size<=Z:=o_
    obtain⟨w7,BG⟩:∃w7,w7=((w6.setCell ⟨Z,4,none⟩ (.slice A5 (fs.length+1) c5)).setCell ⟨Z,2,none⟩ (.slice An N.length cn)).setCell ⟨Z,3,none⟩ (.slice Al L.length cl):=⟨_,rfl⟩
    have HF:Hid (OutSt w v0 v1 v2 v3 (.slice B4 D.ss.length d4) Z (.slice A0 D.fn.length c0) (.slice A1 D.fl.length c1) (.slice An N.length cn) (.slice Al L.length cl) (.slice A5 (fs.length+1) c5) ⟨D.fn,D.fl,N,L,D.ss++[⟨kd,a,b,D.nn,D.nl⟩]⟩ (fs++[(⟨kd,a,b,D.nn,D.nl⟩,.slice Bn D.nn.length dn,.slice Bl D.nl.length dl)]) w7):=h_
     (BG▸⟨((bG.setFar (p:=⟨Z,4,none⟩) gM _).setFar (p:=⟨Z,2,none⟩) gM _).setFar (p:=⟨Z,3,none⟩) gM _,((bB.far (p:=⟨Z,4,none⟩) nX _).far (p:=⟨Z,2,none⟩) nX _).far (p:=⟨Z,3,none⟩) nX _,
      ((Fg.far (p:=⟨Z,4,none⟩) nR _).far (p:=⟨Z,2,none⟩) nR _).far (p:=⟨Z,3,none⟩) nR _,((RU.set_ 4 _).set_ 2 _).set_ 3 _,rX,gM,((gJ.setCell (p:=⟨Z,4,none⟩) nB _).setCell (p:=⟨Z,2,none⟩) nB _).setCell (p:=⟨Z,3,none⟩) nB _⟩)
    obtain⟨z_0,z_1,z_2,z_3,z_4,z_f0,z_f1,z_f2,z_f3,z_f4⟩:=RU.b5;obtain⟨t_0,t_1⟩:=bU.c2;clear bG bB Fg RU bU gJ gM
    (refine qP (i:=12) rfl k_ (fun K hK=>?_));(rw[aao (by rfl)])
    go_simp;refine hK _ _ (fun h=>absurd rfl h) (fun _=>?_)
    clear hK K
    (try simp only[lp_])
    refine xC k_ ?_ _
    go_upto_region 9 with (fail)
    rw[<-BG];clear BG z_0 z_1 z_2 z_3 z_4 z_f0 z_f1 z_f2 z_f3 z_f4 t_0 t_1;have Hm:(D.ss++[(⟨kd,a,b,D.nn,D.nl⟩:Sp)]).length =fs.length+1:=by have:=HM.out;simp;omega
    have fN:=h_ Hm;obtain⟨_,_,hR,hZ,Gb,_,_⟩:=HF.out;obtain⟨z_0,z_1,z_2,z_3,z_4⟩:=hZ.c5;obtain⟨r_0,r_1,r_2,r_3,r_4,r_f0,r_f1,r_f2,r_f3,r_f4⟩:=hR.b5;have Hl:=hR.lt;have Hx:=h_ (fun u0 u1 u2 u3 u4=>HF.out.fin u0 u1 u2 u3 u4);clear hR hZ HF Hm;go_wp2
    exact bodyPost_ret (v:= .tuple #[.agg #[.slice A0 D.fn.length c0,.slice A1 D.fl.length c1,.slice An N.length cn,.slice Al L.length cl,.slice A5 (fs.length+1) c5],.bool true]) (by simp[results,Tryz.results139,go_sem,r_0,r_1,r_2,r_3,r_4,Hl]) rfl
     ⟨A0,c0,A1,c1,An,cn,Al,cl,A5,c5,fs++[(⟨kd,a,b,D.nn,D.nl⟩,.slice Bn D.nn.length dn,.slice Bl D.nl.length dl)],by simp only[fN.out],by simp only[fN.out];exact(Hx.out _ _ _ _ _).1,(Hx.out _ _ _ _ _).2⟩
end Go.Proofs.YtnjcpljhmhdhkaaGreat
