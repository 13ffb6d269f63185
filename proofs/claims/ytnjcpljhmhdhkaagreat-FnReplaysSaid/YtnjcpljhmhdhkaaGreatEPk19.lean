/- part 19 -/
import Derived.Test.YtnjcpljhmhdhkaaGreatEPk17
set_option linter.unusedSimpArgs false
set_option linter.unusedVariables false
set_option maxRecDepth 100000
set_option maxHeartbeats 8000000
namespace Go.Proofs.YtnjcpljhmhdhkaaGreat
open Go.RowKit
theorem z2l (n:Nat):(madeCells #[.int .i64 0] n).toList =(List.replicate n (0:Int)).map vI:=by
 apply aat
 intro j
 by_cases hj:j<n
 ·simp only[madeCells,Array.toList_map,aau,Array.toList_range,aav hj,abl,aao hj,aaw]
  congr 1
  show #[Value.int .i64 0][j%1]! =_
  rw[Nat.mod_one];rfl
 ·simp[madeCells,hj]
noncomputable def kK (ns ls:List Pr):List Int:=if ze ns ls then zN ns ls else []
theorem ym {ns ls:List Pr} (hw:ze ns ls=true):0<(z9 ns ls).length :=by
 have Hh:=zM hw;have Ho:∀j:Nat,j<ls.length->zv ns (ndI ls j)=true:=fun j hj=>(Hh.1.2.2.2.2.2 j hj).1
 have hF:z9 ns ls=zg ns ls:=by simp[z9,hw]
 rw[hF];have h1:=(qV Ho (2*ls.length) (aaa _)).1 0 o_
 rcases abv (zg ns ls).length with h0|h0
 ·have:zE ns ls (2*ls.length)=[]:=abx h0
  rw[this] at h1;simp at h1
 ·exact h0
theorem kA {base:Nat} {w:World} {g n c:Nat} {l:List Int} (h:OwnI base w (.slice (some ⟨g,0,none⟩) n c) l) (q:Nat) (x:Int):OwnI base (w.setCell ⟨g,q,none⟩ (.int .i64 x)) (.slice (some ⟨g,0,none⟩) n c) (l.set q x):=
 OwnE.set_ (t:=3) (enc:=vI) h q x
theorem jC {w w':World} {b o:Nat} (h:w'.heap[b]? =w.heap[b]?):w'.cell? ⟨b,o,none⟩=w.cell? ⟨b,o,none⟩:=by
 simp only[World.cell?,h]
theorem z8h {base:Nat} {w:World} {v:Value} {l:List Int} (h:OwnI base w v l) (hn:0<l.length):
  ∃b c,v= .slice (some ⟨b,0,none⟩) l.length c/\base<=b/\b<w.heap.size/\∀j,j<l.length->w.cell? ⟨b,j,none⟩=some (.int .i64 (l.getD j 0)):=by
 rcases hc:h.2 with ⟨_,h0⟩|⟨g,cap,cur,rfl,hb,_⟩
 ·omega
 ·exact⟨g,cap,rfl,hb,(OwnI.lt h g rfl).2,fun j hj=>OwnE.cell (t:=3) (enc:=vI) h 0 hj⟩
theorem z7d {base:Nat} {w:World} {v:Value} {F:List (List Nat)} (h:OwnF base w v F) (hn:0<F.length) (hp:∀k,k<F.length->0<(F.getD k []).length):
  ∃b c,v= .slice (some ⟨b,0,none⟩) F.length c/\base<=b/\b<w.heap.size/\∀k,k<F.length->∃b5 c5,w.cell? ⟨b,k,none⟩=some (.slice (some ⟨b5,0,none⟩) (F.getD k []).length c5)/\base<=b5/\b5<w.heap.size/\
   ∀j,j<(F.getD k []).length ->w.cell? ⟨b5,j,none⟩=some (.int .i64 ((F.getD k []).getD j 0:Nat)):=by
 obtain⟨vs,h1,h2,h3⟩:=h
 rcases hc:h2.2 with ⟨_,h0⟩|⟨g,cap,cur,rfl,hb,_⟩
 ·omega
 ·refine⟨g,cap,rfl,hb,(World.ownsRow.lt h2 g rfl).2,fun k hk=>?_⟩
  obtain⟨b5,c5,e,H0,hl5,ci⟩:=z8h (h3 k hk) (by rw[za];exact hp k hk);rw[za] at e ci;have hcell:=h2.cellAt k o_;have hvk:vs[k]? =some (vs.getD k undef):=by rw[List.getD,aac o_];rfl
  rw[hvk,e] at hcell;exact⟨b5,c5,hcell,H0,hl5,fun j hj=>by rw[ci j hj,qs]⟩
theorem z5o (vn vl:Value) (ns ls:List Pr) (w:World) (hn:RP w vn ns) (hl:RP w vl ls) (hw:ze ns ls=false):
  CB_ 145 #[.agg #[vn,vl]] w (.slice none 0 0):=by
 have Hg:Below w.heap.size w (w.alloc (.cells #[vn,vl] 27)):=bel_
 go_enter Tryz.func145,Tryz.ntmps145
 go_wp2_with fail
 refine(j8 _ _ ns ls _ _ (hn.below Hg) (hl.below Hg) hw).mono ?_
 rintro e w1 ⟨rfl,h9⟩;have h8:=Hg.trans (h9.mono Hg.size);go_wp2;go_ret
 exact⟨rfl,h8⟩
theorem JF (vn vl:Value) (ns ls:List Pr) (w:World) (hn:RP w vn ns) (hl:RP w vl ls):
  Calls Tryz.prog 147 #[.agg #[vn,vl]] w (RetI (kK ns ls) w):=by
 obtain⟨An,cn,rfl,Fk,GL,_⟩:=hn.formI;obtain⟨Al,cl,rfl,Hy,Gz,_⟩:=hl.formI;unfold maxLen at GL Gz;have Hg:Below w.heap.size w (w.alloc (.cells #[.slice An ns.length cn,.slice Al ls.length cl] 27)):=bel_
 have gy:Blk (w.alloc (.cells #[.slice An ns.length cn,.slice Al ls.length cl] 27)) w.heap.size 27 #[.slice An ns.length cn,.slice Al ls.length cl]:=Blk.newAt rfl
 cases hw:ze ns ls
 ·have HR:Hid (kK ns ls=[]):=h_ (by simp[kK,hw])
  have bQ:=fun (u:World) (a:Option Addr) (l c:Nat)=>Lib.run_eql_slice_nil (P:=Tryz.prog) u 135 31 a l c 0 0 Tryz.underlying135
  go_enter Tryz.func147,Tryz.ntmps147
  go_wp2_with fail
  refine(z5o _ _ ns ls _ (hn.below Hg) (hl.below Hg) hw).mono ?_
  rintro e w1 ⟨rfl,h9⟩;have h8:=Hg.trans (h9.mono Hg.size);go_wp2;go_ret
  exact⟨_,rfl,by rw[HR.out];exact OwnI.nil _ _,h8⟩
 ·have HR:Hid (kK ns ls=zN ns ls):=h_ (by simp[kK,hw])
  have Hh:=(zM hw).1;have GD:=Hh.2.2.1;have CB:=ym hw;obtain⟨i0,hi,iz0,iz1,iz2⟩:=info_parts qu;have Fg:=h_ (fun k hk=>jP (ns:=ns) (ls:=ls) (k:=k) hk);have fc:=zJ ns ls;have HS:Hid (zN ns ls=qN (z9 ns ls) (List.replicate (2*ls.length) 0) (z9 ns ls).length):=h_ rfl;have e2:2*(ls.length:Int)=((2*ls.length:Nat):Int):=o_
  have bQ:=fun (u:World) (a:Option Addr) (l c:Nat)=>Lib.run_eql_slice_nil (P:=Tryz.prog) u 135 31 a l c 0 0 Tryz.underlying135
  go_enter Tryz.func147,Tryz.ntmps147
  go_wp2_with fail
  refine(jK _ _ ns ls _ (hn.below Hg) (hl.below Hg)).mono ?_
  rintro e w1 ⟨v1,rfl,Hi,h9⟩;have h8:=Hg.trans (h9.mono Hg.size);have Hz:=gy.below h9 gy.lt;have Ht:=Hz.lt;have Rw:=Hi.reads;generalize z9 ns ls=F at*;obtain⟨A1,c1,rfl,gc,Cv,fC⟩:=Rw.get;unfold maxLen at Cv;obtain⟨b1,off1,rfl,uc,NO⟩:=fC CB;have rF:=h_ NO;obtain⟨a_0,a_1⟩:=Hz.c2;generalize Nm:2*ls.length=N at*;have Rr:N<=40:=o_
  have HZ:=h_ (fun k=>yS F (List.replicate N (0:Int)) k);have Bs:=h_ (fun (g:List Int) (f:List Nat) (k j:Nat)=>yQ g f k j)
  go_wp2_with (at_make;refine wpList_make_full _ rfl _ _ 31 rfl (w.heap.size+1) 3 i0 (.int .i64 0) 1 Tryz.underlying31 hi iz0 iz1 .i64 .i64 _ _ N rfl rfl rfl rfl (by rw[iz2];omega) (by unfold maxLen;omega) o_ ?_)
  intro w2 gY gL;have Mh:Below w1.heap.size w1 w2:=(aaj _ _).grown gL (aaa _) (by intro k hk;cases hk)
  have G0:OwnI (w.heap.size+1) w2 (.slice (some ⟨w1.heap.size,0,none⟩) N N) (qN F (List.replicate N 0) 0):=by
   show OwnI _ _ _ (List.replicate N 0)
   unfold OwnI;rw[aaC,<-z2l];exact gY
  have ud:=(G0.lt _ rfl).2;have nS:=Ht;obtain⟨gs,mK⟩:∃g,w1.heap.size=g:=⟨_,rfl⟩;rw[mK] at Mh G0 ud nS uc⊢;have NP:=h_ mK;go_wp2
  go_loopw [20] (fun x wr=>∃k:Nat,k<=F.length/\x= .int .i64 k/\OwnI (w.heap.size+1) wr (.slice (some ⟨gs,0,none⟩) N N) (qN F (List.replicate N 0) k)/\Below gs w1 wr) (fun x _=>F.length -(intOf x).toNat)
  case atStart=>exact⟨0,aab _,rfl,G0,Mh⟩
  case round=>
   obtain⟨k,hk,rfl,ho,hB⟩:=hrel
   by_cases Hf:k<F.length
   ·have Hp:(k:Int)<(F.length:Int):=o_
    have ik1:(0:Int)<=(k:Int):=o_
    obtain⟨rr,C7,Me⟩:=rF.out k Hf;have hcr':=(hB.cell (p:=⟨b1,off1+k,none⟩) uc).trans C7;obtain⟨Hh,Mf,rx,bI⟩:=Fg.out k Hf;have Rx:=h_ Mf;have wX:Hid (qN F (List.replicate N 0) (k+1)=qg (qN F (List.replicate N 0) k) (F.getD k []) k (F.getD k []).length):=h_ rfl;have hgl:=HZ.out k;rw[aaC] at hgl;generalize qN F (List.replicate N 0) k=G at*;generalize F.getD k []=f at*;obtain⟨A5,c5,rfl,ci,wY,MT⟩:=Me.form;rw[za] at MT hcr' ci wY;obtain⟨b5,off5,rfl,H0,bL⟩:=MT rx;rw[NP.out] at H0;have Ny:=h_ bL;have h0:OwnI (w.heap.size+1) wr (.slice (some ⟨gs,0,none⟩) N N) (qg G f k 0):=ho;go_wp2
    go_loopw [27] (fun x wr=>∃j:Nat,j<=f.length/\x= .int .i64 j/\OwnI (w.heap.size+1) wr (.slice (some ⟨gs,0,none⟩) N N) (qg G f k j)/\Below gs w1 wr) (fun x _=>f.length -(intOf x).toNat)
    case atStart=>exact⟨0,aab _,rfl,h0,hB⟩
    case round=>
     obtain⟨j,hj,rfl,ho,hB⟩:=hrel
     by_cases FX:j<f.length
     ·have Rt:(j:Int)<(f.length:Int):=o_
      have ij1:(0:Int)<=(j:Int):=o_
      have wZ:=(hB.cell (p:=⟨b5,off5+j,none⟩) H0).trans (Ny.out j FX);rw[qs] at wZ;have F3:f.getD j 0<N:=Rx.out _ (by rw[List.getD,aac FX];exact abg FX);have HSJ:Hid (qg G f k (j+1)=(qg G f k j).set (f.getD j 0) k):=h_ rfl;have mr:=Bs.out G f k j;generalize f.getD j 0=x at*;have ix1:(0:Int)<=(x:Int):=o_
      have ix2:(x:Int)<(N:Int):=o_
      have co:=OwnE.cell (t:=3) (enc:=vI) ho 0 (q:=x) o_;obtain⟨z,hz⟩:∃z,wr.cell? ⟨gs,x,none⟩=some z:=⟨_,co⟩;have fx:=OwnE.frz (t:=3) (enc:=vI) ho x;have BP:Hid (OwnI (w.heap.size+1) (wr.setCell ⟨gs,x,none⟩ (.int .i64 k)) (.slice (some ⟨gs,0,none⟩) N N) (qg G f k (j+1))):=h_ (by rw[HSJ.out];exact kA ho x k);have nP:=h_ (hB.setCell (p:=⟨gs,x,none⟩) (aaa _) (.int .i64 k));go_wp2;go_roundw
      case rel=>exact⟨j+1,by omega,by go_num,BP.out,nP.out⟩
      case measure=>simp[intOf];omega
     ·have GP:j=f.length:=o_
      subst GP;go_wp2;go_roundw
      case rel=>exact⟨k+1,by omega,by go_num,by rw[wX.out];exact ho,hB⟩
      case measure=>simp[intOf];omega
   ·have gi:k=F.length:=o_
    subst gi;have HB:=h_ (h8.trans (Below.mono (by rw[NP.out];exact hB) h8.size));go_wp2;go_ret
    exact⟨_,rfl,by rw[HR.out,HS.out];exact OwnI.mono ho o_,HB.out⟩
theorem Vm (vn vl:Value) (ns ls:List Pr) (w:World) (hn:RP w vn ns) (hl:RP w vl ls) (hw:ze ns ls=true):
  Calls Tryz.prog 200 #[.agg #[vn,vl]] w (RetI (zN ns ls) w):=by
 obtain⟨An,cn,rfl,Fk,GL,_⟩:=hn.formI;obtain⟨Al,cl,rfl,Hy,Gz,_⟩:=hl.formI;unfold maxLen at GL Gz;have Hg:Below w.heap.size w (w.alloc (.cells #[.slice An ns.length cn,.slice Al ls.length cl] 27)):=bel_
 have gy:Blk (w.alloc (.cells #[.slice An ns.length cn,.slice Al ls.length cl] 27)) w.heap.size 27 #[.slice An ns.length cn,.slice Al ls.length cl]:=Blk.newAt rfl;have Hh:=(zM hw).1;have GD:=Hh.2.2.1;have CB:=ym hw;obtain⟨i0,hi,iz0,iz1,iz2⟩:=info_parts qu;have Fg:=h_ (fun k hk=>jP (ns:=ns) (ls:=ls) (k:=k) hk);have fc:=zJ ns ls;have HS:Hid (zN ns ls=qN (z9 ns ls) (List.replicate (2*ls.length) 0) (z9 ns ls).length):=h_ rfl;have e2:2*(ls.length:Int)=((2*ls.length:Nat):Int):=o_
 have Ck:=h_ (fun (v:World) (h1:RP v (.slice An ns.length cn) ns) (h2:RP v (.slice Al ls.length cl) ls)=>jJ (.slice An ns.length cn) (.slice Al ls.length cl) ns ls v h1 h2);clear Hh hw;obtain⟨w1,F5⟩:∃w1,w1=w.alloc (.cells #[.slice An ns.length cn,.slice Al ls.length cl] 27):=⟨_,rfl⟩;have FQ:w1.heap.size=w.heap.size+1:=by rw[F5];simp
 have Uy:=h_ F5;rw[<-F5] at Hg gy;clear F5
 go_enter Tryz.func200,Tryz.ntmps200
 go_upto_region 1 with (fail)
 rw[<-Uy.out];clear Uy;obtain⟨a_0,a_1⟩:=gy.c2;have Ht:=gy.lt;generalize Nm:2*ls.length=N at*;have Rr:N<=40:=o_
 have HZ:=h_ (fun F k=>yS F (List.replicate N (0:Int)) k);have Bs:=h_ (fun (g:List Int) (f:List Nat) (k j:Nat)=>yQ g f k j);clear Nm
 go_wp2_with (at_make;refine wpList_make_full _ rfl _ _ 31 rfl (w.heap.size+1) 3 i0 (.int .i64 0) 1 Tryz.underlying31 hi iz0 iz1 .i64 .i64 _ _ N rfl rfl rfl rfl (by rw[iz2];omega) (by unfold maxLen;omega) o_ ?_)
 intro w2 gY gL;have Mh:Below w1.heap.size w1 w2:=(aaj _ _).grown gL (aaa _) (by intro k hk;cases hk)
 have G0:OwnI (w.heap.size+1) w2 (.slice (some ⟨w.heap.size+1,0,none⟩) N N) (List.replicate N 0):=by
  unfold OwnI;rw[aaC,<-z2l];exact gY
 have Ha:=Hg.trans (Mh.mono Hg.size);have gM:=gy.below Mh Ht;obtain⟨gs,mK⟩:∃g,w.heap.size+1=g:=⟨_,rfl⟩;clear gY gL a_0 a_1 Ht Mh Hg gy i0 hi iz0 iz1 iz2;rw[mK] at G0⊢;have NP:=h_ mK;clear mK FQ;obtain⟨a_0,a_1⟩:=gM.c2
 go_wp2_with fail
 refine(Ck.out _ (hn.below Ha) (hl.below Ha)).mono ?_
 rintro e w3 ⟨v3,rfl,Hm,He⟩;have Hc:=Ha.trans (He.mono Ha.size);have GG:=G0.kept He;have Rs:=Hm.reads;have r5:gs<w2.heap.size:=(OwnI.lt G0 gs rfl).2;generalize z9 ns ls=F at*;have hFP:=fun k hk=>(Fg.out k hk).2.2.1
 obtain⟨b1,c1,rfl,gj,uc,NO⟩:=z7d Hm CB hFP;have rF:=h_ NO;have Rx:=h_ (fun k hk=>(Fg.out k hk).2.1);have H40:=h_ (fun k hk=>(Fg.out k hk).2.2.2);clear Rs NO hFP Fg He Hm Ha gM G0 a_0 a_1;have Wa:w3.grownBy w3 (some gs):=World.grownBy.refl _ _;go_wp2
 go_loopw [5] (fun x wr=>∃k:Nat,k<=F.length/\x= .int .i64 k/\OwnI gs wr (.slice (some ⟨gs,0,none⟩) N N) (qN F (List.replicate N 0) k)/\w3.grownBy wr (some gs)) (fun x _=>F.length -(intOf x).toNat)
 case atStart=>exact⟨0,aab _,rfl,GG,Wa⟩
 case round=>
  clear GG Wa;obtain⟨k,hk,rfl,ho,hB⟩:=hrel
  by_cases Hf:k<F.length
  ·have Hp:(k:Int)<(F.length:Int):=o_
   have ik1:(0:Int)<=(k:Int):=o_
   obtain⟨b5,c5,C7,hbb5,H0,ci⟩:=rF.out k Hf;have HFE1:=h_ (Rx.out k Hf);have bI:=H40.out k Hf;have wX:Hid (qN F (List.replicate N 0) (k+1)=qg (qN F (List.replicate N 0) k) (F.getD k []) k (F.getD k []).length):=h_ rfl;have hgl:=HZ.out F k;rw[aaC] at hgl;generalize qN F (List.replicate N 0) k=G at*;generalize F.getD k []=f at*;have Ni:=h_ C7;have Ny:=h_ ci;clear C7 ci;have h0:OwnI gs wr (.slice (some ⟨gs,0,none⟩) N N) (qg G f k 0):=ho;clear ho;go_wp2
   go_loopw [6] (fun x wr=>∃j:Nat,j<=f.length/\x= .int .i64 j/\OwnI gs wr (.slice (some ⟨gs,0,none⟩) N N) (qg G f k j)/\w3.grownBy wr (some gs)) (fun x _=>f.length -(intOf x).toNat)
   case atStart=>exact⟨0,aab _,rfl,h0,hB⟩
   case round=>
    clear h0 hB;obtain⟨j,hj,rfl,ho,hB⟩:=hrel;have C7:=(jC (o:=k) (hB.block b1 o_ (fun e=>by cases e;omega))).trans Ni.out;have gx:=hB.size;have hb5w:b5<wr.heap.size:=o_
    by_cases FX:j<f.length
    ·have Rt:(j:Int)<(f.length:Int):=o_
     have ij1:(0:Int)<=(j:Int):=o_
     have wZ:=(jC (o:=j) (hB.block b5 o_ (fun e=>by cases e;omega))).trans (Ny.out j FX);have F3:f.getD j 0<N:=HFE1.out _ (by rw[List.getD,aac FX];exact abg FX);have HSJ:Hid (qg G f k (j+1)=(qg G f k j).set (f.getD j 0) k):=h_ rfl;have mr:=Bs.out G f k j;generalize f.getD j 0=x at*;have ix1:(0:Int)<=(x:Int):=o_
     have ix2:(x:Int)<(N:Int):=o_
     have co:=OwnE.cell (t:=3) (enc:=vI) ho 0 (q:=x) o_;obtain⟨z,hz⟩:∃z,wr.cell? ⟨gs,x,none⟩=some z:=⟨_,co⟩;have fx:=OwnE.frz (t:=3) (enc:=vI) ho x;have BP:Hid (OwnI gs (wr.setCell ⟨gs,x,none⟩ (.int .i64 k)) (.slice (some ⟨gs,0,none⟩) N N) (qg G f k (j+1))):=h_ (by rw[HSJ.out];exact kA ho x k);have nP:=h_ (vS hB x (.int .i64 k));clear ho hB co;go_wp2;go_roundw
     case rel=>exact⟨j+1,by omega,by go_num,BP.out,nP.out⟩
     case measure=>simp[intOf];omega
    ·have GP:j=f.length:=o_
     subst GP;go_wp2;go_roundw
     case rel=>exact⟨k+1,by omega,by go_num,by rw[wX.out];exact ho,hB⟩
     case measure=>simp[intOf];omega
  ·have gi:k=F.length:=o_
   subst gi;have HB:=h_ (Hc.grown hB Hc.size (fun k hk=>by cases hk;have:=NP.out;omega));go_wp2;go_ret
   exact⟨_,rfl,by rw[HS.out];exact OwnI.mono ho (by have:=NP.out;omega),HB.out⟩
attribute [local go_sem ↓] zR zQ
theorem Vq (vn vl:Value) (ns ls:List Pr) (k:Nat) (w:World) (hn:RP w vn ns) (hl:RP w vl ls) (hk:k<ns.length) (f8:ns.length<=12) (GD:ls.length<=20) (Ho:∀j:Nat,j<ls.length->zv ns (ndI ls j)=true):
  Calls Tryz.prog 144 #[.agg #[vn,vl],.int .i64 k] w fun e w'=>∃b off n c,∃p:Nat,e= .returned (.slice (some ⟨b,off,none⟩) n c)/\0<n/\b<w'.heap.size/\w'.cell? ⟨b,off,none⟩=some (.int .i64 p)/\
   (zm ns.length ls ls.length).getD k 0=(p:Int)/\p<=k/\Below w.heap.size w w':=by
 refine(ZN vn vl ns ls k w hn hl hk f8 GD Ho).mono ?_
 rintro e w' ⟨v,rfl,ho,hb⟩;obtain⟨p,h1,h2,h3⟩:=z37 (z0I Ho) hk;obtain⟨hp,Uw⟩:=List.getElem?_eq_some_iff.1 h3;obtain⟨A,c,rfl,_,_,hcell⟩:=ho.reads.form;obtain⟨b,off,rfl,Hf,hc⟩:=hcell (by rw[za];exact hp);refine⟨b,off,_,c,p,rfl,by rw[za];exact hp,Hf,?_,h1,h2,hb⟩
 have:=hc 0 (by rw[za];exact hp);rw[aaf] at this;rw[this];unfold natI;rw[List.getD,aau,h3];rfl
theorem z21 (vn vl:Value) (ns ls:List Pr) (w:World) (hn:RP w vn ns) (hl:RP w vl ls):
  CB_ 148 #[.agg #[vn,vl]] w (.int .i64 (jl ns ls)):=by
 cases hw:winB ns ls
 ·have HR:Hid (jl ns ls=0):=h_ (by simp[jl,hw])
  go_enter Tryz.func148,Tryz.ntmps148
  go_wp2_with fail
  refine(qa _ _ ns ls _ _ (hn.below bel_) (hl.below bel_) hw).mono ?_
  rintro e w1 ⟨rfl,h9⟩;go_wp2;go_ret
  exact⟨zo HR.out.symm,by exact bel_⟩
 ·have HR:Hid (jl ns ls=(yx ns.length ls ns.length:Int)):=h_ (by simp[jl,hw])
  have Hh:=zq.1 hw;have f8:=Hh.2.1;have GD:=Hh.2.2.1;have CU:Hid (∀j:Nat,j<ls.length->zv ns (ndI ls j)=true):=h_ (fun j hj=>(Hh.2.2.2.2.2 j hj).1);obtain⟨An,cn,rfl,Fk,GL,_⟩:=hn.formI;unfold maxLen at GL
  go_enter Tryz.func148,Tryz.ntmps148
  go_wp2_with fail
  refine(qa _ _ ns ls _ _ (hn.below bel_) (hl.below bel_) hw).mono ?_
  rintro e w1 ⟨rfl,h9⟩;have Hz:Blk w1 w.heap.size 27 #[.slice An ns.length cn,vl]:=Blk.below (Blk.newAt rfl) h9 sz_;have h8:Below w.heap.size w w1:=bel_
  obtain⟨a_0,a_1⟩:=Hz.c2;go_wp2
  go_loopw [3,11] (fun x i wr=>∃k:Nat,k<=ns.length/\i= .int .i64 k/\x= .int .i64 (yx ns.length ls k)/\Blk wr w.heap.size 27 #[.slice An ns.length cn,vl]/\Below w.heap.size w wr) (fun _ i _=>ns.length -(intOf i).toNat)
  case atStart=>exact⟨0,aab _,rfl,rfl,Hz,h8⟩
  case round=>
   obtain⟨k,hk,rfl,rfl,hW,Hb⟩:=hrel;have gx:=hW.lt;have FX:=Qy ns.length ls k;obtain⟨a_0,a_1⟩:=hW.c2
   by_cases Hf:k<ns.length
   ·have HY:=h_ (fun h=>QX (n:=ns.length) (ls:=ls) (k:=k) h)
    have Bx:=h_ (fun h=>JS (n:=ns.length) (ls:=ls) (k:=k) h);generalize yx ns.length ls k=J at*
    go_wp2_with fail
    refine(Vq _ _ ns ls k _ (hn.below Hb) (hl.below Hb) Hf f8 GD CU.out).mono ?_
    rintro e w2 ⟨b,off,n,c,p,rfl,Fn,Gb,gE,hp,hpk,Hd⟩;have gM:=hW.below Hd gx;have Ha:=Hb.trans (Hd.mono Hb.size)
    by_cases rG:p=k
    ·have HS:=h_ (HY.out (by rw[hp,rG]))
     have e1:((p:Int)==(k:Int))=true:=beq_iff_eq.2 o_;go_wp2;go_roundw
     case rel=>exact⟨k+1,by omega,by go_num,by rw[HS.out];go_num,gM,Ha⟩
     case measure=>simp[intOf];omega
    ·have HS:=h_ (Bx.out (by rw[hp];omega))
     have e1:((p:Int)==(k:Int))=false:=beq_eq_false_iff_ne.2 o_;go_wp2;go_roundw
     case rel=>exact⟨k+1,by omega,by go_num,by rw[HS.out],gM,Ha⟩
     case measure=>simp[intOf];omega
   ·have gi:k=ns.length:=o_
    subst gi;go_wp2;go_ret
    exact⟨zo HR.out.symm,Hb⟩
theorem z18 (vn vl:Value) (ns ls:List Pr) (w:World) (hn:RP w vn ns) (hl:RP w vl ls):
  CB_ 204 #[.agg #[vn,vl]] w (.int .i64 (jl ns ls)):=by
 cases hw:winB ns ls
 ·have HR:Hid (jl ns ls=0):=h_ (by simp[jl,hw])
  go_enter Tryz.func204,Tryz.ntmps204
  go_wp2_with fail
  refine(zF _ _ ns ls _ _ (hn.below bel_) (hl.below bel_) hw).mono ?_
  rintro e w1 ⟨rfl,h9⟩;go_wp2;go_ret
  exact⟨zo HR.out.symm,by exact bel_⟩
 ·have HR:Hid (jl ns ls=(yx ns.length ls ns.length:Int)):=h_ (by simp[jl,hw])
  have Hh:=zq.1 hw;have Fn:=Hh.1;have f8:=Hh.2.1;have GD:=Hh.2.2.1;have CU:Hid (∀j:Nat,j<ls.length->zv ns (ndI ls j)=true):=h_ (fun j hj=>(Hh.2.2.2.2.2 j hj).1);clear Hh
  go_enter Tryz.func204,Tryz.ntmps204
  go_wp2_with fail
  refine(zF _ _ ns ls _ _ (hn.below bel_) (hl.below bel_) hw).mono ?_
  rintro e w1 ⟨rfl,h9⟩;have Hz:Blk w1 w.heap.size 27 #[vn,vl]:=Blk.below (Blk.newAt rfl) h9 sz_;have h8:Below w.heap.size w w1:=bel_
  clear h9;obtain⟨a_0,a_1⟩:=Hz.c2
  go_wp2_with fail
  refine(Jx _ _ ns ls _ (hn.below h8) (hl.below h8) GD f8 Fn CU.out).mono ?_
  rintro e w2 ⟨v2,rfl,Hk,Hd⟩;have Hj:=jc ns.length ls ls.length;have Ha:=h8.trans (Hd.mono h8.size);obtain⟨A,c,rfl,_,_,hcell⟩:=Hk.reads.form;rw[Hj] at hcell⊢;obtain⟨b,off,rfl,Gb,Hy⟩:=hcell Fn;have cZ:=h_ Hy;clear hcell Hy Hj Hk Hd Hz h8 a_0 a_1;go_wp2
  go_loopw [4,5] (fun x i wr=>∃k:Nat,k<=ns.length/\i= .int .i64 k/\x= .int .i64 (yx ns.length ls k)/\wr=w2) (fun _ i _=>ns.length -(intOf i).toNat)
  case atStart=>exact⟨0,aab _,rfl,rfl,rfl⟩
  case round=>
   obtain⟨k,hk,rfl,rfl,rfl⟩:=hrel;have FX:=Qy ns.length ls k
   by_cases Hf:k<ns.length
   ·have HY:=h_ (fun h=>QX (n:=ns.length) (ls:=ls) (k:=k) h)
    have Bx:=h_ (fun h=>JS (n:=ns.length) (ls:=ls) (k:=k) h);have G8:=cZ.out k Hf;generalize yx ns.length ls k=J at*;generalize (zm ns.length ls ls.length).getD k 0=p at*;have ct:(k:Int)<(ns.length:Int):=o_
    have hi0:(0:Int)<=(k:Int):=o_
    by_cases rG:p=(k:Int)
    ·have HS:=h_ (HY.out rG)
     have e1:(p==(k:Int))=true:=beq_iff_eq.2 rG;clear HY Bx rG;go_wp2;go_roundw
     case rel=>exact⟨k+1,by omega,by go_num,by rw[HS.out];go_num,by trivial⟩
     case measure=>simp[intOf];omega
    ·have HS:=h_ (Bx.out rG)
     have e1:(p==(k:Int))=false:=beq_eq_false_iff_ne.2 rG;clear HY Bx rG;go_wp2;go_roundw
     case rel=>exact⟨k+1,by omega,by go_num,by rw[HS.out],by trivial⟩
     case measure=>simp[intOf];omega
   ·have gi:k=ns.length:=o_
    subst gi;go_wp2;go_ret
    exact⟨zo HR.out.symm,Ha⟩
theorem z33 (vn vl:Value) (ns ls:List Pr) (x:Int) (w:World) (hn:RP w vn ns) (hl:RP w vl ls) (hx:jl ns ls=x):
  CB_ 204 #[.agg #[vn,vl]] w (.int .i64 x):=by
 subst hx;exact z18 vn vl ns ls w hn hl
theorem z3d (vn vl:Value) (ns ls:List Pr) (x:Int) (w:World) (hn:RP w vn ns) (hl:RP w vl ls) (hx:jl ns ls=x):
  CB_ 148 #[.agg #[vn,vl]] w (.int .i64 x):=by
 subst hx;exact z21 vn vl ns ls w hn hl
theorem z1q (vn vl:Value) (ns ls:List Pr) (w:World) (hn:RP w vn ns) (hl:RP w vl ls):
  CB_ 142 #[.agg #[vn,vl]] w (.int .i64 (qD ns ls)):=by
 cases hw:winB ns ls
 ·have HR:Hid (qD ns ls=0):=h_ (by simp[qD,hw])
  go_enter Tryz.func142,Tryz.ntmps142
  go_wp2_with fail
  refine(zF _ _ ns ls _ _ (hn.below bel_) (hl.below bel_) hw).mono ?_
  rintro e w1 ⟨rfl,h9⟩;go_wp2;go_ret
  exact⟨zo HR.out.symm,by exact bel_⟩
 ·have Hh:=zq.1 hw
  have f8:=Hh.2.1;have GD:=Hh.2.2.1;have hpb:=Zq ns ls;obtain⟨P,hP⟩:∃P,jl ns ls=P:=⟨_,rfl⟩;have HR:Hid (qD ns ls=(ls.length:Int) -ns.length+1+P):=h_ (by unfold qD;rw[hw,aao rfl,hP]);rw[hP] at hpb;have HP:=h_ hP;obtain⟨An,cn,rfl,Fk,GL,_⟩:=hn.formI;obtain⟨Al,cl,rfl,Hy,Gz,_⟩:=hl.formI;unfold maxLen at GL Gz
  go_enter Tryz.func142,Tryz.ntmps142
  go_wp2_with fail
  refine(zF _ _ ns ls _ _ (hn.below bel_) (hl.below bel_) hw).mono ?_
  rintro e w1 ⟨rfl,h9⟩;have Ht:=h9.size;(try simp at Ht);(try have gF:=p0_ w w1)
  have Hz:Blk w1 w.heap.size 27 #[.slice An ns.length cn,.slice Al ls.length cl]:=Blk.below (Blk.newAt rfl) h9 sz_;have h8:Below w.heap.size w w1:=bel_
  have rn1:=hn.below h8;have rl1:=hl.below h8;have hw1a:IntKind.i64.wrap ((ls.length:Int) -(ns.length:Int))=(ls.length:Int) -(ns.length:Int):=aaP _ o_;have hw1b:IntKind.i64.wrap ((ls.length:Int) -(ns.length:Int)+1)=(ls.length:Int) -(ns.length:Int)+1:=aaP _ o_;have hw1c:IntKind.i64.wrap ((ls.length:Int) -(ns.length:Int)+1+P)=(ls.length:Int) -(ns.length:Int)+1+P:=aaP _ o_;obtain⟨a_0,a_1⟩:=Hz.c2
  go_wp2_with fail
  (refine z7 k_ k_ (fun hG=>?_))
  repeat (go_big_quiet_step ((go_at_call 204;exact zI (z33 _ _ ns ls P _ (rn1.below (Grw.below _)) (rl1.below (Grw.below _)) HP.out))))
  refine wpQuiet_nil ?_
  rintro w2 ⟨⟨_,F6⟩,rfl⟩;have Ha:=h8.trans (F6.mono h8.size);go_wp2;go_ret
  exact⟨zo HR.out.symm,Ha⟩
theorem z2L (vn vl:Value) (ns ls:List Pr) (w:World) (hn:RP w vn ns) (hl:RP w vl ls):
  CB_ 84 #[.agg #[vn,vl]] w (.int .i64 (qD ns ls)):=by
 cases hw:winB ns ls
 ·have HR:Hid (qD ns ls=0):=h_ (by simp[qD,hw])
  go_enter Tryz.func84,Tryz.ntmps84
  go_wp2_with fail
  refine(qa _ _ ns ls _ _ (hn.below bel_) (hl.below bel_) hw).mono ?_
  rintro e w1 ⟨rfl,h9⟩;go_wp2;go_ret
  exact⟨zo HR.out.symm,by exact bel_⟩
 ·have Hh:=zq.1 hw
  have f8:=Hh.2.1;have GD:=Hh.2.2.1;have hpb:=Zq ns ls;obtain⟨P,hP⟩:∃P,jl ns ls=P:=⟨_,rfl⟩;have HR:Hid (qD ns ls=(ls.length:Int) -ns.length+1+P):=h_ (by unfold qD;rw[hw,aao rfl,hP]);rw[hP] at hpb;have HP:=h_ hP;obtain⟨An,cn,rfl,Fk,GL,_⟩:=hn.formI;obtain⟨Al,cl,rfl,Hy,Gz,_⟩:=hl.formI;unfold maxLen at GL Gz
  go_enter Tryz.func84,Tryz.ntmps84
  go_wp2_with fail
  refine(qa _ _ ns ls _ _ (hn.below bel_) (hl.below bel_) hw).mono ?_
  rintro e w1 ⟨rfl,h9⟩;have Ht:=h9.size;(try simp at Ht);(try have gF:=p0_ w w1)
  have Hz:Blk w1 w.heap.size 27 #[.slice An ns.length cn,.slice Al ls.length cl]:=Blk.below (Blk.newAt rfl) h9 sz_;have h8:Below w.heap.size w w1:=bel_
  have rn1:=hn.below h8;have rl1:=hl.below h8;have hw1a:IntKind.i64.wrap ((ls.length:Int) -(ns.length:Int))=(ls.length:Int) -(ns.length:Int):=aaP _ o_;have hw1b:IntKind.i64.wrap ((ls.length:Int) -(ns.length:Int)+1)=(ls.length:Int) -(ns.length:Int)+1:=aaP _ o_;have hw1c:IntKind.i64.wrap ((ls.length:Int) -(ns.length:Int)+1+P)=(ls.length:Int) -(ns.length:Int)+1+P:=aaP _ o_;obtain⟨a_0,a_1⟩:=Hz.c2
  go_wp2_with fail
  (refine z7 k_ k_ (fun hG=>?_))
  repeat (go_big_quiet_step ((go_at_call 148;exact zI (z3d _ _ ns ls P _ (rn1.below (Grw.below _)) (rl1.below (Grw.below _)) HP.out))))
  refine wpQuiet_nil ?_
  rintro w2 ⟨⟨_,F6⟩,rfl⟩;have Ha:=h8.trans (F6.mono h8.size);go_wp2;go_ret
  exact⟨zo HR.out.symm,Ha⟩
theorem z3p (vn vl:Value) (ns ls:List Pr) (w:World) (hn:RP w vn ns) (hl:RP w vl ls):
  CB_ 75 #[.agg #[vn,vl]] w (.int .i64 (jD ns ls)):=by
 have hb:=VA ns ls;have HR:Hid (jD ns ls=mx2 0 (qD ns ls -1)):=h_ (by rw[vr];unfold jD;split<;>omega)
 go_enter Tryz.func75,Tryz.ntmps75
 go_wp2_with fail
 refine(z1q _ _ ns ls _ (hn.below bel_) (hl.below bel_)).mono ?_
 rintro e w1 ⟨rfl,h9⟩;have h8:Below w.heap.size w w1:=bel_
 generalize qD ns ls=C at*;go_wp2;go_ret
 exact⟨zo HR.out.symm,h8⟩
theorem z3v (vn vl:Value) (ns ls:List Pr) (w:World) (hn:RP w vn ns) (hl:RP w vl ls):
  CB_ 22 #[.agg #[vn,vl]] w (.int .i64 (jD ns ls)):=by
 have hb:=VA ns ls;have HR:Hid (jD ns ls=mx2 0 (qD ns ls -1)):=h_ (by rw[vr];unfold jD;split<;>omega)
 go_enter Tryz.func22,Tryz.ntmps22
 go_wp2_with fail
 refine(z2L _ _ ns ls _ (hn.below bel_) (hl.below bel_)).mono ?_
 rintro e w1 ⟨rfl,h9⟩;have h8:Below w.heap.size w w1:=bel_
 generalize qD ns ls=C at*;go_wp2;go_ret
 exact⟨zo HR.out.symm,h8⟩
theorem XA (vn vl:Value) (ns ls:List Pr) (x:Int) (w:World) (hn:RP w vn ns) (hl:RP w vl ls) (hx:jD ns ls=x):
  CB_ 75 #[.agg #[vn,vl]] w (.int .i64 x):=by
 subst hx;exact z3p vn vl ns ls w hn hl
theorem vm (vn vl:Value) (ns ls:List Pr) (x:Int) (w:World) (hn:RP w vn ns) (hl:RP w vl ls) (hx:jD ns ls=x):
  CB_ 22 #[.agg #[vn,vl]] w (.int .i64 x):=by
 subst hx;exact z3v vn vl ns ls w hn hl
end Go.Proofs.YtnjcpljhmhdhkaaGreat
