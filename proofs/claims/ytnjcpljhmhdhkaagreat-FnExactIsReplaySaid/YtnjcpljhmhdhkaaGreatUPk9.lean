/- part 9 -/
import Derived.Test.YtnjcpljhmhdhkaaGreatUPk8
import Derived.Deep.Slices
import Derived.Deep.Fields
import Derived.ChangeSame
import Derived.OwnWalk
import Derived.StillTailTactics
set_option linter.unusedSimpArgs false
set_option linter.unusedVariables false
set_option linter.unusedSectionVars false
set_option maxRecDepth 100000
set_option maxHeartbeats 8000000
namespace Go.Proofs.YtnjcpljhmhdhkaaGreat
open Go.RowKit
attribute [local go_sem ↓] qb qf
theorem z3y (vn vl u:Value) (ns ls:List Pr) (f:List Nat) (w:World) (hn:RP w vn ns) (hl:RP w vl ls) (hu:RI w u (natI f)) (hf:∀e∈f,e<2*ls.length) (GB:f.length<=40) (Hn:zL ns ls):
  CB_ 193 #[.agg #[vn,vl],u] w (.int .i64 (jX ns ls f)):=by
 have Hu:∀j:Nat,j<ls.length->zp ns (ndI ls j)=true:=fun j hj=>(Hn.2.2.2.2.2 j hj).1
 obtain⟨An,cn,rfl,ci,fC,Ht⟩:=hn.formI;obtain⟨bn,offn,rfl,GE,Gq⟩:=Ht (by have:=Hn.1;omega);obtain⟨Au,cu,rfl,hcu,hmu,cG⟩:=hu.form;rw[za] at hcu hmu cG hu⊢;unfold maxLen at fC hmu;have mT:=h_ (fun k hk=>VG Hn hf k hk);have HTO:=h_ (fun d (hd:d<2*ls.length)=>jK Hu hd);have mB:=h_ (fun d (hd:d<2*ls.length)=>qE Hu hd);have us:=h_ (fun t ht=>y7 Hn.2.2.2.1 t ht);have HAS:=h_ (XZ ns ls f);have HA0:Hid (yv ns ls f 0=0):=h_ rfl;have Ce:=h_ Gq;have HCU:=h_ cG;have HFM:=h_ hf
 go_enter Tryz.func193,Tryz.ntmps193
 go_wp2
 go_loopw [5,6] (fun n x wr=>∃k:Nat,k<=f.length/\x= .int .i64 k/\n= .int .i64 (yv ns ls f k)/\Blk wr w.heap.size 27 #[.slice (some ⟨bn,offn,none⟩) ns.length cn,vl]/\Below w.heap.size w wr) (fun _ x _=>f.length -(intOf x).toNat)
 case atStart=>exact⟨0,aab _,rfl,by rw[HA0.out],Blk.newAt rfl,by exact bel_⟩
 case round=>
  obtain⟨k,hk,rfl,rfl,hW,Hb⟩:=hrel;have gj:=hW.lt
  by_cases Hd:k<f.length
  ·have Hr:(k:Int)<(f.length:Int):=o_
   have ik1:(0:Int)<=(k:Int):=o_
   obtain⟨b4,off4,rfl,Hv,Fa⟩:=HCU.out o_;have GU:=Fa k Hd;rw[qj] at GU;have hx:=(Hb.cell (p:=⟨b4,off4+k,none⟩) Hv).trans GU;have Cc:f.getD k 0<2*ls.length:=HFM.out _ (by rw[List.getD,aac Hd];exact abh Hd);have NH:=h_ (HAS.out k);have fr:=mT.out k hk;generalize f.getD k 0=d at*;obtain⟨u,mu,GQ⟩:=HTO.out d Cc;obtain⟨t,Bj,Bm⟩:=mB.out d Cc;obtain⟨a_0,a_1⟩:=hW.c2;have Nx:RP wr vl ls:=hl.below Hb;have Yj:b4<wr.heap.size:=aaE Hv Hb.size
   go_wp2_with fail
   (refine z7 k_ k_ (fun hG=>?_))
   repeat (go_big_quiet_step ((go_at_call 192;exact zy (kR _ _ ls d _ (RS.grw _ Nx) Cc))))
   refine wpQuiet_nil ?_
   rintro w3 ⟨⟨_,Hf⟩,rfl⟩;have GJ:=hW.below Hf gj;have gz:=Hb.trans (Hf.mono Hb.size);have uQ:Hid (yB ns ls d=(ndI ns t).1*(ndI ns u).2 -(ndI ns t).2*(ndI ns u).1):=h_ (by unfold yB;rw[Bj,mu]);obtain⟨p0,p1,p2,p3⟩:=zx (us.out t Bm);obtain⟨q0,q1,q2,q3⟩:=zx (us.out u GQ);have hbn3:bn<w3.heap.size:=aaE GE gz.size;have GL:=GJ.lt;have it1:(0:Int)<=(t:Int):=o_
   have it2:(t:Int)<(ns.length:Int):=o_
   have iu1:(0:Int)<=(u:Int):=o_
   have iu2:(u:Int)<(ns.length:Int):=o_
   obtain⟨t0,t1⟩:=Ce.out t Bm;obtain⟨u0,u1⟩:=Ce.out u GQ;have c0:=(gz.cell (p:=⟨bn,offn+t*2,none⟩) GE).trans t0;have c1:=(gz.cell (p:=⟨bn,offn+t*2+1,none⟩) GE).trans t1;have c2:=(gz.cell (p:=⟨bn,offn+u*2,none⟩) GE).trans u0;have c3:=(gz.cell (p:=⟨bn,offn+u*2+1,none⟩) GE).trans u1;rw[mu,Bj];obtain⟨a_0,a_1⟩:=GJ.c2;generalize (ndI ns t).1=X at*;generalize (ndI ns t).2=Y at*;generalize (ndI ns u).1=U at*;generalize (ndI ns u).2=V at*;obtain⟨m1a,m1b⟩:=ku (u:=X) (v:=V) o_ o_ o_ o_;obtain⟨m2a,m2b⟩:=ku (u:=Y) (v:=U) o_ o_ o_ o_;obtain⟨ba,bb⟩:=fr
   go_wp2_with fail
   (refine z7 k_ k_ (fun hG=>?_))
   repeat (go_big_quiet_step (fail))
   refine wpQuiet_nil ?_
   rintro w4 ⟨⟨_,NI⟩,rfl⟩;have bV:=h_ (GJ.below NI GJ.lt);have NG:=h_ (gz.trans (NI.mono gz.size));go_wp2;go_roundw
   case rel=>exact⟨k+1,by omega,by go_num,by rw[NH.out,uQ.out];congr 1;omega,bV.out,NG.out⟩
   case measure=>simp[intOf];omega
  ·have Hw:k=f.length:=o_
   subst Hw;have HR:Hid (jX ns ls f=yv ns ls f f.length):=h_ rfl;go_wp2;go_ret
   exact⟨zb HR.out.symm,Hb⟩
theorem y6 {ns ls:List Pr} {k:Nat} (hk:k<(z9 ns ls).length):zL ns ls/\(∀e∈(z9 ns ls).getD k [],e<2*ls.length)/\0<((z9 ns ls).getD k []).length /\((z9 ns ls).getD k []).length <=40:=by
 cases hw:zf ns ls
 ·simp[z9,hw] at hk
 ·have Hn:=(zI hw).1
  have Hu:∀j:Nat,j<ls.length->zp ns (ndI ls j)=true:=fun j hj=>(Hn.2.2.2.2.2 j hj).1
  have GW:=Hn.2.2.1;have hF:z9 ns ls=zr ns ls (2*ls.length):=by simp[z9,hw];rfl
  rw[hF] at hk⊢;have hm:(zr ns ls (2*ls.length)).getD k []∈zr ns ls (2*ls.length):=by rw[List.getD,aac hk];exact abh hk
  obtain⟨h1,h2,h3⟩:=J7 Hu (2*ls.length) (aaa _) _ hm;exact⟨Hn,h1,h2,by omega⟩
theorem zq (ns ls:List Pr):(z9 ns ls).length <=40:=by
 cases hw:zf ns ls
 ·simp[z9,hw]
 ·have GW:=(zI hw).1.2.2.1
  have hF:z9 ns ls=zr ns ls (2*ls.length):=by simp[z9,hw];rfl
  rw[hF];have:=xv ns ls (2*ls.length);omega
noncomputable def je (ns ls:List Pr):Int:=z8x ns ls (z9 ns ls)
theorem XJ {ns ls:List Pr} {F:List (List Nat)} {m k:Nat} (h:jX ns ls (F.getD k [])<=0):jx ns ls F (m+1) k=k:=by simp only[jx];rw[aao h]
theorem z0q {ns ls:List Pr} {F:List (List Nat)} {m k:Nat} (h:¬jX ns ls (F.getD k [])<=0):jx ns ls F (m+1) k=jx ns ls F m (k+1):=by simp only[jx];rw[aaq h]
theorem Xy (vn vl:Value) (ns ls:List Pr) (w:World) (hn:RP w vn ns) (hl:RP w vl ls):
  CB_ 149 #[.agg #[vn,vl]] w (.int .i64 (je ns ls)):=by
 have Hg:Below w.heap.size w (w.alloc (.cells #[vn,vl] 27)):=bel_
 have gD:Blk (w.alloc (.cells #[vn,vl] 27)) w.heap.size 27 #[vn,vl]:=Blk.newAt rfl;have Ft:=h_ (fun k hk=>y6 (ns:=ns) (ls:=ls) (k:=k) hk);have GB:=zq ns ls;have HR:Hid (je ns ls=jx ns ls (z9 ns ls) (z9 ns ls).length 0):=h_ rfl;have HOY:=h_ (fun m k h=>XJ (ns:=ns) (ls:=ls) (F:=z9 ns ls) (m:=m) (k:=k) h);have HON:=h_ (fun m k h=>z0q (ns:=ns) (ls:=ls) (F:=z9 ns ls) (m:=m) (k:=k) h);have Yk:Hid (∀k,jx ns ls (z9 ns ls) 0 k= -1):=h_ (fun _=>rfl)
 go_enter Tryz.func149,Tryz.ntmps149
 go_wp2_with fail
 refine(jP vn vl ns ls _ (hn.below Hg) (hl.below Hg)).mono ?_
 rintro e w1 ⟨v1,rfl,Hj,h9⟩;have h8:=Hg.trans (h9.mono Hg.size);have gg:=gD.below h9 gD.lt;have Yl:=Hj.reads;generalize z9 ns ls=F at*;obtain⟨A1,c1,rfl,Gb,F4,Fi⟩:=Yl.get;unfold maxLen at F4;obtain⟨a_0,a_1⟩:=gg.c2;go_wp2
 go_loopw [8] (fun x wr=>∃k:Nat,k<=F.length/\x= .int .i64 k/\Hid (jx ns ls F F.length 0=jx ns ls F (F.length -k) k)/\RF wr (.slice A1 F.length c1) F/\Blk wr w.heap.size 27 #[vn,vl]/\Below w.heap.size w wr) (fun x _=>F.length -(intOf x).toNat)
 case atStart=>exact⟨0,aab _,rfl,h_ rfl,Yl,gg,h8⟩
 case round=>
  obtain⟨k,hk,rfl,HK,hF,hW,Hb⟩:=hrel;have gj:=hW.lt
  by_cases Hd:k<F.length
  ·have Hr:(k:Int)<(F.length:Int):=o_
   have ik1:(0:Int)<=(k:Int):=o_
   obtain⟨A2,c2,he2,_,_,hcell⟩:=hF.get
   cases he2
   obtain⟨b4,off4,rfl,Hv,Fa⟩:=hcell o_;obtain⟨rr,Bs,Nd⟩:=Fa k Hd;obtain⟨Hn,Nf,NJ,BN⟩:=Ft.out k Hd;have HAR:=h_ (fun (v:World) (u:Value) (hb:Below w.heap.size w v) (hu:RI v u (natI (F.getD k [])))=>z3X vn vl u ns ls (F.getD k []) v (hn.below hb) (hl.below hb) hu Nf BN Hn);have HY:=h_ (fun h=>HOY.out (F.length -(k+1)) k h);have BM:=h_ (fun h=>HON.out (F.length -(k+1)) k h);rw[show F.length -(k+1)+1=F.length -k by omega] at HY BM;generalize jX ns ls (F.getD k [])=z at*;obtain⟨a_0,a_1⟩:=hW.c2
   go_wp2_with fail
   refine(HAR.out wr rr Hb Nd).mono ?_
   rintro e w5 ⟨rfl,gf⟩;have BO:=hW.below gf gj;have hF5:=hF.below gf;have NK:=Hb.trans (gf.mono Hb.size)
   by_cases hz:z<=0
   ·have HX:=h_ (HY.out hz)
    go_wp2;go_ret
    exact⟨zb (by rw[HR.out,HK.out,HX.out]),NK⟩
   ·have HX:=h_ (BM.out o_)
    go_wp2;go_roundw
    case rel=>exact⟨k+1,by omega,by go_num,h_ (by rw[HK.out,HX.out]),hF5,BO,NK⟩
    case measure=>simp[intOf];omega
  ·have Hw:k=F.length:=o_
   have HX:Hid (jx ns ls F (F.length -k) k= -1):=h_ (by rw[Hw,aae];exact Yk.out _);go_wp2;go_ret
   exact⟨zb (by rw[HR.out,HK.out,HX.out]),Hb⟩
theorem Xk (vn vl:Value) (ns ls:List Pr) (w:World) (hn:RP w vn ns) (hl:RP w vl ls):
  CB_ 115 #[.agg #[vn,vl]] w (.int .i64 (je ns ls)):=by
 have Hg:Below w.heap.size w (w.alloc (.cells #[vn,vl] 27)):=bel_
 have gD:Blk (w.alloc (.cells #[vn,vl] 27)) w.heap.size 27 #[vn,vl]:=Blk.newAt rfl;have Ft:=h_ (fun k hk=>y6 (ns:=ns) (ls:=ls) (k:=k) hk);have GB:=zq ns ls;have HR:Hid (je ns ls=jx ns ls (z9 ns ls) (z9 ns ls).length 0):=h_ rfl;have HOY:=h_ (fun m k h=>XJ (ns:=ns) (ls:=ls) (F:=z9 ns ls) (m:=m) (k:=k) h);have HON:=h_ (fun m k h=>z0q (ns:=ns) (ls:=ls) (F:=z9 ns ls) (m:=m) (k:=k) h);have Yk:Hid (∀k,jx ns ls (z9 ns ls) 0 k= -1):=h_ (fun _=>rfl)
 go_enter Tryz.func115,Tryz.ntmps115
 go_wp2_with fail
 refine(jN vn vl ns ls _ (hn.below Hg) (hl.below Hg)).mono ?_
 rintro e w1 ⟨v1,rfl,Hj,h9⟩;have h8:=Hg.trans (h9.mono Hg.size);have gg:=gD.below h9 gD.lt;have Yl:=Hj.reads;generalize z9 ns ls=F at*;obtain⟨A1,c1,rfl,Gb,F4,Fi⟩:=Yl.get;unfold maxLen at F4;obtain⟨a_0,a_1⟩:=gg.c2;go_wp2
 go_loopw [4] (fun x wr=>∃k:Nat,k<=F.length/\x= .int .i64 k/\Hid (jx ns ls F F.length 0=jx ns ls F (F.length -k) k)/\RF wr (.slice A1 F.length c1) F/\Blk wr w.heap.size 27 #[vn,vl]/\Below w.heap.size w wr) (fun x _=>F.length -(intOf x).toNat)
 case atStart=>exact⟨0,aab _,rfl,h_ rfl,Yl,gg,h8⟩
 case round=>
  obtain⟨k,hk,rfl,HK,hF,hW,Hb⟩:=hrel;have gj:=hW.lt
  by_cases Hd:k<F.length
  ·have Hr:(k:Int)<(F.length:Int):=o_
   have ik1:(0:Int)<=(k:Int):=o_
   obtain⟨A2,c2,he2,_,_,hcell⟩:=hF.get
   cases he2
   obtain⟨b4,off4,rfl,Hv,Fa⟩:=hcell o_;obtain⟨rr,Bs,Nd⟩:=Fa k Hd;obtain⟨Hn,Nf,NJ,BN⟩:=Ft.out k Hd;have HAR:=h_ (fun (v:World) (u:Value) (hb:Below w.heap.size w v) (hu:RI v u (natI (F.getD k [])))=>z3y vn vl u ns ls (F.getD k []) v (hn.below hb) (hl.below hb) hu Nf BN Hn);have HY:=h_ (fun h=>HOY.out (F.length -(k+1)) k h);have BM:=h_ (fun h=>HON.out (F.length -(k+1)) k h);rw[show F.length -(k+1)+1=F.length -k by omega] at HY BM;generalize jX ns ls (F.getD k [])=z at*;obtain⟨a_0,a_1⟩:=hW.c2
   go_wp2_with fail
   (refine z7 k_ k_ (fun hG=>?_))
   repeat (go_big_quiet_step ((go_at_call 193;exact zy (HAR.out _ rr (Hb.trans (Below.mono (Grw.below _) Hb.size)) (RS.grw _ Nd)))))
   refine wpQuiet_nil ?_
   rintro w5 ⟨⟨_,gf⟩,rfl⟩;have BO:=hW.below gf gj;have hF5:=hF.below gf;have NK:=Hb.trans (gf.mono Hb.size)
   by_cases hz:z<=0
   ·have HX:=h_ (HY.out hz)
    go_wp2;go_ret
    exact⟨zb (by rw[HR.out,HK.out,HX.out]),NK⟩
   ·have HX:=h_ (BM.out o_)
    go_wp2;go_roundw
    case rel=>exact⟨k+1,by omega,by go_num,h_ (by rw[HK.out,HX.out]),hF5,BO,NK⟩
    case measure=>simp[intOf];omega
  ·have Hw:k=F.length:=o_
   have HX:Hid (jx ns ls F (F.length -k) k= -1):=h_ (by rw[Hw,aae];exact Yk.out _);go_wp2;go_ret
   exact⟨zb (by rw[HR.out,HK.out,HX.out]),Hb⟩
theorem OwnF.get {base:Nat} {w:World} {v:Value} {F:List (List Nat)} (h:OwnF base w v F) {k:Nat} (hk:k<F.length):∃g c u,v= .slice (some ⟨g,0,none⟩) F.length c/\F.length<=c/\base<=g/\g<w.heap.size/\w.cell? ⟨g,k,none⟩=some u/\OwnI base w u (natI (F.getD k [])):=by
 obtain⟨vs,h1,h2,h3⟩:=h
 rcases h2.2 with ⟨_,hn⟩|⟨g,cap,cur,rfl,hb,hh,hc,_⟩
 ·omega
 ·refine⟨g,cap,vs.getD k undef,rfl,hc,hb,(World.ownsRow.lt h2 g rfl).2,?_,h3 k hk⟩
  rw[h2.cellAt k o_,List.getD,aac o_];rfl
theorem OwnI.blk {base:Nat} {w:World} {u:Value} {zs:List Int} (h:OwnI base w u zs) (h0:0<zs.length):∃g c,u= .slice (some ⟨g,0,none⟩) zs.length c/\zs.length<=c/\base<=g/\g<w.heap.size/\∀q,q<zs.length->w.cell? ⟨g,q,none⟩=some (.int .i64 (zs.getD q 0)):=by
 rcases h.2 with ⟨_,hn⟩|⟨g,cap,cur,rfl,hb,hh,hc,_⟩
 ·omega
 ·exact⟨g,cap,rfl,hc,hb,(h.lt g rfl).2,fun q hq=>h.cell hq⟩
theorem zR {w:World} {ops:Array Oper} {rest:List Oper} {o:Oper} {a:Act} {Q:Exit->Act->World->Prop} (FH:o.guard=none) (s x:Operand)
  (ho:o.op= .call { callee:= .builtin .append,args:= #[s,x],argTypes:= #[31,31] })
  (base:Nat) (v:Value) (zs:List Int) (z:Int) (hs:a.eval s=v) (g:Nat) (hx:a.eval x= .slice (some ⟨g,0,none⟩) 1 1) (hg:w.cell? ⟨g,0,none⟩=some (.int .i64 z))
  (hown:OwnI base w v zs) (Hi:zs.length<=1048576) (H9:base<=w.heap.size)
  (h:∀v' w',OwnI base w' v' (zs++[z])->w.grownBy w' v.ownBlock->(v'.ownBlock=v.ownBlock∨v'.ownBlock=some w.heap.size)->wpList Tryz.prog ops Q rest (a.put o.dst v') w'):wpList Tryz.prog ops Q (o::rest) a w:=by
 obtain⟨i,hi,hz,H7,gG⟩:=info_parts ql
 exact wpList_append_own_at w FH s x 31 ho base 3 i (.int .i64 0) 1 8 Tryz.underlying31 hi hz H7 gG rfl (by decide) v zs.length _ hs hown ⟨g,0,none⟩ 1 1 [.int .i64 z] hx rfl
  (fun j y hj=>by
   match j,hj with
   |0,hj=>cases hj;exact hg
   |j+1,hj=>simp at hj)
  (by intro y hy;simp at hy;subst hy;rfl) (by unfold maxLen;omega) o_ H9 fun v' w' e1 e2 _ e3=>h v' w' (OwnI.snoc e1) e2 e3
def nodK (ls:List Pr) (f:List Nat) (k:Nat):List Int:=(f.take k).map (zc ls)
theorem z0Z {ls:List Pr} {f:List Nat} {k:Nat} (h:k<f.length):nodK ls f (k+1)=nodK ls f k++[zc ls (f.getD k 0)]:=by
 unfold nodK;rw[aax h,aaA,show f.getD k 0=f[k] by simp[List.getD,h]];rfl
theorem XH {ls:List Pr} {f:List Nat} {k:Nat} (h:k<=f.length):(nodK ls f k).length =k:=by simp[nodK];omega
def nodF (ls:List Pr) (f:List Nat):List Int:=nodK ls f f.length
theorem VQ (ls:List Pr) (f:List Nat):(nodF ls f).length =f.length:=XH (aaa _)
noncomputable def qV (ns ls:List Pr) (f:Int):List Int:=if inB f 0 (((z9 ns ls).length :Int) -1) then nodF ls ((z9 ns ls).getD f.toNat []) else []
noncomputable def yf (ns ls:List Pr) (f:Int):Bool:=decide (0<(qV ns ls f).length)&&(@decide ((qV ns ls f).Nodup) (Classical.propDecidable _)&& !(decide (f=je ns ls)))
theorem kF {ns ls:List Pr} {f:Int} (h:inB f 0 (((z9 ns ls).length :Int) -1)=false):qV ns ls f=[]:=by simp[qV,h]
theorem QJ {ns ls:List Pr} {k:Nat} (h:k<(z9 ns ls).length):qV ns ls k=nodF ls ((z9 ns ls).getD k []):=by
 unfold qV;rw[aao (zd.2 o_),aa6]
theorem QA (ns ls:List Pr) (f:Int):(qV ns ls f).length <=40:=by
 cases h:inB f 0 (((z9 ns ls).length :Int) -1)
 ·rw[kF h];simp
 ·obtain⟨k,rfl⟩:∃k:Nat,f=k:=⟨f.toNat,by have:=zd.1 h;omega⟩
  have hk:k<(z9 ns ls).length :=by have:=zd.1 h;omega
  rw[QJ hk,VQ];exact(y6 hk).2.2.2
theorem XO (vn vl:Value) (ns ls:List Pr) (f:Int) (w:World) (hn:RP w vn ns) (hl:RP w vl ls):
  Calls Tryz.prog 114 #[.agg #[vn,vl],.int .i64 f] w (RetI (qV ns ls f) w):=by
 have fe:Below w.heap.size w ((w.alloc (.cells #[vn,vl] 27)).alloc (.cells #[] 3)):=bel_
 have BP:Blk ((w.alloc (.cells #[vn,vl] 27)).alloc (.cells #[] 3)) w.heap.size 27 #[vn,vl]:=(Blk.newAt rfl).alloc _;have hOA:OwnI (w.heap.size+1) ((w.alloc (.cells #[vn,vl] 27)).alloc (.cells #[] 3)) (.slice (some ⟨w.heap.size+1,0,none⟩) 0 0) []:=OwnI.made (by simp) (by simp);have GB:=zq ns ls;have CX:=h_ (fun (v:World) (hb:Below w.heap.size w v)=>jN vn vl ns ls v (hn.below hb) (hl.below hb));obtain⟨i0,hi,iz0,iz1,iz2⟩:=info_parts ql
 cases Gp:inB f 0 (((z9 ns ls).length :Int) -1)
 ·have HR:=h_ (kF (f:=f) Gp)
  generalize z9 ns ls=F at*;have Uc:=h_ Gp
  go_enter Tryz.func114,Tryz.ntmps114
  go_wp2_with fail
  refine(CX.out _ fe).mono ?_
  rintro e w1 ⟨v1,rfl,Hj,h9⟩;obtain⟨A1,c1,rfl⟩:=Hj.form;have Gi:=hOA.kept h9;have h8:=fe.trans (h9.mono fe.size)
  go_wp2_with fail
  refine(qa _ _ _ _).mono ?_
  rintro e w' ⟨rfl,rfl⟩;rw[Uc.out];go_wp2;go_ret
  exact⟨_,rfl,by rw[HR.out];exact Gi.mono o_,h8⟩
 ·obtain⟨k,rfl⟩:∃k:Nat,f=k:=⟨f.toNat,by have:=zd.1 Gp;omega⟩
  have hk:k<(z9 ns ls).length :=by have:=zd.1 Gp;omega
  have HR:=h_ (QJ hk);obtain⟨Hn,Nf,NJ,BN⟩:=y6 hk;generalize z9 ns ls=F at*;generalize hff:F.getD k []=ff at*;have Hy:=h_ hff;have Ym:=h_ Nf;have Ud:=h_ (fun j hj=>z0Z (ls:=ls) (f:=ff) (k:=j) hj);have mQ:=h_ (fun j hj=>XH (ls:=ls) (f:=ff) (k:=j) hj);have mU:Hid (nodK ls ff 0=[]):=h_ rfl;have HNF:Hid (nodF ls ff=nodK ls ff ff.length):=h_ rfl;have Uc:=h_ Gp;have F5:(k:Int)<(F.length:Int):=o_
  have ik1:(0:Int)<=(k:Int):=o_
  go_enter Tryz.func114,Tryz.ntmps114
  go_wp2_with fail
  refine(CX.out _ fe).mono ?_
  rintro e w1 ⟨v1,rfl,Hj,h9⟩;have h8:=fe.trans (h9.mono fe.size);have gg:=BP.below h9 BP.lt;have Gi:=hOA.kept h9;obtain⟨b4,c1,rr,rfl,Gb,uA,Hv,Bs,Nd⟩:=Hj.get hk;rw[Hy.out] at Nd;have fG:=za ff;obtain⟨b5,c2,rfl,fa,GR,gf,BQ⟩:=Nd.blk o_;rw[fG] at BQ Bs fa;have Yn:=h_ BQ;have Cs:w.heap.size+1≠b4:=by simp at uA;omega
  have hap5:w.heap.size+1≠b5:=by simp at GR;omega
  go_wp2_with fail
  refine(qa _ _ _ _).mono ?_
  rintro e w' ⟨rfl,rfl⟩;rw[Uc.out];go_wp2
  go_loopw [5,7] (fun v x wr=>∃j:Nat,j<=ff.length/\x= .int .i64 j/\OwnI (w.heap.size+1) wr v (nodK ls ff j)/\Blk wr w.heap.size 27 #[vn,vl]/\Below w.heap.size w wr/\wr.cell? ⟨b4,k,none⟩=some (.slice (some ⟨b5,0,none⟩) ff.length c2)/\w1.heap.size<=wr.heap.size/\(∀q,v.ownBlock=some q->q≠b4/\q≠b5)/\Hid (∀q,q<ff.length->wr.cell? ⟨b5,q,none⟩=some (.int .i64 ((natI ff).getD q 0)))) (fun _ x _=>ff.length -(intOf x).toNat)
  case atStart=>exact⟨0,aab _,rfl,by rw[mU.out];exact Gi,gg,h8,Bs,aaa _,fun q hq=>(by cases hq;exact⟨Cs,hap5⟩),Yn⟩
  case round=>
   obtain⟨j,hj,rfl,ho,hW,Hb,Bs,Yo,bK,cX⟩:=hrel;have gj:=hW.lt;have Yj:b4<wr.heap.size:=o_
   have hb52:b5<wr.heap.size:=o_
   obtain⟨a_0,a_1⟩:=hW.c2
   by_cases Hd:j<ff.length
   ·have Hr:(j:Int)<(ff.length:Int):=o_
    have ij1:(0:Int)<=(j:Int):=o_
    have hx:=cX.out j Hd;rw[qj] at hx;have Cc:ff.getD j 0<2*ls.length:=Ym.out _ (by rw[List.getD,aac Hd];exact abh Hd);have HS:=h_ (Ud.out j Hd);have hgl:=mQ.out j hj;generalize ff.getD j 0=d at*;have Nx:RP wr vl ls:=hl.below Hb
    go_wp2_with fail
    (refine z7 k_ k_ (fun hG=>?_))
    repeat (go_big_quiet_step ((go_at_call 192;exact zy (kR _ _ ls d _ (RS.grw _ Nx) Cc))))
    refine wpQuiet_nil ?_
    rintro w3 ⟨⟨_,Hf⟩,rfl⟩;have Hq:=ho.kept Hf;have GJ:=hW.below Hf gj;have gz:=Hb.trans (Hf.mono Hb.size);have hcr3:=(Hf.cell (p:=⟨b4,k,none⟩) Yj).trans Bs;have HCL3:Hid (∀q,q<ff.length->w3.cell? ⟨b5,q,none⟩=some (.int .i64 ((natI ff).getD q 0))):=h_ (fun q hq=>(Hf.cell (p:=⟨b5,q,none⟩) hb52).trans (cX.out q hq));have fA:=Hf.size;generalize zc ls d=z at*;generalize nodK ls ff j=G at*
    go_wp2_with (at_builtin;refine zR rfl _ _ rfl (w.heap.size+1) _ G z rfl w3.heap.size rfl (qH rfl) (Hq.alloc _) o_ (by simp;omega) ?_)
    intro v2 w2 Hm Gr gS;have gn:Below w.heap.size w w2:=(gz.alloc gz.size (.cells #[.int .i64 z] 3)).grown Gr (by simp;omega) (fun q hq=>by have:=(Hq.lt q hq).1;omega);have gV:Blk w2 w.heap.size 27 #[vn,vl]:=(Gr.block _ (by simp;omega) (fun e=>by have:=(Hq.lt _ e.symm).1;omega)).trans (GJ.alloc _)
    have Cp:w2.cell? ⟨b4,k,none⟩=some (.slice (some ⟨b5,0,none⟩) ff.length c2):=by
     rw[World.cell?_of_block (Gr.block b4 (by simp;omega) (fun e=>(bK b4 e.symm).1 rfl))];exact(((aaj w3.heap.size w3).alloc (aaa _) _).cell (p:=⟨b4,k,none⟩) (show b4<w3.heap.size by omega)).trans hcr3
    have Ue:Hid (∀q,q<ff.length->w2.cell? ⟨b5,q,none⟩=some (.int .i64 ((natI ff).getD q 0))):=h_ (fun q hq=>by
     rw[World.cell?_of_block (Gr.block b5 (by simp;omega) (fun e=>(bK b5 e.symm).2 rfl))];exact(((aaj w3.heap.size w3).alloc (aaa _) _).cell (p:=⟨b5,q,none⟩) (show b5<w3.heap.size by omega)).trans (HCL3.out q hq))
    have Gd:=Gr.size;simp at Gd
    have hap2:∀q,v2.ownBlock=some q->q≠b4/\q≠b5:=by
     intro q hq
     rcases gS with h|h
     ·rw[h] at hq;exact bK q hq
     ·rw[h] at hq
      simp at hq
      omega
    go_wp2;go_roundw
    case rel=>exact⟨j+1,by omega,by go_num,by rw[HS.out];exact Hm,gV,gn,Cp,by omega,hap2,Ue⟩
    case measure=>simp[intOf];omega
   ·have GV:j=ff.length:=o_
    subst GV;go_wp2;go_ret
    exact⟨_,rfl,by rw[HR.out,HNF.out];exact ho.mono o_,Hb⟩
def disK (G:List Int) (k:Nat):Prop:=∀i j,i<j->j<k->G.getD i 0≠G.getD j 0
theorem z1c (G:List Int):disK G 0:=fun i j _ h=>absurd h o_
theorem z0E {G:List Int} {k:Nat} (h:disK G k) (h2:∀i,i<k->G.getD i 0≠G.getD k 0):disK G (k+1):=by
 intro i j h3 h4
 rcases Nat.lt_succ_iff_lt_or_eq.1 h4 with h5|h5
 ·exact h i j h3 h5
 ·subst h5;exact h2 i h3
theorem Vy {G:List Int}:disK G G.length↔G.Nodup:=by
 rw[List.nodup_iff_pairwise_ne,aa8]
 constructor
 ·intro h i j hi hj nU
  have:=h i j nU hj
  simpa[List.getD,hi,hj] using this
 ·intro h i j nU hj
  have:=h i j o_ hj nU
  simpa[List.getD,hj,show i<G.length by omega] using this
theorem z2Q {ns ls:List Pr} {f:Int} (h:(qV ns ls f).length =0):yf ns ls f=false:=by simp[yf,h]
theorem z32 {ns ls:List Pr} {f:Int} {i j:Nat} (nU:i<j) (hj:j<(qV ns ls f).length) (h:(qV ns ls f).getD i 0=(qV ns ls f).getD j 0):yf ns ls f=false:=by
 have:¬(qV ns ls f).Nodup :=fun hn=>Vy.2 hn i j nU hj h
 unfold yf;simp[this]
theorem z4g {ns ls:List Pr} {f:Int} (h0:0<(qV ns ls f).length) (h:disK (qV ns ls f) (qV ns ls f).length):yf ns ls f= !(decide (f=je ns ls)):=by
 have h1:=Vy.1 h;have h2:decide (0<(qV ns ls f).length)=true:=by simp;omega
 have h3: @decide ((qV ns ls f).Nodup) (Classical.propDecidable _)=true:=by simp[h1]
 unfold yf;rw[h2,h3,aaS,aaS]
theorem z4a (vn vl:Value) (ns ls:List Pr) (f:Int) (w:World) (hn:RP w vn ns) (hl:RP w vl ls):
  CB_ 41 #[.agg #[vn,vl],.int .i64 f] w (.bool (yf ns ls f)):=by
 have fe:Below w.heap.size w (w.alloc (.cells #[vn,vl] 27)):=bel_
 have BP:Blk (w.alloc (.cells #[vn,vl] 27)) w.heap.size 27 #[vn,vl]:=Blk.newAt rfl;have hle:=QA ns ls f;have mU:=h_ (fun h=>z2Q (ns:=ns) (ls:=ls) (f:=f) h);have F9:=h_ (fun i j h1 h2 h3=>z32 (ns:=ns) (ls:=ls) (f:=f) (i:=i) (j:=j) h1 h2 h3);have HY:=h_ (fun h0 h=>z4g (ns:=ns) (ls:=ls) (f:=f) h0 h);have U1:=h_ (fun (v:World) (hb:Below w.heap.size w v)=>XO vn vl ns ls f v (hn.below hb) (hl.below hb));have M8:=h_ (fun (v:World) (hb:Below w.heap.size w v)=>Xk vn vl ns ls v (hn.below hb) (hl.below hb));generalize qV ns ls f=G at*;generalize je ns ls=o at*
 go_enter Tryz.func41,Tryz.ntmps41
 go_wp2_with fail
 refine(U1.out _ fe).mono ?_
 rintro e w1 ⟨v1,rfl,Hj,h9⟩;have h8:=fe.trans (h9.mono fe.size);have gg:=BP.below h9 BP.lt;obtain⟨A1,c1,rfl,Gb,F4,hcell⟩:=Hj.reads.form;have uB:=h_ hcell;unfold maxLen at F4;obtain⟨a_0,a_1⟩:=gg.c2;go_wp2
 go_loopw [6] (fun x wr=>∃k:Nat,k<=G.length/\x= .int .i64 k/\Hid (disK G k)/\Blk wr w.heap.size 27 #[vn,vl]/\Below w.heap.size w wr/\Below w1.heap.size w1 wr) (fun x _=>G.length -(intOf x).toNat)
 case atStart=>exact⟨0,aab _,rfl,h_ (z1c G),gg,h8,aaj _ _⟩
 case round=>
  obtain⟨k,hk,rfl,HK,hW,Hb,h9⟩:=hrel
  by_cases Hd:k<G.length
  ·have Hr:(k:Int)<(G.length:Int):=o_
   have ik1:(0:Int)<=(k:Int):=o_
   go_wp2
   go_loopw [7] (fun x wr=>∃i:Nat,i<=k/\x= .int .i64 i/\Hid (∀q,q<i->G.getD q 0≠G.getD k 0)/\Blk wr w.heap.size 27 #[vn,vl]/\Below w.heap.size w wr/\Below w1.heap.size w1 wr) (fun x _=>k -(intOf x).toNat)
   case atStart=>exact⟨0,aab _,rfl,h_ (fun q hq=>absurd hq o_),hW,Hb,h9⟩
   case round=>
    obtain⟨i,hi,rfl,HI,hW,Hb,h9⟩:=hrel;have gj:=hW.lt
    by_cases U2:i<k
    ·have hik1:(i:Int)<(k:Int):=o_
     have ii1:(0:Int)<=(i:Int):=o_
     have ii2:(i:Int)<(G.length:Int):=o_
     obtain⟨b4,off4,rfl,Hv,Fa⟩:=uB.out o_;have q0:=(h9.cell (p:=⟨b4,off4+i,none⟩) Hv).trans (Fa i o_);have q1:=(h9.cell (p:=⟨b4,off4+k,none⟩) Hv).trans (Fa k Hd);have Yj:b4<wr.heap.size:=aaE Hv h9.size;have HX:=h_ (fun h=>F9.out i k U2 Hd h)
     have U3:Hid (G.getD i 0≠G.getD k 0->∀q,q<i+1->G.getD q 0≠G.getD k 0):=h_ (fun h q hq=>by
      rcases Nat.lt_succ_iff_lt_or_eq.1 hq with h1|h1
      ·exact HI.out q h1
      ·subst h1;exact h)
     generalize hy:G.getD i 0=y at*;generalize hz:G.getD k 0=z at*
     by_cases he:y=z
     ·have e1:(y==z)=true:=by simp[he]
      have HR:=h_ (HX.out he)
      go_wp2_with fail
      (refine z7 k_ k_ (fun hG=>?_))
      repeat (go_big_quiet_step (fail))
      refine wpQuiet_nil ?_
      rintro w3 ⟨⟨_,Hf⟩,rfl⟩;go_wp2;go_ret
      exact⟨z8 HR.out.symm,Hb.trans (Hf.mono Hb.size)⟩
     ·have e1:(y==z)=false:=by simp[he]
      have HNE2:=h_ (U3.out he)
      go_wp2_with fail
      (refine z7 k_ k_ (fun hG=>?_))
      repeat (go_big_quiet_step (fail))
      refine wpQuiet_nil ?_
      rintro w3 ⟨⟨_,Hf⟩,rfl⟩;have GJ:=hW.below Hf gj;have gz:=Hb.trans (Hf.mono Hb.size);have CY:=h9.trans (Hf.mono h9.size);go_wp2;go_roundw
      case rel=>exact⟨i+1,by omega,by go_num,HNE2,GJ,gz,CY⟩
      case measure=>simp[intOf];omega
    ·have NF:i=k:=o_
     subst NF;have HD:=h_ (z0E HK.out HI.out);go_wp2;go_roundw
     case rel=>exact⟨i+1,by omega,by go_num,HD,hW,Hb,h9⟩
     case measure=>simp[intOf];omega
  ·have Hw:k=G.length:=o_
   subst Hw
   by_cases h0:G.length=0
   ·have HR:=h_ (mU.out h0)
    go_wp2;go_ret
    exact⟨z8 HR.out.symm,Hb⟩
   ·have HR:=h_ (HY.out o_ HK.out)
    have e1:(0:Int)<(G.length:Int):=o_
    have e2:0<G.length:=o_
    obtain⟨a_0,a_1⟩:=hW.c2
    go_wp2_with fail
    refine(M8.out _ Hb).mono ?_
    rintro e w5 ⟨rfl,gf⟩;go_wp2;go_ret
    refine⟨z8 ?_,Hb.trans (gf.mono Hb.size)⟩
    rw[HR.out]
    by_cases Yp:f=o
    ·simp[Yp]
    ·simp[Yp]
structure Rc where
 s:Int
 a:Int
 l:Int
 m:Int
def Rc.cs (r:Rc):List Value:=[.int .i64 r.s,.int .i64 r.a,.int .i64 r.l,.int .i64 r.m]
def RR (w:World) (v:Value) (l:List Rc):Prop:=RS w 4 v l.length (l.flatMap Rc.cs)
open Go.ChangeShapes Go.WideShapes Go.Deep Go.RowKit
section
variable {H:Type} {enc:TypeId×Value->H} {P:Program} {w:World} {base:Nat} {spare:Nat->Bool} {Gg:Bool}
theorem Zk {t e:TypeId} {fs:Array Field} {fuel:Nat} {cs:List Value} {x:DataW H×List MemPlace} (ht:P.underlying t=some (.slice e)) (he:P.underlying e=some (.struct fs))
  (fL:oneCellFields P fs=true) (hC:P.cellsOf e=fs.size) (h:DataW.trod enc P w base spare Gg fuel t cs=some x):
  (cs=[.slice none 0 0]/\x=(.nil,[]))∨
  ∃(a:Addr) (len cap m:Nat) (D:Nat->DataW H) (Pl:Nat->List MemPlace),cs=[.slice (some a) len cap]/\base<=a.block/\len<=cap/\cap<=maxLen/\m=(if spare a.block then cap else len)/\
   x=(.slice ((List.range len).map D) ((List.range (m -len)).map fun j=>D (len+j)),MemPlace.row a (m*fs.size)++(List.range m).flatMap Pl)/\
   ∀i,i<m->∃(ys:List (DataW H×List MemPlace)) (n:Nat),D i= .agg (ys.map (·.1))/\Pl i=ys.flatMap (·.2)/\ys.length=fs.size/\
    ∀(j:Nat) (f:Field),fs[j]? =some f->∃(v:Value) (y:DataW H×List MemPlace),w.cell? (a.add (i*fs.size+j))=some v/\ys[j]? =some y/\DataW.trod enc P w base spare Gg n f.type [v]=some y:=by
 rcases open_slice ht h with h0|⟨a,len,cap,m,n,D,Pl,Gu,hb,hl,hm,c9,hx,hi⟩
 ·exact .inl h0
 ·refine .inr ⟨a,len,cap,m,D,Pl,Gu,hb,hl,hm,c9,by rw[hC] at hx;exact hx,fun i him=>?_⟩
  obtain⟨cs',hc,Bj⟩:=hi i him;rw[hC] at hc;obtain⟨ys,n',FM,hy,Hi,fM,hf⟩:=DataW.trod_struct he Bj;obtain⟨_,Ho,Gy⟩:=World.cells?_some hc;simp only[Prod.mk.injEq] at hy
  refine⟨ys,n',hy.1,hy.2,fM,fun j f hj=>?_⟩
  obtain⟨ho,hk⟩:=hone_of fL j f hj;have FL:j<fs.size:=(Array.getElem?_eq_some_iff.1 hj).1;have hcell:=Gy j FL;have hv:cs'[j]? =some (cs'[j]'o_):=aac o_;have h1:=hf j f hj;rw[ho,hk] at h1
  have Nr:(cs'.drop j).take 1=[cs'[j]'o_]:=by
   rw[aas o_];rfl
  rw[Nr] at h1;have hys:ys[j]? =some (ys[j]'o_):=aac o_;refine⟨_,_,?_,hys,h1.trans hys⟩
  rw[<-Go.Deep.add_add,hcell,hv]
theorem z19 {t e:TypeId} {fs:Array Field} {fuel:Nat} {A:Option Addr} {len cap:Nat} {x:DataW H×List MemPlace} (ht:P.underlying t=some (.slice e)) (he:P.underlying e=some (.struct fs))
  (fL:oneCellFields P fs=true) (hC:P.cellsOf e=fs.size) (hfs:0<fs.size) (hint:∀(j:Nat) (f:Field),fs[j]? =some f->P.underlying f.type=some (.int .i64))
  (h:DataW.trod enc P w base spare Gg fuel t [.slice A len cap]=some x):
  ∃f:Nat->Int,len<=cap/\len<=maxLen/\(0<len->∃b off,A=some ⟨b,off,none⟩/\b<w.heap.size/\∀i j,i<len->j<fs.size->w.cell? ⟨b,off+(i*fs.size+j),none⟩=some (.int .i64 (f (i*fs.size+j)))):=by
 rcases Zk ht he fL hC h with ⟨Gu,_⟩|⟨a,len',cap',m,D,Pl,Gu,hb,hl,hm,c9,hx,hi⟩
 ·simp only[List.cons.injEq,Value.slice.injEq,and_true] at Gu
  obtain⟨rfl,rfl,rfl⟩:=Gu;exact⟨fun _=>0,aaa _,by simp[maxLen],fun h=>absurd h o_⟩
 ·simp only[List.cons.injEq,Value.slice.injEq,and_true] at Gu
  obtain⟨rfl,rfl,rfl⟩:=Gu;refine⟨fun j=>intOf ((w.cell? (a.add j)).getD undef),hl,by omega,fun GD=>?_⟩
  have hlm:len<=m:=by rw[c9];split<;>omega
  have key:∀i j,i<len->j<fs.size->∃n:Int,w.cell? (a.add (i*fs.size+j))=some (.int .i64 n):=by
   intro i j Fm hj;obtain⟨ys,n,_,_,_,hf⟩:=hi i o_;obtain⟨v,y,hcell,_,uR⟩:=hf j fs[j] (abo hj);obtain⟨q,e0,_,_⟩:=DataW.trod_int (hint j fs[j] (abo hj)) uR;simp at e0
   subst e0;exact⟨q,hcell⟩
  ·obtain⟨n0,fH⟩:=key 0 0 GD hfs
   have nW:a.spot=none:=by
    cases hs:a.spot with
    |none=>rfl
    |some s=>
     have e0:a.add (0*fs.size+0)=a:=by simp[Addr.add]
     rw[e0] at fH;unfold World.cell? at fH
     split at fH
     ·rw[hs] at fH;simp at fH
     ·cases fH
   obtain⟨b,off,sp⟩:=a;simp at nW
   subst nW
   have CQ:∀k,(⟨b,off,none⟩:Addr).add k=⟨b,off+k,none⟩:=by
    intro k;unfold Addr.add
    split<;>simp_all
   refine⟨b,off,rfl,?_,fun i j Fm hj=>?_⟩
   ·have:=World.block_lt_of_cell? w _ fH
    rw[CQ] at this;exact this
   ·obtain⟨n,hn⟩:=key i j Fm hj
    rw[CQ] at hn;rw[hn];simp only[CQ,hn]
    rfl
end
open Go.ChangeShapes Go.WideShapes Go.RowKit
structure Dp where
 k:Int
 a:Int
 b:Int
def Dp.cs (r:Dp):List Value:=[.int .i64 r.k,.int .i64 r.a,.int .i64 r.b]
def RDp (w:World) (v:Value) (l:List Dp):Prop:=RS w 3 v l.length (l.flatMap Dp.cs)
theorem RDp.below {w w':World} {v:Value} {l:List Dp} (h:RDp w v l) (hb:Below w.heap.size w w'):RDp w' v l:=RS.below h hb
theorem RDp.form {w:World} {v:Value} {l:List Dp} (h:RDp w v l):∃A c,v= .slice A l.length c/\l.length<=c/\l.length<=maxLen/\
  (0<l.length->∃b off,A=some ⟨b,off,none⟩/\b<w.heap.size/\∀k (hk:k<l.length),w.cell? ⟨b,off+k*3,none⟩=some (.int .i64 l[k].k)/\w.cell? ⟨b,off+k*3+1,none⟩=some (.int .i64 l[k].a)/\
   w.cell? ⟨b,off+k*3+2,none⟩=some (.int .i64 l[k].b)):=by
 obtain⟨_,A,c,hv,h1,h2,h3⟩:=h;refine⟨A,c,hv,h1,h2,fun hn=>?_⟩
 obtain⟨b,off,hA,Hd,hc⟩:=h3 hn;refine⟨b,off,hA,Hd,fun k hk=>?_⟩
 have g:=fun j hj=>qi Dp.cs 3 (fun _=>rfl) l k j hk hj
 refine⟨?_,?_,?_⟩
 ·exact hc (k*3+0) _ (by rw[g 0 o_];rfl)
 ·have:=hc (k*3+1) _ (by rw[g 1 o_];rfl);rwa [<-aak] at this
 ·have:=hc (k*3+2) _ (by rw[g 2 o_];rfl);rwa [<-aak] at this
theorem z76 (k a b:Int) (w:World):
  CB_ 170 #[.agg #[.int .i64 k,.int .i64 a,.int .i64 b]] w (.agg #[.int .i64 k,.int .i64 a,.int .i64 b]):=by
 go_enter Tryz.func170,Tryz.ntmps170
 go_wp2;exact bodyPost_ret (v:= .agg #[.int .i64 k,.int .i64 a,.int .i64 b]) (by simp[results,Tryz.results170,go_sem]) rfl ⟨rfl,by exact bel_⟩
section
variable {H:Type} {enc:TypeId×Value->H} {w:World} {base:Nat} {spare:Nat->Bool} {Gg:Bool}
theorem z2r {n:Nat} {A:Option Addr} {len cap:Nat} {x:DataW H×List MemPlace} (hf:DataW.trod enc Tryz.prog w base spare Gg n 59 [.slice A len cap]=some x):
  ∃l:List Dp,RDp w (.slice A len cap) l:=by
 obtain⟨f,Yq,hm,hc⟩:=z19 Tryz.underlying59 Tryz.underlying165 k_ k_ (by decide) (fun j g hj=>by
  match j,hj with
  |0,hj=>cases hj;exact Tryz.underlying3
  |1,hj=>cases hj;exact Tryz.underlying3
  |2,hj=>cases hj;exact Tryz.underlying3
  |j+3,hj=>simp at hj) (by simpa[Value.cells] using hf)
 refine⟨(List.range len).map fun i=>⟨f (i*3+0),f (i*3+1),f (i*3+2)⟩,?_,A,cap,by simp,by simpa using Yq,by simpa using hm,fun GD=>?_⟩
 ·rw[zK Dp.cs 3 (fun _=>rfl)]
 ·obtain⟨b,off,hA,hb,hcell⟩:=hc (by simpa using GD)
  refine⟨b,off,hA,hb,fun j u hu=>?_⟩
  have hj:j<len*3:=by
   have:=(List.getElem?_eq_some_iff.1 hu).1;rw[zK Dp.cs 3 (fun _=>rfl)] at this
   simpa using this
  have hq:j/3<len:=o_
  have hr:j%3<3:=o_
  have e:j/3*3+j%3=j:=o_
  have h1:=hcell (j/3) (j%3) hq hr;have h2:=qi Dp.cs 3 (fun _=>rfl) ((List.range len).map fun i=>(⟨f (i*3+0),f (i*3+1),f (i*3+2)⟩:Dp)) (j/3) (j%3) (by simpa using hq) hr;rw[e,hu] at h2
  show w.cell? ⟨b,off+j,none⟩=some u
  have e':off+j=off+(j/3*3+j%3):=o_
  rw[e',h2];refine Eq.trans h1 ?_
  have:j%3=0∨j%3=1∨j%3=2:=o_
  rcases this with h|h|h<;>rw[h]<;>simp[Dp.cs]
end
theorem Vh (v:Value) (l:List Dp) (n:Int) (w:World) (h:RDp w v l) (h0:0<=n) (h1:n<=1000000000):
  Calls Tryz.prog 92 #[v,.int .i64 n] w fun e w'=>e= .returned (.int .i64 (szF n l.length))/\w=w':=by
 obtain⟨A,c,rfl,hc,hm,hcell⟩:=h.form;unfold maxLen at hm
 by_cases Hd:n<l.length
 ·have fS:n -(l.length:Int)<0:=o_
  have HF:Hid (szF n l.length= -1):=h_ (by unfold szF;rw[aao Hd])
  go_enter Tryz.func92,Tryz.ntmps92
  go_wp2
  all_goals go_ret
  all_goals exact⟨zb HF.out.symm,rfl⟩
 ·have fS:¬n -(l.length:Int)<0:=o_
  have HF:Hid (szF n l.length=n -l.length):=h_ (by unfold szF;rw[aaq Hd])
  go_enter Tryz.func92,Tryz.ntmps92
  go_wp2
  all_goals go_ret
  all_goals exact⟨zb HF.out.symm,rfl⟩
theorem vB:(Tryz.prog.info? 48).map (fun i=>(i.zero,i.size,i.bytes))=some (some (.agg #[.int .i64 0,.int .i64 0,.int .i64 0]),3,24):=by kernel_rfl
def kC (l:List Dp) (k:Nat):List Value:=(l.take k).flatMap Dp.cs++List.replicate ((l.length -k)*3) (.int .i64 0)
theorem z5q (l:List Dp):kC l l.length=l.flatMap Dp.cs:=by simp[kC]
theorem z4y (l:List Dp) (k j:Nat) (h:k<l.length) (hj:j<3):(kC l k)[k*3+j]? =some (.int .i64 0):=by
 unfold kC;have hl:((l.take k).flatMap Dp.cs).length =k*3:=by rw[zK Dp.cs 3 (fun _=>rfl),abn,Nat.min_eq_left o_]
 rw[abc o_,hl,Nat.add_sub_cancel_left,abm,aao];have:1*3<=(l.length -k)*3:=Nat.mul_le_mul_right _ o_;omega
theorem z45 (l:List Dp) (k:Nat) (h:k<l.length):
  kC l (k+1)=((((kC l k).set (k*3) (.int .i64 l[k].k)).set (k*3+1) (.int .i64 l[k].a)).set (k*3+2) (.int .i64 l[k].b)):=by
 unfold kC;have hl:((l.take k).flatMap Dp.cs).length =k*3:=by rw[zK Dp.cs 3 (fun _=>rfl),abn,Nat.min_eq_left o_]
 have hr:(l.length -k)*3=(l.length -(k+1))*3+1+1+1:=by
  have:l.length -k=(l.length -(k+1))+1:=o_
  rw[this,Nat.add_mul]
 rw[aax h,aaY,hr]
 have e0:∀(x:List Value) (y:List Value) (n j:Nat) (u:Value),x.length=n->(x++y).set (n+j) u=x++y.set j u:=by
  intro x y n j u hx;rw[aan,aaq o_,hx,Nat.add_sub_cancel_left]
 rw[show k*3=k*3+0 from rfl,e0 _ _ _ 0 _ hl,aaf,e0 _ _ _ 1 _ hl,e0 _ _ _ 2 _ hl];simp[List.replicate_succ,Dp.cs]
theorem made3d (n:Nat):(madeCells #[.int .i64 0,.int .i64 0,.int .i64 0] n).toList =List.replicate n (.int .i64 0):=by
 apply aat
 intro j
 by_cases hj:j<n
 ·simp only[madeCells,Array.toList_map,aau,Array.toList_range,aav hj,abm,aao hj,aaw]
  congr 1
  have:j%3=0∨j%3=1∨j%3=2:=o_
  show #[Value.int .i64 0,.int .i64 0,.int .i64 0][j%3]! =_
  rcases this with h|h|h<;>rw[h]<;>rfl
 ·simp[madeCells,hj]
def zk (base:Nat) (w:World) (v:Value) (l:List Dp):Prop:=w.ownsRow base 48 3 v l.length (l.flatMap Dp.cs)
theorem zk.reads {base:Nat} {w:World} {v:Value} {l:List Dp} (h:zk base w v l):RDp w v l:=kE h
theorem zk.kept {base:Nat} {w w':World} {v:Value} {l:List Dp} (h:zk base w v l) (hb:Below w.heap.size w w'):zk base w' v l:=zZ h hb
def zaD (l:List Dp) (w:World) (e:Ending) (w':World):Prop:=∃v,e= .returned v/\zk w.heap.size w' v l/\Below w.heap.size w w'
theorem Xo (v:Value) (l:List Dp) (w:World) (h:RDp w v l) (hle:l.length<=1048576):
  Calls Tryz.prog 95 #[v] w (zaD l w):=by
 obtain⟨A,c,rfl,hc,hm,hcell⟩:=h.form;obtain⟨i0,hi,mC,H8,Gd⟩:=info_parts vB
 go_enter Tryz.func95,Tryz.ntmps95
 go_wp2_with (at_make;refine wpList_make_full _ rfl _ _ 32 rfl w.heap.size 48 i0 (.agg #[.int .i64 0,.int .i64 0,.int .i64 0]) 3 Tryz.underlying32 hi mC H8 .i64 .i64 _ _ l.length rfl rfl rfl rfl (by rw[Gd];omega) (by unfold maxLen;omega) (aaa _) ?_)
 intro w1 Hz gQ;have h9:Below w.heap.size w w1:=(aaj _ _).grown gQ (aaa _) (by intro k hk;cases hk)
 have hown:w1.ownsRow w.heap.size 48 3 (.slice (some ⟨w.heap.size,0,none⟩) l.length l.length) l.length (kC l 0):=by
  rw[made3d] at Hz
  simpa[kC] using Hz
 go_wp2
 go_loopw [4] (fun i wr=>∃k:Nat,k<=l.length/\i= .int .i64 k/\wr.ownsRow w.heap.size 48 3 (.slice (some ⟨w.heap.size,0,none⟩) l.length l.length) l.length (kC l k)/\Below w.heap.size w wr) (fun i _=>l.length -(intOf i).toNat)
 case atStart=>exact⟨0,aab _,rfl,hown,h9⟩
 case round=>
  obtain⟨k,hk,rfl,ho,Hb⟩:=hrel;have gj:=Hb.size
  by_cases Hd:k<l.length
  ·obtain⟨b,off,rfl,hb,Ho⟩:=hcell o_
   obtain⟨k0,k1,k2⟩:=Ho k Hd;have q0:=(Hb.cell (p:=⟨b,off+k*3,none⟩) hb).trans k0;have q1:=(Hb.cell (p:=⟨b,off+k*3+1,none⟩) hb).trans k1;have q2:=(Hb.cell (p:=⟨b,off+k*3+2,none⟩) hb).trans k2
   go_wp2_with fail
   refine(z76 _ _ _ _).mono ?_
   rintro e w2 ⟨rfl,He⟩;have Hm:=zZ ho He;have gn:Below w.heap.size w w2:=bel_
   have x0:=Hm.cellAt (k*3+0) o_;have x1:=Hm.cellAt (k*3+1) o_;have x2:=Hm.cellAt (k*3+2) o_;have f0:=Hm.frozenAt (k*3);have f1:=Hm.frozenAt (k*3+1);have f2:=Hm.frozenAt (k*3+2);rw[z4y l k _ Hd o_] at x0 x1 x2;rw[aaf] at x0;have s1:=(Hm.stored (k*3) (.int .i64 l[k].k)).1;have s2:=(s1.stored (k*3+1) (.int .i64 l[k].a)).1;have s3:=(s2.stored (k*3+2) (.int .i64 l[k].b)).1;rw[<-z45 l k Hd] at s3;have HB:=((gn.setCell (p:=⟨w.heap.size,k*3,none⟩) (aaa _) (.int .i64 l[k].k)).setCell (p:=⟨w.heap.size,k*3+1,none⟩) (aaa _) (.int .i64 l[k].a)).setCell (p:=⟨w.heap.size,k*3+2,none⟩) (aaa _) (.int .i64 l[k].b);have HS:=h_ s3;have mv:=h_ HB;go_wp2;go_roundw
   case rel=>exact⟨k+1,by omega,by go_num,HS.out,mv.out⟩
   case measure=>simp[intOf];omega
  ·have Hw:k=l.length:=o_
   subst Hw;rw[z5q] at ho;have HO:=h_ ho;have HB:=h_ Hb;go_wp2;go_ret
   exact⟨_,rfl,HO.out,HB.out⟩
theorem z7n (a b c a' b' c':Int) (w:World):
  Calls Tryz.prog 174 #[.agg #[.int .i64 a,.int .i64 b,.int .i64 c],.agg #[.int .i64 a',.int .i64 b',.int .i64 c']] w
   fun e w'=>e= .returned (.bool (a==a'&&b==b'&&c==c'))/\Below w.heap.size w w':=by
 go_enter Tryz.func174,Tryz.ntmps174
 go_wp2
 all_goals go_ret
 all_goals refine⟨z8 ?_,by exact bel_⟩
 all_goals simp_all
theorem Dp.beq_self (r:Dp):(r.k==r.k&&r.a==r.a&&r.b==r.b)=true:=by simp
theorem Vu (v u:Value) (l:List Dp) (w:World) (hv:RDp w v l) (hu:RDp w u l):
  CB_ 98 #[v,u] w (.bool true):=by
 obtain⟨A,c,rfl,hc,hm,hcell⟩:=hv.form;obtain⟨A',c',rfl,Nn,ce,Hs⟩:=hu.form;unfold maxLen at hm ce
 go_enter Tryz.func98,Tryz.ntmps98
 go_wp2
 go_loopw [5] (fun i wr=>∃k:Nat,k<=l.length/\i= .int .i64 k/\Below w.heap.size w wr) (fun i _=>l.length -(intOf i).toNat)
 case atStart=>exact⟨0,aab _,rfl,aaj _ _⟩
 case round=>
  obtain⟨k,hk,rfl,Hb⟩:=hrel;have gj:=Hb.size
  by_cases Hd:k<l.length
  ·obtain⟨b,off,rfl,hb,Ho⟩:=hcell o_
   obtain⟨k0,k1,k2⟩:=Ho k Hd;have q0:=(Hb.cell (p:=⟨b,off+k*3,none⟩) hb).trans k0;have q1:=(Hb.cell (p:=⟨b,off+k*3+1,none⟩) hb).trans k1;have q2:=(Hb.cell (p:=⟨b,off+k*3+2,none⟩) hb).trans k2;obtain⟨b',off',rfl,gw,Gw⟩:=Hs o_;obtain⟨j0,j1,j2⟩:=Gw k Hd;have p0:=(Hb.cell (p:=⟨b',off'+k*3,none⟩) gw).trans j0;have p1:=(Hb.cell (p:=⟨b',off'+k*3+1,none⟩) gw).trans j1;have p2:=(Hb.cell (p:=⟨b',off'+k*3+2,none⟩) gw).trans j2;have FT:(0:Int)<=(k:Int):=o_
   have cf:(k:Int)<(l.length:Int):=o_
   go_wp2
   go_still_tail 8,k_
   go_wp2_with fail
   refine(z7n _ _ _ _ _ _ _).mono ?_
   rw[Dp.beq_self];rintro e w2 ⟨rfl,He⟩;have gn:Below w.heap.size w w2:=Hb.trans ((show Below wr.heap.size wr w2 from⟨He.os,He.tape,He.output,He.size,He.block⟩).mono gj);go_wp2;go_roundw
   case rel=>exact⟨k+1,by omega,by go_num,gn⟩
   case measure=>simp[intOf];omega
  ·go_wp2
   go_ret
   exact⟨rfl,Hb⟩
theorem zk.nil (base:Nat) (w:World):zk base w (.slice none 0 0) []:=World.ownsRow_nil _ _ _ _
theorem z7t {n:Nat} {ls:List Pr} (hl:Z0 n ls) {c:Nat}:∀k,∀i,i<n->(zt (2^c) ls k).testBit i=true->(zi n ls ls.length).getD i 0=(zi n ls ls.length).getD c 0:=by
 have step:∀(m:Nat),m<=ls.length->∀s:Nat,(∀i,i<n->s.testBit i=true->(zi n ls ls.length).getD i 0=(zi n ls ls.length).getD c 0)->∀i,i<n->(qh s (ls.take m)).testBit i=true->(zi n ls ls.length).getD i 0=(zi n ls ls.length).getD c 0:=by
  intro m
  induction m with
  |zero=>intro _ s h i hi hb;exact h i hi (by simpa[qh] using hb)
  |succ m ih=>
   intro hm s h i hi hb;have ih':=ih o_ s h;rw[aax o_,kw] at hb;generalize qh s (ls.take m)=t at*;obtain⟨p,q,g1,g2,g3,g4⟩:=hl m o_;have FI:=Zc hl ls.length (aaa _) m o_ p q g1 g2;rw[qd ls m o_] at g1 g2;have gw:(addS t ls[m]).testBit i=true:=hb;unfold addS at gw;rw[g1,g2,aa6,aa6] at gw
   split at gw
   ·rename_i CW
    rw[aa2,aa2,aaI,aaI] at gw
    have BK:(zi n ls ls.length).getD p 0=(zi n ls ls.length).getD c 0:=by
     rw[aaI] at CW
     rcases CW with h5|h5
     ·exact ih' p g3 h5
     ·rw[FI];exact ih' q g4 h5
    rcases gw with h5|h5|h5
    ·exact ih' i hi h5
    ·rw[aa3] at h5
     have:p=i:=by simpa using h5
     rw[<-this];exact BK
    ·rw[aa3] at h5
     have:q=i:=by simpa using h5
     rw[<-this,<-FI];exact BK
   ·exact ih' i hi gw
 intro k
 induction k with
 |zero=>
  intro i hi hb;rw[show zt (2^c) ls 0=2^c from rfl,aa3] at hb;have:c=i:=by simpa using hb
  rw[this]
 |succ k ih=>
  intro i hi hb;have:=step ls.length (aaa _) (zt (2^c) ls k) ih i hi;rw[aaB] at this;exact this hb
theorem Xh {S p:Nat} (hp:S.testBit p=true) (hl:∀i,i<p->S.testBit i=false):∀n,(n<=p->memS S n=[])/\(p<n->(memS S n)[0]? =some p)
 |0=>⟨fun _=>rfl,fun h=>absurd h o_⟩
 |n+1=>by
  have ih:=Xh hp hl n
  have e:memS S (n+1)=memS S n++(if S.testBit n=true then [n] else []):=by
   unfold memS;rw[abf,abg]
   congr 1
   by_cases h:S.testBit n=true<;>simp[h]
  constructor
  ·intro h
   rw[e,ih.1 o_,aaq (by rw[hl n o_];simp)];rfl
  ·intro h
   by_cases hn:p<n
   ·rw[e,abd,ih.2 hn]
    have:=ih.2 hn;exact(List.getElem?_eq_some_iff.1 this).1
   ·have hpn:n=p:=o_
    subst hpn;rw[e,ih.1 o_,aao hp];rfl
theorem z5r {n:Nat} {ls:List Pr} (hl:Z0 n ls) {c:Nat} (hc:c<n):
  ∃p:Nat,(zi n ls ls.length).getD c 0=(p:Int)/\p<=c/\(memS (zt (2^c) ls n) n)[0]? =some p:=by
 have Gc:∀l∈ls,l.1.toNat <n/\l.2.toNat <n:=by
  intro l hm;obtain⟨j,hj,e⟩:=abb hm;obtain⟨p,q,h1,h2,h3,h4⟩:=hl j hj;rw[qd ls j hj,e] at h1 h2;rw[h1,h2,aa6,aa6];exact⟨h3,h4⟩
 have h1:(2:Nat)^c<2^n:=aa4 o_ hc;have F4:0<(memS (2^c) n).length :=abi (a:=c) (by simp[memS,hc,abz]);have hf:=z0O (Xj h1 F4 Gc)
 have cF:∀k,(zt (2^c) ls k).testBit c=true:=by
  intro k
  induction k with
  |zero=>exact abz
  |succ k ih=>exact vV ls _ ih
 have BK:=z7t hl (c:=c) n;have hself:=cF n;generalize zt (2^c) ls n=S at*;have fr:=ZQ hl ls.length (aaa _) c hc
 have Ho:=vF hl (fun i=>S.testBit i=true) (fun j hj p q hp hq=>by
  have:=hf ls[j] (abh hj);rw[qd ls j hj] at hp hq;rw[hp,hq,aa6,aa6] at this;exact this) ls.length (aaa _) c hc
 obtain⟨p,hp⟩:∃p:Nat,(zi n ls ls.length).getD c 0=(p:Int):=⟨((zi n ls ls.length).getD c 0).toNat,(Int.toNat_of_nonneg fr.1).symm⟩;rw[hp,aa6] at Ho;rw[hp] at fr BK;refine⟨p,hp,by omega,(Xh (Ho.1 hself) (fun i hi=>?_) n).2 o_⟩
 cases hb:S.testBit i
 ·rfl
 ·have h2:=BK i o_ hb
  have h3:=ZQ hl ls.length (aaa _) i o_;omega
namespace Swp
variable {m n:Nat} (S:Swp m n)
structure Ring (s:Nat) (U:Nat->Prop) (R up:Nat->Bool) (ld:Nat->Nat) (bf:Nat->Nat->Prop):Prop where
 lt:∀e,U e->ld e<m
 ra:∀e,U e->R e=true->S.a (ld e)=s
 lb:∀e,U e->R e=false->S.b (ld e)=s
 allR:∀k,k<m->S.a k=s->∃e,U e/\R e=true/\ld e=k
 allL:∀k,k<m->S.b k=s->∃e,U e/\R e=false/\ld e=k
 one:∀d e,U d->U e->R d=R e->ld d=ld e->d=e
 du:∀d e,U d->U e->R d=R e->up d=false->up e=true->S.Bel (ld d) (ld e)
 bfRR:∀d e,U d->U e->R d=true->R e=true->(bf d e↔(up d=true/\up e=false)∨(up d=up e/\S.Bel (ld d) (ld e)))
 bfLL:∀d e,U d->U e->R d=false->R e=false->(bf d e↔(up d=true/\up e=false)∨(up d=up e/\S.Bel (ld e) (ld d)))
 bfRL:∀d e,U d->U e->R d=true->R e=false->(bf d e↔up d=true)
 bfLR:∀d e,U d->U e->R d=false->R e=true->(bf d e↔up e=false)
variable {s:Nat} {U:Nat->Prop} {R up:Nat->Bool} {ld:Nat->Nat} {bf:Nat->Nat->Prop}
end Swp
def qB (F:List (List Nat)) (d:Nat):Nat:=F.findIdx (·.contains d)
theorem yr {F:List (List Nat)} {d:Nat} (h:d∈F.flatten):qB F d<F.length/\d∈F.getD (qB F d) []:=by
 rw[List.mem_flatten] at h;obtain⟨f,hf,hd⟩:=h;have h1:qB F d<F.length:=List.findIdx_lt_length_of_exists ⟨f,hf,by simpa using hd⟩;refine⟨h1,?_⟩
 have h2:(F[qB F d]'h1).contains d=true:=List.findIdx_getElem (w:=h1);rw[List.getD,aac h1]
 simpa using h2
theorem j9:∀ {F:List (List Nat)},F.flatten.Nodup->∀ {i j d:Nat},i<F.length->j<F.length->d∈F.getD i []->d∈F.getD j []->i=j
 | [],_,i,j,d,hi,_,_,_=>absurd hi (by simp)
 |f::F,hn,i,j,d,hi,hj,h1,h2=>by
  rw[List.flatten_cons,List.nodup_append] at hn;obtain⟨_,CK,hn3⟩:=hn
  have mem:∀k,k<F.length->d∈F.getD k []->d∈F.flatten:=fun k hk hd=>by
   rw[List.mem_flatten];rw[List.getD,aac hk] at hd;exact⟨F[k],abh hk,by simpa using hd⟩
  match i,j with
  |0,0=>rfl
  |0,j+1=>exact absurd rfl (hn3 d (by simpa using h1) d (mem j (by simpa using hj) (by simpa using h2)))
  |i+1,0=>exact absurd rfl (hn3 d (by simpa using h2) d (mem i (by simpa using hi) (by simpa using h1)))
  |i+1,j+1=>rw[j9 CK (show i<F.length by simpa using hi) (show j<F.length by simpa using hj) (by simpa using h1) (by simpa using h2)]
section
variable {ns ls:List Pr} (Hu:∀j:Nat,j<ls.length->zp ns (ndI ls j)=true)
include Hu
theorem z3F {f d:Nat} (hf:f<(zg ns ls).length) (hd:d∈(zg ns ls).getD f []):qB (zg ns ls) d=f:=by
 obtain⟨_,h2,_⟩:=qS Hu (2*ls.length) (aaa _)
 have hm:d∈(zg ns ls).flatten :=by
  rw[List.mem_flatten];rw[List.getD,aac hf] at hd;exact⟨_,abh hf,by simpa using hd⟩
 obtain⟨g1,g2⟩:=yr hm;exact j9 h2 g1 hf g2 hd
theorem z4K {d:Nat} (hd:d<2*ls.length):qB (zg ns ls) (qZ ns ls d)=qB (zg ns ls) d:=by
 obtain⟨h1,h2,h3⟩:=qS Hu (2*ls.length) (aaa _);obtain⟨g1,g2⟩:=yr (h1 d hd);refine z3F Hu g1 ?_
 have hm:(zr ns ls (2*ls.length)).getD (qB (zr ns ls (2*ls.length)) d) []∈zr ns ls (2*ls.length):=by
  rw[List.getD,aac g1];exact abh g1
 obtain⟨e,he,hw⟩:=h3 _ hm;rw[hw] at g2
 show qZ ns ls d∈(zr ns ls (2*ls.length)).getD (qB (zr ns ls (2*ls.length)) d) []
 rw[hw];obtain⟨i,hi⟩:=(yx Hu he d).1 g2;exact(yx Hu he _).2 ⟨i+1,by rw[<-hi];rfl⟩
theorem z3b {f:Nat} (hf:f<(zg ns ls).length):∃d,d<2*ls.length/\qB (zg ns ls) d=f:=by
 obtain⟨_,_,h3⟩:=qS Hu (2*ls.length) (aaa _);obtain⟨e,he,hw⟩:=h3 _ (abh hf);refine⟨e,he,z3F Hu hf ?_⟩
 have hw':(zg ns ls)[f]=qF ns ls e:=hw;rw[List.getD,aac hf,Option.getD_some,hw'];exact z1u Hu he
end
theorem z9M (g:Nat->Int) (bf:Nat->Bool) (d:Nat) (G:List Nat):((insN bf d G).map g).sum =g d+(G.map g).sum :=by
 unfold insN;have hs:=abp (posN bf G G.length) G;generalize G.take (posN bf G G.length)=a at*;generalize G.drop (posN bf G G.length)=b at*;subst hs;simp only[aaA,List.sum_append,aaT,List.sum_cons]
 omega
theorem z2d (ns ls:List Pr) (g:Nat->Int) (k:Nat):∀m,((ardS ns ls k m).map g).sum =sumR m (fun d=>if zc ls d=(k:Int) then g d else 0)
 |0=>by simp[ardS,sumR]
 |m+1=>by
  simp only[sumR]
  by_cases h:zc ls m=k
  ·rw[kH h,z9M,z2d ns ls g k m,aao h];omega
  ·rw[Qv h,z2d ns ls g k m,aaq h];omega
theorem z69 {ns ls:List Pr} {k i:Nat} (hi:i<(ardS ns ls k (2*ls.length)).length):
  vj ns ls ((ardS ns ls k (2*ls.length)).getD i 0)=(ardS ns ls k (2*ls.length)).getD ((i+(ardS ns ls k (2*ls.length)).length -1)%(ardS ns ls k (2*ls.length)).length) 0:=by
 have hm:(ardS ns ls k (2*ls.length)).getD i 0∈ardS ns ls k (2*ls.length):=by
  rw[List.getD,aac hi];exact abh hi
 obtain⟨h1,h2⟩:=(yg ns ls k _ _).1 hm
 have hr:qI ns ls ((ardS ns ls k (2*ls.length)).getD i 0)=ardS ns ls k (2*ls.length):=by
  unfold qI;rw[h2,aa6]
 unfold vj;rw[hr]
 have hx:(ardS ns ls k (2*ls.length)).idxOf ((ardS ns ls k (2*ls.length)).getD i 0)=i:=by
  rw[List.getD,aac hi];simp only[Option.getD_some]
  have Hd:=abu (abh hi);exact(List.getElem_inj (vQ ns ls k (2*ls.length))).1 (List.getElem_idxOf Hd)
 rw[hx]
theorem z8X (ns ls:List Pr) (g:Nat->Int) (k:Nat):((ardS ns ls k (2*ls.length)).map (fun e=>g (vj ns ls e))).sum =((ardS ns ls k (2*ls.length)).map g).sum :=by
 rw[Xs,Xs,<-z9w (fun i=>g ((ardS ns ls k (2*ls.length)).getD i 0))];exact yL _ (fun i hi=>by rw[z69 hi])
theorem z7J {ns ls:List Pr} {g:Nat->Int} (hg:∀d,d<2*ls.length->g (qZ ns ls d)=g d) (k:Nat):
  sumR (2*ls.length) (fun d=>if zc ls d=(k:Int) then g d -g (twin d) else 0)=0:=by
 rw[<-z2d ns ls (fun d=>g d -g (twin d)) k]
 have h1:((ardS ns ls k (2*ls.length)).map (fun d=>g d -g (twin d))).sum =((ardS ns ls k (2*ls.length)).map g).sum -((ardS ns ls k (2*ls.length)).map (fun d=>g (twin d))).sum :=by
  generalize ardS ns ls k (2*ls.length)=R
  induction R with
  |nil=>rfl
  |cons a R ih=>simp only[aaT,List.sum_cons] at ih⊢;omega
 rw[h1]
 have h2:(ardS ns ls k (2*ls.length)).map (fun d=>g (twin d))=(ardS ns ls k (2*ls.length)).map (fun e=>g (vj ns ls e)):=by
  refine List.map_congr_left (fun e he=>?_)
  have hd:=((yg ns ls k _ _).1 he).1;have:=hg (twin e) (jv hd);unfold qZ at this;rw[vL] at this;exact this.symm
 rw[h2,z8X ns ls];omega
section
variable {ns ls:List Pr} (Hu:∀j:Nat,j<ls.length->zp ns (ndI ls j)=true)
include Hu
theorem z8u {g:Nat->Int} (hg:∀d,d<2*ls.length->g (qZ ns ls d)=g d) (X:Nat->Int):
  sumR ls.length (fun j=>(X (zc ls (2*j)).toNat -X (dTo ls (2*j)).toNat)*(g (2*j) -g (2*j+1)))=0:=by
 have h0:sumR ns.length (fun v=>sumR (2*ls.length) (fun d=>if (v:Nat)=(zc ls d).toNat then X v*(g d -g (twin d)) else 0))=0:=by
  refine Ji _ (fun v hv=>?_)
  have h:=z7J hg v
  have e:sumR (2*ls.length) (fun d=>if (v:Nat)=(zc ls d).toNat then X v*(g d -g (twin d)) else 0)=X v*sumR (2*ls.length) (fun d=>if zc ls d=(v:Int) then g d -g (twin d) else 0):=by
   have hm:∀m,m<=2*ls.length->sumR m (fun d=>if (v:Nat)=(zc ls d).toNat then X v*(g d -g (twin d)) else 0)=X v*sumR m (fun d=>if zc ls d=(v:Int) then g d -g (twin d) else 0):=by
    intro m
    induction m with
    |zero=>intro _;simp[sumR]
    |succ m ih=>
     intro hm;simp only[sumR]
     rw[ih o_,Int.mul_add];obtain⟨t,ht,_⟩:=qE Hu (show m<2*ls.length by omega)
     by_cases hv2:t=v
     ·rw[aao (by rw[ht,aa6];exact hv2.symm),aao (by rw[ht,hv2])]
     ·rw[aaq (by rw[ht,aa6];exact fun h=>hv2 h.symm),aaq (by rw[ht];omega),Int.mul_zero]
   exact hm _ (aaa _)
  rw[e,h,Int.mul_zero]
 rw[z1m] at h0
 have h1:sumR (2*ls.length) (fun d=>sumR ns.length (fun v=>if v=(zc ls d).toNat then X v*(g d -g (twin d)) else 0))=sumR (2*ls.length) (fun d=>X (zc ls d).toNat *(g d -g (twin d))):=by
  refine yL _ (fun d hd=>?_)
  obtain⟨t,ht,hl⟩:=qE Hu hd;rw[J8 (fun v=>X v*(g d -g (twin d))) (zc ls d).toNat ns.length,aao (by rw[ht,aa6];exact hl)]
 rw[h1,z2A] at h0;rw[<-h0];refine yL _ (fun j hj=>?_)
 have t1:twin (2*j)=2*j+1:=by unfold twin;rw[aao o_]
 have t2:twin (2*j+1)=2*j:=by unfold twin;rw[aaq o_];omega
 have t3:zc ls (2*j+1)=dTo ls (2*j):=by rw[<-t1,jy]
 rw[t1,t2,t3,Int.sub_mul]
 have:X (dTo ls (2*j)).toNat *(g (2*j+1) -g (2*j))= -(X (dTo ls (2*j)).toNat *(g (2*j) -g (2*j+1))):=by
  rw[<-Int.mul_neg];congr 1;omega
 omega
theorem Jr {g:Nat->Int} (hg:∀d,d<2*ls.length->g (qZ ns ls d)=g d) (ht:∀d,d<2*ls.length->g (twin d)=g d) {d e:Nat} (hd:d<2*ls.length) (he:e<2*ls.length) (hf:zc ls d=zc ls e):g d=g e:=by
 obtain⟨k,hk,_⟩:=qE Hu hd
 have key:∀i,i<(ardS ns ls k (2*ls.length)).length ->g ((ardS ns ls k (2*ls.length)).getD i 0)=g ((ardS ns ls k (2*ls.length)).getD 0 0):=by
  intro i
  induction i with
  |zero=>intro _;rfl
  |succ i ih=>
   intro hi;rw[<-ih o_];have h1:=z69 (ns:=ns) (ls:=ls) hi;rw[show i+1+(ardS ns ls k (2*ls.length)).length -1=i+(ardS ns ls k (2*ls.length)).length by omega,Nat.add_mod_right,abv o_] at h1;rw[<-h1]
   have hm:(ardS ns ls k (2*ls.length)).getD (i+1) 0∈ardS ns ls k (2*ls.length):=by
    rw[List.getD,aac hi];exact abh hi
   have hl:=((yg ns ls k _ _).1 hm).1;generalize (ardS ns ls k (2*ls.length)).getD (i+1) 0=x at*;have h2:=hg (twin x) (jv hl);unfold qZ at h2;rw[vL] at h2;rw[h2,ht x hl]
 have at':∀x,x<2*ls.length->zc ls x=k->g x=g ((ardS ns ls k (2*ls.length)).getD 0 0):=by
  intro x hx hxk;obtain⟨i,hi,hxi⟩:=abb ((yg ns ls k _ _).2 ⟨hx,hxk⟩);rw[<-key i hi,List.getD,aac hi,hxi];rfl
 rw[at' d hd hk,at' e he (by rw[<-hf,hk])]
end
theorem z8m {ns ls:List Pr} (hw:zf ns ls=true):(zg ns ls).length +ns.length<=ls.length+2:=by
 have Hn:=zI hw;have Hu:∀j:Nat,j<ls.length->zp ns (ndI ls j)=true:=fun j hj=>(Hn.1.2.2.2.2.2 j hj).1
 have bk:=z1R Hu
 have fb:∀i,i<ns.length->(zi ns.length ls ls.length).getD i 0=0:=by
  intro i hi;unfold zf at hw;rw[aaH,aaH] at hw;have:=List.all_eq_true.1 hw.2.2;have Hi:i<(zi ns.length ls ls.length).length :=by rw[jf];exact hi
  have h2:=this (zi ns.length ls ls.length)[i] (abh Hi)
  simpa[List.getD,Hi] using h2
 have FI:∀j,j<ls.length->(ndI ls j).1=((zc ls (2*j)).toNat :Int)/\(ndI ls j).2=((dTo ls (2*j)).toNat :Int)/\(zc ls (2*j)).toNat <ns.length/\(dTo ls (2*j)).toNat <ns.length:=by
  intro j hj;obtain⟨p,q,h1,h2,h3,h4⟩:=bk j hj;have e1:zc ls (2*j)=(ndI ls j).1:=by unfold zc;rw[aaq o_,show 2*j/2=j by omega]
  have e2:dTo ls (2*j)=(ndI ls j).2:=by unfold dTo;rw[aaq o_,show 2*j/2=j by omega]
  rw[e1,e2,h1,h2,aa6,aa6];exact⟨rfl,rfl,h3,h4⟩
 have U4:Xl ns.length ls.length (fun j=>(zc ls (2*j)).toNat) (fun j=>(dTo ls (2*j)).toNat) (fun _=>true):=by
  intro C hC i hi
  have h1:=vF bk C (fun j hj p q hp hq=>by
   obtain⟨g1,g2,_,_⟩:=FI j hj;rw[g1] at hp;rw[g2] at hq;have e1:(zc ls (2*j)).toNat =p:=o_
   have e2:(dTo ls (2*j)).toNat =q:=o_
   rw[<-e1,<-e2];exact hC j hj rfl) ls.length (aaa _) i hi
  rw[fb i hi] at h1;exact h1
 obtain⟨J,hJ,hmin⟩:=z0M (cntJ ls.length (fun _=>true)) _ (aaa _) U4;have hcount:=JO hJ
 have hfc:Xl (zg ns ls).length ls.length (fun j=>qB (zg ns ls) (2*j)) (fun j=>qB (zg ns ls) (2*j+1)) (fun j=> !J j):=by
  intro C hC
  classical
  let g:Nat->Int:=fun d=>if C (qB (zg ns ls) d) then 1 else 0
  have hg:∀d,d<2*ls.length->g (qZ ns ls d)=g d:=fun d hd=>by
   show(if C (qB (zg ns ls) (qZ ns ls d)) then(1:Int) else 0)=_
   rw[z4K Hu hd]
  have hgeq:∀a b,(C (qB (zg ns ls) a)↔C (qB (zg ns ls) b))->g a=g b:=fun a b h=>by
   show(if C (qB (zg ns ls) a) then(1:Int) else 0)=(if C (qB (zg ns ls) b) then(1:Int) else 0)
   by_cases h1:C (qB (zg ns ls) a)
   ·rw[aao h1,aao (h.1 h1)]
   ·rw[aaq h1,aaq (fun h2=>h1 (h.2 h2))]
  have NL:∀t,t<ls.length->g (2*t)=g (2*t+1):=by
   intro t ht
   cases hJt:J t
   ·exact hgeq _ _ (hC t ht (by simp[hJt]))
   ·have gr:=hmin t ht hJt
    apply abl
    intro hgt
    apply gr
    intro X hX
    by_cases Bs:X (zc ls (2*t)).toNat ↔X (dTo ls (2*t)).toNat
    ·refine hJ X (fun j hj hJj=>?_)
     by_cases hjt:j=t
     ·subst hjt;exact Bs
     ·exact hX j hj (by simp[hJj,hjt])
    ·exfalso
     have hz:=z8u Hu hg (fun v=>if X v then 1 else 0)
     have e:sumR ls.length (fun j=>((if X (zc ls (2*j)).toNat then(1:Int) else 0) -(if X (dTo ls (2*j)).toNat then(1:Int) else 0))*(g (2*j) -g (2*j+1)))=
       sumR ls.length (fun j=>if j=t then((if X (zc ls (2*j)).toNat then(1:Int) else 0) -(if X (dTo ls (2*j)).toNat then(1:Int) else 0))*(g (2*j) -g (2*j+1)) else 0):=by
      refine yL _ (fun j hj=>?_)
      by_cases hjt:j=t
      ·rw[aao hjt]
      ·rw[aaq hjt]
       cases hJj:J j
       ·rw[hgeq _ _ (hC j hj (by simp[hJj])),Int.sub_self,Int.mul_zero]
       ·have h1:=hX j hj (by simp[hJj,hjt])
        have h2:(if X (zc ls (2*j)).toNat then(1:Int) else 0)=(if X (dTo ls (2*j)).toNat then(1:Int) else 0):=by
         by_cases h3:X (zc ls (2*j)).toNat
         ·rw[aao h3,aao (h1.1 h3)]
         ·rw[aaq h3,aaq (fun h4=>h3 (h1.2 h4))]
        rw[h2,Int.sub_self,Int.zero_mul]
     have hz':sumR ls.length (fun j=>((if X (zc ls (2*j)).toNat then(1:Int) else 0) -(if X (dTo ls (2*j)).toNat then(1:Int) else 0))*(g (2*j) -g (2*j+1)))=0:=hz;rw[e,J8 (fun j=>((if X (zc ls (2*j)).toNat then(1:Int) else 0) -(if X (dTo ls (2*j)).toNat then(1:Int) else 0))*(g (2*j) -g (2*j+1))) t,aao ht] at hz'
     by_cases h1:X (zc ls (2*t)).toNat
     ·have h2:¬X (dTo ls (2*t)).toNat :=fun h=>Bs ⟨fun _=>h,fun _=>h1⟩
      rw[aao h1,aaq h2] at hz';omega
     ·have h2:X (dTo ls (2*t)).toNat :=abl fun h=>Bs ⟨fun h3=>absurd h3 h1,fun h3=>absurd h3 h⟩
      rw[aaq h1,aao h2] at hz';omega
  have htw:∀d,d<2*ls.length->g (twin d)=g d:=by
   intro d hd;have h:=NL (d/2) o_;unfold twin
   by_cases h2:d%2=0
   ·rw[aao h2]
    rw[show 2*(d/2)=d by omega] at h;exact h.symm
   ·rw[aaq h2]
    rw[show 2*(d/2)+1=d by omega,show 2*(d/2)=d -1 by omega] at h;exact h
  have hnode:∀d e,d<2*ls.length->e<2*ls.length->g d=g e:=by
   intro d0 e0 mD he0
   have hC2:=U4 (fun v=>∀x,x<2*ls.length->zc ls x=(v:Int)->g x=g d0) (fun j hj _=>by
    obtain⟨g1,g2,g3,g4⟩:=FI j hj
    have e1:zc ls (2*j)=((zc ls (2*j)).toNat :Int):=by
     obtain⟨t,ht,_⟩:=qE Hu (show 2*j<2*ls.length by omega);rw[ht,aa6]
    have e2:zc ls (2*j+1)=((dTo ls (2*j)).toNat :Int):=by
     have t1:twin (2*j)=2*j+1:=by unfold twin;rw[aao o_]
     have:=jy ls (2*j);rw[t1] at this;obtain⟨t,ht,_⟩:=qE Hu (show 2*j+1<2*ls.length by omega);rw[this] at ht⊢;rw[ht,aa6]
    constructor
    ·intro h x hx WZ
     have h1:=h (2*j) o_ e1;rw[Jr Hu hg htw hx (show 2*j+1<2*ls.length by omega) (by rw[WZ,e2]),<-NL j hj,h1]
    ·intro h x hx WZ
     have h1:=h (2*j+1) o_ e2;rw[Jr Hu hg htw hx (show 2*j<2*ls.length by omega) (by rw[WZ,<-e1]),NL j hj,h1])
   obtain⟨t,ht,uU⟩:=qE Hu mD;obtain⟨s,hs,Yr⟩:=qE Hu he0;have ht0:=(hC2 t uU).1 (fun x hx WZ=>Jr Hu hg htw hx mD (by rw[WZ,ht]));exact((hC2 s Yr).2 ht0 e0 he0 hs).symm
  intro f hf;obtain⟨d,hd,hfd⟩:=z3b Hu hf;obtain⟨d',hd',hfd'⟩:=z3b Hu (show 0<(zg ns ls).length by omega);have h:=hnode d d' hd hd';have h':(if C (qB (zg ns ls) d) then(1:Int) else 0)=(if C (qB (zg ns ls) d') then(1:Int) else 0):=h;rw[hfd,hfd'] at h'
  by_cases h1:C f
  ·by_cases h2:C 0
   ·exact⟨fun _=>h2,fun _=>h1⟩
   ·rw[aao h1,aaq h2] at h';omega
  ·by_cases h2:C 0
   ·rw[aaq h1,aao h2] at h';omega
   ·exact⟨fun h=>absurd h h1,fun h=>absurd h h2⟩
 have h1:=JO hfc;have h2:=z3H ls.length J;omega
section
variable {ns ls:List Pr} (h:zL ns ls)
include h
end
section
variable {ns ls:List Pr} {P:Int} {A B:Nat->Int} (h:zL ns ls) (hh:Hts ns ls P A B)
include h hh
end
section
variable {v t u:Pr} (hv:jA v=true) (ht:jA t=true) (hu:jA u=true)
include hv ht hu
end
section
variable {ns ls:List Pr} {P:Int} {A B:Nat->Int} (h:zL ns ls) (hh:Hts ns ls P A B)
include h hh
end
section
variable {ns ls:List Pr} {P:Int} {A B:Nat->Int} (h:zL ns ls) (hh:Hts ns ls P A B)
include h hh
end
def fcD (ns ls:List Pr) (d:Nat):Nat:=qB (zg ns ls) d
section
variable {ns ls:List Pr} (h:zL ns ls)
include h
theorem z5O:∀j:Nat,j<ls.length->zp ns (ndI ls j)=true:=fun j hj=>jB h hj
theorem z3o {d:Nat} (hd:d<2*ls.length):fcD ns ls d<(zg ns ls).length :=
 (yr ((qS (z5O h) (2*ls.length) (aaa _)).1 d hd)).1
end
section
variable {ns ls:List Pr} {k:Nat} (h:zL ns ls) (hk:k<ls.length)
include h hk
end
noncomputable def dgN (ls:List Pr) (v:Nat):Nat:=cn (2*ls.length) (fun d=>zc ls d=(v:Int))
def adjF (ns ls:List Pr) (f g:Nat):Prop:=∃d,d<2*ls.length/\fcD ns ls d=f/\fcD ns ls (twin d)=g/\f≠g
def d3 (ls:List Pr) (d:Nat):Prop:=3<=dgN ls (zc ls d).toNat
theorem kM {ns ls:List Pr} {f g:Nat} (h:adjF ns ls f g):adjF ns ls g f:=by
 obtain⟨d,h1,h2,h3,h4⟩:=h;exact⟨twin d,jv h1,h3,by rw[vL];exact h2,fun hc=>h4 hc.symm⟩
section
variable {ns ls:List Pr} (h:zL ns ls)
include h
theorem z5K {f g:Nat} (ha:adjF ns ls f g):g<(zg ns ls).length :=by
 obtain⟨d,h1,h2,h3,h4⟩:=ha;rw[<-h3];exact z3o h (jv h1)
end
theorem z0Y (d:Nat):(d=2*(d/2)/\twin d=2*(d/2)+1)∨(d=2*(d/2)+1/\twin d=2*(d/2)):=by
 unfold twin
 by_cases h:d%2=0
 ·left;rw[aao h];omega
 ·right;rw[aaq h];omega
def kr (a:Int) (n:Nat):List Dp:=(List.range n).map fun (i:Nat)=>⟨a+3*(i:Int),a+3*(i:Int)+1,a+3*(i:Int)+2⟩
theorem yy (a:Int) (n:Nat):(kr a n).length =n:=by simp[kr]
def jz (a:Int) (l:List Dp) (k:Nat):List Dp:=kr a k++l.drop k
theorem xN (a:Int) (l:List Dp) (k:Nat) (h:k<=l.length):(jz a l k).length =l.length:=by simp[jz,yy];omega
theorem z1P (a:Int) (l:List Dp):jz a l 0=l:=by simp[jz,kr]
theorem z4k (a:Int) (l:List Dp):jz a l l.length=kr a l.length:=by simp[jz]
theorem z1U (a:Int) (l:List Dp) (k:Nat) (h:k<l.length):jz a l (k+1)=(jz a l k).set k ⟨a+3*k,a+3*k+1,a+3*k+2⟩:=by
 unfold jz kr;rw[abf,aaA,aan];simp only[aaT,aaU,List.length_map,abr,aaW,if_false,aae,aay,List.cons_append,List.nil_append]
 rw[aas h,aal]
theorem z6H (a:Int) (n k:Nat) (h:k<(kr a n).length):(kr a n)[k]=⟨a+3*(k:Int),a+3*(k:Int)+1,a+3*(k:Int)+2⟩:=by simp[kr]
theorem Qr:∀(l:List Dp) (k j:Nat) (u:Value) (f:Dp) (hk:k<l.length),j<3->(Dp.cs l[k]).set j u=Dp.cs f->(l.flatMap Dp.cs).set (k*3+j) u=(l.set k f).flatMap Dp.cs
 | [],k,_,_,_,h,_,_=>absurd h (by simp)
 |a::l,0,j,u,f,h,hj,he=>by
  rw[aal,aam,aam,<-he,aan,aao (by simp[Dp.cs];omega)];simp
 |a::l,k+1,j,u,f,h,hj,he=>by
  have ih:=Qr l k j u f (by simpa using h) hj he;rw[aap,aam,aam,<-ih,aan,aaq (by simp[Dp.cs];omega)];have e:(k+1)*3+j -(Dp.cs a).length =k*3+j:=by simp[Dp.cs];omega
  rw[e]
theorem Js (base:Nat) (v:Value) (l:List Dp) (a:Int) (w:World) (h:zk base w v l) (ha:0<=a) (hb:a+3*l.length<=1000000000000):
  Calls Tryz.prog 100 #[v,.int .i64 a] w fun e w'=>e= .returned (.int .i64 (a+3*l.length))/\zk base w' v (kr a l.length)/\w.grownBy w' v.ownBlock:=by
 rcases Gf:h.2 with ⟨rfl,hn⟩|⟨g,cap,cur,rfl,mI,hh,cO,Co,gj,Fy⟩
 ·have hz:l=[]:=aby hn
  subst hz;clear Gf hn hb
  go_enter Tryz.func100,Tryz.ntmps100
  go_wp2
  go_loop [1,5] (fun x i=>i= .int .i64 0/\x= .int .i64 a) (fun _ _=>0)
  case atStart=>exact⟨rfl,rfl⟩
  case round=>
   obtain⟨rfl,rfl⟩:=hrel;go_wp2;go_ret
   exact⟨by simp,zk.nil _ _,World.grownBy.refl _ _⟩
 ·clear Gf hh Fy gj
  have GO:l.length<=1000000000000:=o_
  have h0:zk base w (.slice (some ⟨g,0,none⟩) l.length cap) (jz a l 0):=by rw[z1P];exact h
  clear h
  go_enter Tryz.func100,Tryz.ntmps100
  go_wp2
  go_loopw [1,5] (fun x i wr=>∃k:Nat,k<=l.length/\i= .int .i64 k/\x= .int .i64 (a+3*k)/\zk base wr (.slice (some ⟨g,0,none⟩) l.length cap) (jz a l k)/\w.grownBy wr (some g)) (fun _ i _=>l.length -(intOf i).toNat)
  case atStart=>exact⟨0,aab _,rfl,by simp,h0,World.grownBy.refl _ _⟩
  case round=>
   obtain⟨k,hk,rfl,rfl,ho,hg⟩:=hrel;clear h0;have Fe:=xN a l k hk
   by_cases Hd:k<l.length
   ·have Fu:k<(jz a l k).length :=o_
    have Hk:wr.ownsRow base 48 3 (.slice (some ⟨g,0,none⟩) l.length cap) l.length ((jz a l k).flatMap Dp.cs):=by rw[<-Fe];have:=ho;unfold zk at this;rw[Fe] at this⊢;exact this
    have x0:=Hk.cellAt (k*3+0) o_;have x1:=Hk.cellAt (k*3+1) o_;have x2:=Hk.cellAt (k*3+2) o_;rw[qi Dp.cs 3 (fun _=>rfl) _ k _ Fu o_] at x0 x1 x2;generalize hq:(jz a l k)[k]=q at*;simp only[Dp.cs,aaf,aag,aah] at x0 x1 x2
    have f0:=Hk.frozenAt (k*3);have f1:=Hk.frozenAt (k*3+1);have f2:=Hk.frozenAt (k*3+2);have s1:=(Hk.stored (k*3+0) (.int .i64 (a+3*k))).1;have s2:=(s1.stored (k*3+1) (.int .i64 (a+3*k+1))).1;have s3:=(s2.stored (k*3+2) (.int .i64 (a+3*k+2))).1
    rw[Qr _ k 0 _ ⟨a+3*k,q.a,q.b⟩ Fu o_ (by rw[hq];rfl),
     Qr _ k 1 _ ⟨a+3*k,a+3*k+1,q.b⟩ (by rw[aar];exact Fu) o_ (by rw[aaz];rfl),
     Qr _ k 2 _ ⟨a+3*k,a+3*k+1,a+3*k+2⟩ (by rw[aar,aar];exact Fu) o_ (by rw[aaz];rfl),
     List.set_set,List.set_set,<-z1U a l k Hd,aaf] at s3
    have NM:=xN a l (k+1) Hd;have HS:Hid (zk base (((wr.setCell ⟨g,k*3,none⟩ (.int .i64 (a+3*k))).setCell ⟨g,k*3+1,none⟩ (.int .i64 (a+3*k+1))).setCell ⟨g,k*3+2,none⟩ (.int .i64 (a+3*k+2))) (.slice (some ⟨g,0,none⟩) l.length cap) (jz a l (k+1))):=h_ (by unfold zk;rw[NM];exact s3);have HG:=h_ (qq (qq (qq hg (k*3) (.int .i64 (a+3*k))) (k*3+1) (.int .i64 (a+3*k+1))) (k*3+2) (.int .i64 (a+3*k+2)));have e2:a+3*(k:Int)+1+1=a+3*(k:Int)+2:=o_
    clear s1 s2 s3 Hk ho hg Fe NM hq Fu;go_wp2
    try rw[e2]
    clear e2;go_roundw
    case rel=>exact⟨k+1,by omega,by go_num,by go_num,HS.out,HG.out⟩
    case measure=>simp[intOf];omega
   ·have Hw:k=l.length:=o_
    subst Hw;rw[z4k] at ho;clear Fe;go_wp2;go_ret
    exact⟨rfl,ho,hg⟩
theorem JW (v:Value) (n:Nat) (a:Int) (w:World) (h:RDp w v (kr a n)) (ha:0<=a) (hb:a+3*n<=1000000000000):
  Calls Tryz.prog 102 #[v,.int .i64 a] w fun e w'=>e= .returned (.int .i64 (a+3*n))/\w=w':=by
 obtain⟨A,c,rfl,hc,hm,hcell⟩:=h.form;clear h;rw[yy] at hc hm
 have Hs:0<n->∃b off,A=some ⟨b,off,none⟩/\b<w.heap.size/\∀k (hk:k<n),w.cell? ⟨b,off+k*3,none⟩=some (.int .i64 (a+3*(k:Int)))/\w.cell? ⟨b,off+k*3+1,none⟩=some (.int .i64 (a+3*(k:Int)+1))/\w.cell? ⟨b,off+k*3+2,none⟩=some (.int .i64 (a+3*(k:Int)+1+1)):=by
  intro hn;obtain⟨b,off,h1,h2,h3⟩:=hcell (by rw[yy];exact hn);refine⟨b,off,h1,h2,fun k hk=>?_⟩
  have:=h3 k (by rw[yy];exact hk);rw[z6H] at this;rw[show a+3*(k:Int)+1+1=a+3*(k:Int)+2 by omega];exact this
 rw[yy];clear hcell
 go_enter Tryz.func102,Tryz.ntmps102
 go_wp2
 go_loop [1,5] (fun x i=>∃k:Nat,k<=n/\i= .int .i64 k/\x= .int .i64 (a+3*k)) (fun _ i=>n -(intOf i).toNat)
 case atStart=>exact⟨0,aab _,rfl,by simp⟩
 case round=>
  obtain⟨k,hk,rfl,rfl⟩:=hrel
  by_cases Hd:k<n
  ·obtain⟨b,off,rfl,gc,Ho⟩:=Hs o_
   obtain⟨q0,q1,q2⟩:=Ho k Hd;clear Ho Hs;go_wp2;go_round
   case rel=>exact⟨k+1,by omega,by go_num,by go_num⟩
   case measure=>simp[intOf];omega
  ·have Hw:k=n:=o_
   subst Hw;clear Hs;go_wp2;go_ret
   exact⟨rfl,rfl⟩
def yA (zs:List Int) (k:Nat):List Int:=zs.take k++List.replicate (zs.length -k) 0
theorem Jf (zs:List Int) (k:Nat) (h:k<=zs.length):(yA zs k).length =zs.length:=by simp[yA];omega
theorem Jb (zs:List Int):yA zs 0=List.replicate zs.length 0:=by simp[yA]
theorem Jm (zs:List Int):yA zs zs.length=zs:=by simp[yA]
theorem ZT (zs:List Int) (k:Nat) (h:k<zs.length):(yA zs k).set k (zs.getD k 0)=yA zs (k+1):=by
 unfold yA;have e:(zs.take k).length =k:=by simp;omega
 rw[aan,aaq o_,e,aae,show zs.length -k=(zs.length -(k+1))+1 by omega,List.replicate_succ,aal,aax h,aay];simp[List.getD,h]
theorem vr (v:Value) (zs:List Int) (w:World) (h:RI w v zs) (hle:zs.length<=1048576):
  Calls Tryz.prog 56 #[v] w (RetI zs w):=by
 obtain⟨A,c,rfl,hc,hm,hcell⟩:=h.form;unfold maxLen at hm;clear h;obtain⟨i0,hi,iz0,iz1,iz2⟩:=info_parts ql
 go_enter Tryz.func56,Tryz.ntmps56
 go_wp2_with (at_make;refine wpList_make_full _ rfl _ _ 31 rfl w.heap.size 3 i0 (.int .i64 0) 1 Tryz.underlying31 hi iz0 iz1 .i64 .i64 _ _ zs.length rfl rfl rfl rfl (by rw[iz2];omega) (by unfold maxLen;omega) o_ ?_)
 intro w1 Hz gQ;have h9:Below w.heap.size w w1:=(aaj _ _).grown gQ (aaa _) (by intro k hk;cases hk)
 have hown:OwnI w.heap.size w1 (.slice (some ⟨w.heap.size,0,none⟩) zs.length zs.length) (yA zs 0):=by
  have e:∀n:Nat,(madeCells #[.int .i64 0] n).toList =(List.replicate n (0:Int)).map vI:=by
   intro n
   apply aat
   intro j
   by_cases hj:j<n
   ·simp only[madeCells,Array.toList_map,aau,Array.toList_range,aav hj,abm,aao hj,aaw]
    congr 1
    show #[Value.int .i64 0][j%1]! =_
    rw[Nat.mod_one];rfl
   ·simp[madeCells,hj]
  unfold OwnI;rw[Jb,aaD,<-e];exact Hz
 clear Hz gQ iz0 iz1 iz2 hi;go_wp2
 go_loopw [4] (fun i wr=>∃k:Nat,k<=zs.length/\i= .int .i64 k/\OwnI w.heap.size wr (.slice (some ⟨w.heap.size,0,none⟩) zs.length zs.length) (yA zs k)/\Below w.heap.size w wr) (fun i _=>zs.length -(intOf i).toNat)
 case atStart=>exact⟨0,aab _,rfl,hown,h9⟩
 case round=>
  obtain⟨k,hk,rfl,ho,Hb⟩:=hrel;clear hown h9;have GB:=Jf zs k hk
  by_cases Hd:k<zs.length
  ·obtain⟨b,off,rfl,hb,Ho⟩:=hcell o_
   have hx:=(Hb.cell (p:=⟨b,off+k,none⟩) hb).trans (Ho k Hd);have Hr:(k:Int)<(zs.length:Int):=o_
   have ik1:(0:Int)<=(k:Int):=o_
   have xp:=ho.cell (q:=k) o_;obtain⟨z,hz⟩:∃z,wr.cell? ⟨w.heap.size,k,none⟩=some z:=⟨_,xp⟩;have fp:=ho.frz k
   have HO:Hid (OwnI w.heap.size (wr.setCell ⟨w.heap.size,k,none⟩ (.int .i64 (zs.getD k 0))) (.slice (some ⟨w.heap.size,0,none⟩) zs.length zs.length) (yA zs (k+1))):=h_ (by
    rw[<-ZT zs k Hd];exact ho.set_ k _)
   have HB:=h_ (Hb.setCell (p:=⟨w.heap.size,k,none⟩) (aaa _) (.int .i64 (zs.getD k 0)));generalize zs.getD k 0=y at*;clear ho Hb Ho hcell xp;go_wp2;go_roundw
   case rel=>exact⟨k+1,by omega,by go_num,HO.out,HB.out⟩
   case measure=>simp[intOf];omega
  ·have Hw:k=zs.length:=o_
   subst Hw;rw[Jm] at ho;clear hcell;go_wp2;go_ret
   exact⟨_,rfl,ho,Hb⟩
attribute [local go_sem ↓] zv zu qb qf
theorem z7P {ns ls:List Pr} (h:zL ns ls) (k:Int):zL ns (y8 ns ls k):=by
 unfold y8
 split
 ·rename_i hk
  obtain⟨_,m,rfl,hm⟩:=XW hk;have:=z9c h hm
  simpa using this
 ·exact h
theorem z85 {ns ls:List Pr} (h:zL ns ls) (a b:Int):zL ns (addL ns ls a b):=by
 unfold addL
 split
 ·rename_i hk
  unfold addB at hk;rw[aaH] at hk;exact zD.1 hk.2
 ·exact h
theorem z0b (base f g cap:Nat) (lb:Array Value) (G:List Nat) (c:Nat->Nat->Int) (lt:Nat->Nat->Bool) (w:World) (hc:JL f lb G c (some g) w) (Hd:∀d e,decide (c d e<0)=lt d e)
  (ho:OwnI base w (.slice (some ⟨g,0,none⟩) G.length cap) (natI G)) (n9:G.length<=40) (ef:Enters Tryz.prog f):
  Calls Tryz.prog 246 #[.slice (some ⟨g,0,none⟩) G.length cap,.int .i64 0,.int .i64 G.length,.func (.func f) #[] lb] w
   fun e w'=>e= .returned (.tuple #[])/\OwnI base w' (.slice (some ⟨g,0,none⟩) G.length cap) (natI (isoK lt G G.length))/\w.grownBy w' (some g):=by
 go_enter Tryz.func246,Tryz.ntmps246
 go_wp2
 go_loopw [8] (fun x wr=>∃i:Nat,1<=i/\(i<=G.length∨G.length=0)/\x= .int .i64 i/\OwnI base wr (.slice (some ⟨g,0,none⟩) G.length cap) (isoH lt G (min i G.length))/\w.grownBy wr (some g)) (fun x _=>G.length -(intOf x).toNat)
 case atStart=>
  refine⟨1,aaa _,by omega,rfl,?_,qt _ _⟩
  rcases abw G.length with h0|h0
  ·rw[h0,show min 1 0=0 from rfl,J9];rw[h0] at ho;exact ho
  ·rw[show min 1 G.length=1 by omega,z2M lt G h0];exact ho
 case round=>
  obtain⟨i,FT,cf,rfl,Hm,hg⟩:=hrel;have EF:=h_ ef;clear ho ef
  by_cases Gp:i<G.length
  ·rw[show min i G.length=i by omega,<-QZ lt G i Gp] at Hm
   have HE:=h_ (Xi lt G i Gp);have ux:G.getD i 0=G[i]:=by simp[List.getD,Gp]
   have W7:G.getD i 0∈G:=by rw[ux];exact abh Gp
   have HKL:=h_ (jC lt G i o_);have HKM:=h_ (fun e h=>XK lt G e i o_ h);rw[<-ux] at HE;have mR:=h_ (fun p hp=>z0J lt G i p Gp hp);have HRB:=h_ (fun p hp=>XV lt G i p Gp hp);have M6:=h_ (fun p hp=>z0y lt G i p Gp hp);have uV:=h_ (fun p hp=>z4c lt G i p Gp hp);clear ux;generalize hD:G.getD i 0=D at*;clear hD;go_wp2
   go_loopw [9] (fun x wr2=>∃p:Nat,p<=i/\x= .int .i64 p/\OwnI base wr2 (.slice (some ⟨g,0,none⟩) G.length cap) (isoR lt G i p)/\w.grownBy wr2 (some g)/\Hid (posN (lt D) (isoK lt G i) i=posN (lt D) (isoK lt G i) p)) (fun x _=>(intOf x).toNat)
   case atStart=>exact⟨i,aaa _,rfl,Hm,hg,h_ rfl⟩
   case round=>
    clear Hm hg;obtain⟨p,hp,rfl,Hm,hg,HP⟩:=hrel
    by_cases Nw:0<p
    ·obtain⟨r,rfl⟩:∃r,p=r+1:=⟨p -1,by omega⟩
     have MM:r<i:=o_
     have xs:=Hm.cell (q:=r+1) (by rw[uV.out _ hp];omega);have xb:=Hm.cell (q:=r) (by rw[uV.out _ hp];omega);rw[mR.out _ hp] at xs;rw[HRB.out r MM] at xb;have Cc:(isoK lt G i).getD r 0∈G:=HKM.out _ (by rw[List.getD,aac (by rw[HKL.out];exact MM)];exact abh _);have MJ:Hid (posN (lt D) (isoK lt G i) (r+1)=if lt D ((isoK lt G i).getD r 0) then posN (lt D) (isoK lt G i) r else r+1):=h_ rfl;have HS:=h_ (M6.out r MM);have BL:=Hd D ((isoK lt G i).getD r 0);have W8:=fun v (hv:w.grownBy v (some g))=>hc v D ((isoK lt G i).getD r 0) W7 Cc hv
     generalize (isoK lt G i).getD r 0=e at*;rw[<-BL] at MJ;generalize c D e=z at*;have HC:=h_ W8;clear W8 BL Cc;have ir1:(0:Int)<=(r:Int):=o_
     have ir2:(r:Int)<(G.length:Int):=o_
     have ir3:((r+1:Nat):Int)<(G.length:Int):=o_
     have mS:=(Hm.lt g rfl).2;clear hc Hd;have hef:∀(args:Array Value) (w:World),(callFunc f args).run Tryz.prog w= .ok (.enter f args) w:=EF.out
     go_wp2_with fail
     (refine z7 k_ k_ (fun hG=>?_))
     repeat (go_big_quiet_step ((go_at_fn f;exact zy (HC.out _ (yM hg (Grw.below _))))))
     refine wpQuiet_nil ?_
     clear hG;rintro w3 ⟨⟨_,Hf⟩,rfl⟩;have Hq:=Hm.kept Hf;have gM:=yM hg Hf;have g0:=Hq.frz r;have g1:=Hq.frz (r+1);have ys:=Hq.cell (q:=r+1) (by rw[uV.out _ hp];omega);rw[mR.out _ hp] at ys
     have yb':w3.cell? ⟨g,r,none⟩=some (.int .i64 e):=by
      have:=(Hf.cell (p:=⟨g,r,none⟩) mS).trans xb;exact this
     clear xs xb hg Hf hef
     by_cases hz:z<0
     ·have e1:decide (z<0)=true:=by simp[hz]
      have HO:=h_ (show OwnI base ((w3.setCell ⟨g,r+1,none⟩ (.int .i64 e)).setCell ⟨g,r,none⟩ (.int .i64 D)) (.slice (some ⟨g,0,none⟩) G.length cap) (isoR lt G i r) by
       rw[<-HS.out];exact(Hq.set_ (r+1) _).set_ r _)
      have HG:=h_ (qs (qs gM (r+1) (.int .i64 e)) r (.int .i64 D));have FN:Hid (posN (lt D) (isoK lt G i) i=posN (lt D) (isoK lt G i) r):=h_ (by rw[HP.out,MJ.out,aao e1]);clear Hm Hq gM
      go_wp2_with fail
      go_region
      all_goals go_wp2
      all_goals go_roundw
      case rel=>exact⟨r,by omega,by go_num,HO.out,VY HG.out,FN⟩
      case measure=>simp[intOf]
     ·have e1:decide (z<0)=false:=by simp[hz]
      have FN:Hid (posN (lt D) (isoK lt G i) i=r+1):=h_ (by rw[HP.out,MJ.out,e1];rfl);have HO:Hid (OwnI base w3 (.slice (some ⟨g,0,none⟩) G.length cap) (isoH lt G (i+1))):=h_ (by rw[<-HE.out,FN.out];exact Hq);clear Hm Hq;go_wp2;go_roundw
      case rel=>exact⟨i+1,by omega,by omega,by go_num,by rw[show min (i+1) G.length=i+1 by omega];exact HO.out,gM⟩
      case measure=>simp[intOf];omega
    ·have mN:p=0:=o_
     subst mN;have FN:Hid (posN (lt D) (isoK lt G i) i=0):=h_ HP.out;have HO:Hid (OwnI base wr (.slice (some ⟨g,0,none⟩) G.length cap) (isoH lt G (i+1))):=h_ (by rw[<-HE.out,FN.out];exact Hm);clear Hm hc Hd Nw
     go_wp2_with fail
     (refine z7 k_ k_ (fun hG=>?_))
     repeat (go_big_quiet_step (fail))
     refine wpQuiet_nil ?_
     clear hG;rintro w3 ⟨⟨_,Hf⟩,rfl⟩;have Hq:=HO.out.kept Hf;have gM:=yM hg Hf;go_wp2;go_roundw
     case rel=>exact⟨i+1,by omega,by omega,by go_num,by rw[show min (i+1) G.length=i+1 by omega];exact Hq,gM⟩
     case measure=>simp[intOf];omega
  ·have HO:Hid (OwnI base wr (.slice (some ⟨g,0,none⟩) G.length cap) (natI (isoK lt G G.length))):=h_ (by
    rw[show min i G.length=G.length by omega,z3p] at Hm;exact Hm)
   clear hc Hd Hm;go_wp2
   go_end0
   exact⟨rfl,HO.out,hg⟩
theorem z4L (base f g cap:Nat) (lb:Array Value) (G:List Nat) (c:Nat->Nat->Int) (lt:Nat->Nat->Bool) (w:World) (hc:JL f lb G c (some g) w) (Hd:∀d e,decide (c d e<0)=lt d e)
  (ho:OwnI base w (.slice (some ⟨g,0,none⟩) G.length cap) (natI G)) (h20:G.length<20) (ef:Enters Tryz.prog f):
  Calls Tryz.prog 210 #[.slice (some ⟨g,0,none⟩) G.length cap,.int .i64 G.length,.func (.func f) #[] lb] w
   fun e w'=>e= .returned (.tuple #[])/\OwnI base w' (.slice (some ⟨g,0,none⟩) G.length cap) (natI (isoK lt G G.length))/\w.grownBy w' (some g):=by
 go_enter Tryz.func210,Tryz.ntmps210
 go_wp2;refine wp_loop_rounds 1 ?_
 rw[rounds_succ]
 go_wp2_with fail
 refine(z0b base f g cap lb G c lt _ hc Hd ho o_ ef).mono ?_
 rintro e w1 ⟨rfl,Hj,fF⟩;go_wp2;refine wp_loop_rounds 1 ?_
 rw[rounds_succ];go_wp2
 go_end0
 exact⟨rfl,Hj,fF⟩
theorem VH (base f g cap:Nat) (lb:Array Value) (G:List Nat) (c:Nat->Nat->Int) (lt:Nat->Nat->Bool) (w:World) (hc:JL f lb G c (some g) w) (Hd:∀d e,decide (c d e<0)=lt d e)
  (ho:OwnI base w (.slice (some ⟨g,0,none⟩) G.length cap) (natI G)) (h20:G.length<20) (ef:Enters Tryz.prog f):
  Calls Tryz.prog 150 #[.slice (some ⟨g,0,none⟩) G.length cap,.func (.func f) #[] lb] w
   fun e w'=>e= .returned (.tuple #[])/\OwnI base w' (.slice (some ⟨g,0,none⟩) G.length cap) (natI (isoK lt G G.length))/\w.grownBy w' (some g):=by
 go_enter Tryz.func150,Tryz.ntmps150
 go_wp2_with fail
 refine(z4L base f g cap lb G c lt _ hc Hd ho h20 ef).mono ?_
 rintro e w1 ⟨rfl,Hj,fF⟩;go_wp2
 go_end0
 exact⟨rfl,Hj,fF⟩
theorem Xc (f:Nat) (lb:Array Value) (w:World):
  Calls Tryz.prog 150 #[.slice none 0 0,.func (.func f) #[] lb] w
   fun e w'=>e= .returned (.tuple #[])/\Below w.heap.size w w':=by
 go_enter Tryz.func150,Tryz.ntmps150
 go_wp2_with fail
 refine Calls.mono (R:=fun e w'=>e= .returned (.tuple #[])/\Below w.heap.size w w') ?_ ?_
 ·go_enter Tryz.func210,Tryz.ntmps210
  go_wp2;refine wp_loop_rounds 1 ?_
  rw[rounds_succ]
  go_wp2_with fail
  refine(JI f lb _).mono ?_
  rintro e w1 ⟨rfl,h9⟩;go_wp2;refine wp_loop_rounds 1 ?_
  rw[rounds_succ];go_wp2
  go_end0
  exact⟨rfl,h9⟩
 ·rintro e w1 ⟨rfl,h9⟩
  go_wp2
  go_end0
  exact⟨rfl,h9⟩
end Go.Proofs.YtnjcpljhmhdhkaaGreat
