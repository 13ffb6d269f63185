/- part 12 -/
import Derived.Test.YtnjcpljhmhdhkaaGreatEPk11
import Derived.Deep.Slices
import Derived.Deep.Fields
import Derived.ChangeSame
import Derived.OwnWalk
import Derived.StillTailTactics
import Derived.Deep.RegionWith
import Derived.Deep.RegionHeld3
import Derived.Outline
import Derived.ChangeSlices
set_option linter.unusedSimpArgs false
set_option linter.unusedVariables false
set_option linter.unusedSectionVars false
set_option maxRecDepth 100000
set_option maxHeartbeats 8000000
namespace Go.Proofs.YtnjcpljhmhdhkaaGreat
open Go.RowKit
attribute [local go_sem ↓] zR zQ
theorem z1d (vn vl u:Value) (ns ls:List Pr) (f:List Nat) (w:World) (hn:RP w vn ns) (hl:RP w vl ls) (hu:RI w u (natI f)) (hf:∀e∈f,e<2*ls.length) (fc:f.length<=40) (Hh:zC ns ls):
  CB_ 193 #[.agg #[vn,vl],u] w (.int .i64 (z9X ns ls f)):=by
 have Ho:∀j:Nat,j<ls.length->zv ns (ndI ls j)=true:=fun j hj=>(Hh.2.2.2.2.2 j hj).1
 obtain⟨An,cn,rfl,Fk,GL,Hl⟩:=hn.formI;obtain⟨bn,offn,rfl,Gd,Gj⟩:=Hl (by have:=Hh.1;omega);obtain⟨Au,cu,rfl,Vd,Vh,FP⟩:=hu.form;rw[za] at Vd Vh FP hu⊢;unfold maxLen at GL Vh;have bH:=h_ (fun k hk=>Vg Hh hf k hk);have HTO:=h_ (fun d (hd:d<2*ls.length)=>jG Ho hd);have Bs:=h_ (fun d (hd:d<2*ls.length)=>qE Ho hd);have nI:=h_ (fun t ht=>jV Hh.2.2.2.1 t ht);have U8:=h_ (VK ns ls f);have HA0:Hid (yj ns ls f 0=0):=h_ rfl;have Fo:=h_ Gj;have HCU:=h_ FP;have HFM:=h_ hf
 go_enter Tryz.func193,Tryz.ntmps193
 go_wp2
 go_loopw [5,6] (fun n x wr=>∃k:Nat,k<=f.length/\x= .int .i64 k/\n= .int .i64 (yj ns ls f k)/\Blk wr w.heap.size 27 #[.slice (some ⟨bn,offn,none⟩) ns.length cn,vl]/\Below w.heap.size w wr) (fun _ x _=>f.length -(intOf x).toNat)
 case atStart=>exact⟨0,aab _,rfl,by rw[HA0.out],Blk.newAt rfl,by exact bel_⟩
 case round=>
  obtain⟨k,hk,rfl,rfl,hW,Hb⟩:=hrel;have gx:=hW.lt
  by_cases Hf:k<f.length
  ·have Hp:(k:Int)<(f.length:Int):=o_
   have ik1:(0:Int)<=(k:Int):=o_
   obtain⟨b4,off4,rfl,Hw,fm⟩:=HCU.out o_;have FE:=fm k Hf;rw[qs] at FE;have hx:=(Hb.cell (p:=⟨b4,off4+k,none⟩) Hw).trans FE;have F3:f.getD k 0<2*ls.length:=HFM.out _ (by rw[List.getD,aac Hf];exact abg Hf);have MB:=h_ (U8.out k);have fE:=bH.out k hk;generalize f.getD k 0=d at*;obtain⟨u,mh,GK⟩:=HTO.out d F3;obtain⟨t,nL,CV⟩:=Bs.out d F3;obtain⟨a_0,a_1⟩:=hW.c2;have Mt:RP wr vl ls:=hl.below Hb;have Ru:b4<wr.heap.size:=aaD Hw Hb.size
   go_wp2_with fail
   (refine z7 k_ k_ (fun hG=>?_))
   repeat (go_big_quiet_step ((go_at_call 192;exact zI (kf _ _ ls d _ (RS.grw _ Mt) F3))))
   refine wpQuiet_nil ?_
   rintro w3 ⟨⟨_,He⟩,rfl⟩;have GA:=hW.below He gx;have gq:=Hb.trans (He.mono Hb.size);have Ni:Hid (yk ns ls d=(ndI ns t).1*(ndI ns u).2 -(ndI ns t).2*(ndI ns u).1):=h_ (by unfold yk;rw[nL,mh]);obtain⟨p0,p1,p2,p3⟩:=zD (nI.out t CV);obtain⟨q0,q1,q2,q3⟩:=zD (nI.out u GK);have hbn3:bn<w3.heap.size:=aaD Gd gq.size;have GG:=GA.lt;have it1:(0:Int)<=(t:Int):=o_
   have it2:(t:Int)<(ns.length:Int):=o_
   have iu1:(0:Int)<=(u:Int):=o_
   have iu2:(u:Int)<(ns.length:Int):=o_
   obtain⟨t0,t1⟩:=Fo.out t CV;obtain⟨u0,u1⟩:=Fo.out u GK;have c0:=(gq.cell (p:=⟨bn,offn+t*2,none⟩) Gd).trans t0;have c1:=(gq.cell (p:=⟨bn,offn+t*2+1,none⟩) Gd).trans t1;have c2:=(gq.cell (p:=⟨bn,offn+u*2,none⟩) Gd).trans u0;have c3:=(gq.cell (p:=⟨bn,offn+u*2+1,none⟩) Gd).trans u1;rw[mh,nL];obtain⟨a_0,a_1⟩:=GA.c2;generalize (ndI ns t).1=X at*;generalize (ndI ns t).2=Y at*;generalize (ndI ns u).1=U at*;generalize (ndI ns u).2=V at*;obtain⟨m1a,m1b⟩:=vY (u:=X) (v:=V) o_ o_ o_ o_;obtain⟨m2a,m2b⟩:=vY (u:=Y) (v:=U) o_ o_ o_ o_;obtain⟨ba,bb⟩:=fE
   go_wp2_with fail
   (refine z7 k_ k_ (fun hG=>?_))
   repeat (go_big_quiet_step (fail))
   refine wpQuiet_nil ?_
   rintro w4 ⟨⟨_,MD⟩,rfl⟩;have BL:=h_ (GA.below MD GA.lt);have MA:=h_ (gq.trans (MD.mono gq.size));go_wp2;go_roundw
   case rel=>exact⟨k+1,by omega,by go_num,by rw[MB.out,Ni.out];congr 1;omega,BL.out,MA.out⟩
   case measure=>simp[intOf];omega
  ·have gi:k=f.length:=o_
   subst gi;have HR:Hid (z9X ns ls f=yj ns ls f f.length):=h_ rfl;go_wp2;go_ret
   exact⟨zo HR.out.symm,Hb⟩
theorem jP {ns ls:List Pr} {k:Nat} (hk:k<(z9 ns ls).length):zC ns ls/\(∀e∈(z9 ns ls).getD k [],e<2*ls.length)/\0<((z9 ns ls).getD k []).length /\((z9 ns ls).getD k []).length <=40:=by
 cases hw:ze ns ls
 ·simp[z9,hw] at hk
 ·have Hh:=(zM hw).1
  have Ho:∀j:Nat,j<ls.length->zv ns (ndI ls j)=true:=fun j hj=>(Hh.2.2.2.2.2 j hj).1
  have GD:=Hh.2.2.1;have hF:z9 ns ls=zE ns ls (2*ls.length):=by simp[z9,hw];rfl
  rw[hF] at hk⊢;have hm:(zE ns ls (2*ls.length)).getD k []∈zE ns ls (2*ls.length):=by rw[List.getD,aac hk];exact abg hk
  obtain⟨h1,h2,h3⟩:=Zk Ho (2*ls.length) (aaa _) _ hm;exact⟨Hh,h1,h2,by omega⟩
theorem zJ (ns ls:List Pr):(z9 ns ls).length <=40:=by
 cases hw:ze ns ls
 ·simp[z9,hw]
 ·have GD:=(zM hw).1.2.2.1
  have hF:z9 ns ls=zE ns ls (2*ls.length):=by simp[z9,hw];rfl
  rw[hF];have:=kP ns ls (2*ls.length);omega
noncomputable def jd (ns ls:List Pr):Int:=z6h ns ls (z9 ns ls)
theorem Vr {ns ls:List Pr} {F:List (List Nat)} {m k:Nat} (h:z9X ns ls (F.getD k [])<=0):ju ns ls F (m+1) k=k:=by simp only[ju];rw[aao h]
theorem Xe {ns ls:List Pr} {F:List (List Nat)} {m k:Nat} (h:¬z9X ns ls (F.getD k [])<=0):ju ns ls F (m+1) k=ju ns ls F m (k+1):=by simp only[ju];rw[aaq h]
theorem V2 (vn vl:Value) (ns ls:List Pr) (w:World) (hn:RP w vn ns) (hl:RP w vl ls):
  CB_ 149 #[.agg #[vn,vl]] w (.int .i64 (jd ns ls)):=by
 have Hg:Below w.heap.size w (w.alloc (.cells #[vn,vl] 27)):=bel_
 have gy:Blk (w.alloc (.cells #[vn,vl] 27)) w.heap.size 27 #[vn,vl]:=Blk.newAt rfl;have Fg:=h_ (fun k hk=>jP (ns:=ns) (ls:=ls) (k:=k) hk);have fc:=zJ ns ls;have HR:Hid (jd ns ls=ju ns ls (z9 ns ls) (z9 ns ls).length 0):=h_ rfl;have HOY:=h_ (fun m k h=>Vr (ns:=ns) (ls:=ls) (F:=z9 ns ls) (m:=m) (k:=k) h);have HON:=h_ (fun m k h=>Xe (ns:=ns) (ls:=ls) (F:=z9 ns ls) (m:=m) (k:=k) h);have Rv:Hid (∀k,ju ns ls (z9 ns ls) 0 k= -1):=h_ (fun _=>rfl)
 go_enter Tryz.func149,Tryz.ntmps149
 go_wp2_with fail
 refine(jK vn vl ns ls _ (hn.below Hg) (hl.below Hg)).mono ?_
 rintro e w1 ⟨v1,rfl,Hi,h9⟩;have h8:=Hg.trans (h9.mono Hg.size);have Hz:=gy.below h9 gy.lt;have Rw:=Hi.reads;generalize z9 ns ls=F at*;obtain⟨A1,c1,rfl,gc,Cv,fC⟩:=Rw.get;unfold maxLen at Cv;obtain⟨a_0,a_1⟩:=Hz.c2;go_wp2
 go_loopw [8] (fun x wr=>∃k:Nat,k<=F.length/\x= .int .i64 k/\Hid (ju ns ls F F.length 0=ju ns ls F (F.length -k) k)/\RF wr (.slice A1 F.length c1) F/\Blk wr w.heap.size 27 #[vn,vl]/\Below w.heap.size w wr) (fun x _=>F.length -(intOf x).toNat)
 case atStart=>exact⟨0,aab _,rfl,h_ rfl,Rw,Hz,h8⟩
 case round=>
  obtain⟨k,hk,rfl,HK,hF,hW,Hb⟩:=hrel;have gx:=hW.lt
  by_cases Hf:k<F.length
  ·have Hp:(k:Int)<(F.length:Int):=o_
   have ik1:(0:Int)<=(k:Int):=o_
   obtain⟨A2,c2,he2,_,_,hcell⟩:=hF.get
   cases he2
   obtain⟨b4,off4,rfl,Hw,fm⟩:=hcell o_;obtain⟨rr,C7,Me⟩:=fm k Hf;obtain⟨Hh,Mf,rx,bI⟩:=Fg.out k Hf;have Ux:=h_ (fun (v:World) (u:Value) (hb:Below w.heap.size w v) (hu:RI v u (natI (F.getD k [])))=>z1S vn vl u ns ls (F.getD k []) v (hn.below hb) (hl.below hb) hu Mf bI Hh);have HY:=h_ (fun h=>HOY.out (F.length -(k+1)) k h);have BO:=h_ (fun h=>HON.out (F.length -(k+1)) k h);rw[show F.length -(k+1)+1=F.length -k by omega] at HY BO;generalize z9X ns ls (F.getD k [])=z at*;obtain⟨a_0,a_1⟩:=hW.c2
   go_wp2_with fail
   refine(Ux.out wr rr Hb Me).mono ?_
   rintro e w5 ⟨rfl,H0⟩;have rs:=hW.below H0 gx;have hF5:=hF.below H0;have ME:=Hb.trans (H0.mono Hb.size)
   by_cases hz:z<=0
   ·have HX:=h_ (HY.out hz)
    go_wp2;go_ret
    exact⟨zo (by rw[HR.out,HK.out,HX.out]),ME⟩
   ·have HX:=h_ (BO.out o_)
    go_wp2;go_roundw
    case rel=>exact⟨k+1,by omega,by go_num,h_ (by rw[HK.out,HX.out]),hF5,rs,ME⟩
    case measure=>simp[intOf];omega
  ·have gi:k=F.length:=o_
   have HX:Hid (ju ns ls F (F.length -k) k= -1):=h_ (by rw[gi,aae];exact Rv.out _);go_wp2;go_ret
   exact⟨zo (by rw[HR.out,HK.out,HX.out]),Hb⟩
theorem Vo (vn vl:Value) (ns ls:List Pr) (w:World) (hn:RP w vn ns) (hl:RP w vl ls):
  CB_ 115 #[.agg #[vn,vl]] w (.int .i64 (jd ns ls)):=by
 have Hg:Below w.heap.size w (w.alloc (.cells #[vn,vl] 27)):=bel_
 have gy:Blk (w.alloc (.cells #[vn,vl] 27)) w.heap.size 27 #[vn,vl]:=Blk.newAt rfl;have Fg:=h_ (fun k hk=>jP (ns:=ns) (ls:=ls) (k:=k) hk);have fc:=zJ ns ls;have HR:Hid (jd ns ls=ju ns ls (z9 ns ls) (z9 ns ls).length 0):=h_ rfl;have HOY:=h_ (fun m k h=>Vr (ns:=ns) (ls:=ls) (F:=z9 ns ls) (m:=m) (k:=k) h);have HON:=h_ (fun m k h=>Xe (ns:=ns) (ls:=ls) (F:=z9 ns ls) (m:=m) (k:=k) h);have Rv:Hid (∀k,ju ns ls (z9 ns ls) 0 k= -1):=h_ (fun _=>rfl)
 go_enter Tryz.func115,Tryz.ntmps115
 go_wp2_with fail
 refine(jJ vn vl ns ls _ (hn.below Hg) (hl.below Hg)).mono ?_
 rintro e w1 ⟨v1,rfl,Hi,h9⟩;have h8:=Hg.trans (h9.mono Hg.size);have Hz:=gy.below h9 gy.lt;have Rw:=Hi.reads;generalize z9 ns ls=F at*;obtain⟨A1,c1,rfl,gc,Cv,fC⟩:=Rw.get;unfold maxLen at Cv;obtain⟨a_0,a_1⟩:=Hz.c2;go_wp2
 go_loopw [4] (fun x wr=>∃k:Nat,k<=F.length/\x= .int .i64 k/\Hid (ju ns ls F F.length 0=ju ns ls F (F.length -k) k)/\RF wr (.slice A1 F.length c1) F/\Blk wr w.heap.size 27 #[vn,vl]/\Below w.heap.size w wr) (fun x _=>F.length -(intOf x).toNat)
 case atStart=>exact⟨0,aab _,rfl,h_ rfl,Rw,Hz,h8⟩
 case round=>
  obtain⟨k,hk,rfl,HK,hF,hW,Hb⟩:=hrel;have gx:=hW.lt
  by_cases Hf:k<F.length
  ·have Hp:(k:Int)<(F.length:Int):=o_
   have ik1:(0:Int)<=(k:Int):=o_
   obtain⟨A2,c2,he2,_,_,hcell⟩:=hF.get
   cases he2
   obtain⟨b4,off4,rfl,Hw,fm⟩:=hcell o_;obtain⟨rr,C7,Me⟩:=fm k Hf;obtain⟨Hh,Mf,rx,bI⟩:=Fg.out k Hf;have Ux:=h_ (fun (v:World) (u:Value) (hb:Below w.heap.size w v) (hu:RI v u (natI (F.getD k [])))=>z1d vn vl u ns ls (F.getD k []) v (hn.below hb) (hl.below hb) hu Mf bI Hh);have HY:=h_ (fun h=>HOY.out (F.length -(k+1)) k h);have BO:=h_ (fun h=>HON.out (F.length -(k+1)) k h);rw[show F.length -(k+1)+1=F.length -k by omega] at HY BO;generalize z9X ns ls (F.getD k [])=z at*;obtain⟨a_0,a_1⟩:=hW.c2
   go_wp2_with fail
   (refine z7 k_ k_ (fun hG=>?_))
   repeat (go_big_quiet_step ((go_at_call 193;exact zI (Ux.out _ rr (Hb.trans (Below.mono (Grw.below _) Hb.size)) (RS.grw _ Me)))))
   refine wpQuiet_nil ?_
   rintro w5 ⟨⟨_,H0⟩,rfl⟩;have rs:=hW.below H0 gx;have hF5:=hF.below H0;have ME:=Hb.trans (H0.mono Hb.size)
   by_cases hz:z<=0
   ·have HX:=h_ (HY.out hz)
    go_wp2;go_ret
    exact⟨zo (by rw[HR.out,HK.out,HX.out]),ME⟩
   ·have HX:=h_ (BO.out o_)
    go_wp2;go_roundw
    case rel=>exact⟨k+1,by omega,by go_num,h_ (by rw[HK.out,HX.out]),hF5,rs,ME⟩
    case measure=>simp[intOf];omega
  ·have gi:k=F.length:=o_
   have HX:Hid (ju ns ls F (F.length -k) k= -1):=h_ (by rw[gi,aae];exact Rv.out _);go_wp2;go_ret
   exact⟨zo (by rw[HR.out,HK.out,HX.out]),Hb⟩
theorem OwnF.get {base:Nat} {w:World} {v:Value} {F:List (List Nat)} (h:OwnF base w v F) {k:Nat} (hk:k<F.length):∃g c u,v= .slice (some ⟨g,0,none⟩) F.length c/\F.length<=c/\base<=g/\g<w.heap.size/\w.cell? ⟨g,k,none⟩=some u/\OwnI base w u (natI (F.getD k [])):=by
 obtain⟨vs,h1,h2,h3⟩:=h
 rcases h2.2 with ⟨_,hn⟩|⟨g,cap,cur,rfl,hb,hh,hc,_⟩
 ·omega
 ·refine⟨g,cap,vs.getD k undef,rfl,hc,hb,(World.ownsRow.lt h2 g rfl).2,?_,h3 k hk⟩
  rw[h2.cellAt k o_,List.getD,aac o_];rfl
theorem OwnI.blk {base:Nat} {w:World} {u:Value} {zs:List Int} (h:OwnI base w u zs) (h0:0<zs.length):∃g c,u= .slice (some ⟨g,0,none⟩) zs.length c/\zs.length<=c/\base<=g/\g<w.heap.size/\∀q,q<zs.length->w.cell? ⟨g,q,none⟩=some (.int .i64 (zs.getD q 0)):=by
 rcases h.2 with ⟨_,hn⟩|⟨g,cap,cur,rfl,hb,hh,hc,_⟩
 ·omega
 ·exact⟨g,cap,rfl,hc,hb,(h.lt g rfl).2,fun q hq=>h.cell hq⟩
theorem qH {w:World} {ops:Array Oper} {rest:List Oper} {o:Oper} {a:Act} {Q:Exit->Act->World->Prop} (fY:o.guard=none) (s x:Operand)
  (ho:o.op= .call { callee:= .builtin .append,args:= #[s,x],argTypes:= #[31,31] })
  (base:Nat) (v:Value) (zs:List Int) (z:Int) (hs:a.eval s=v) (g:Nat) (hx:a.eval x= .slice (some ⟨g,0,none⟩) 1 1) (hg:w.cell? ⟨g,0,none⟩=some (.int .i64 z))
  (hown:OwnI base w v zs) (Hj:zs.length<=1048576) (Hu:base<=w.heap.size)
  (h:∀v' w',OwnI base w' v' (zs++[z])->w.grownBy w' v.ownBlock->(v'.ownBlock=v.ownBlock∨v'.ownBlock=some w.heap.size)->wpList Tryz.prog ops Q rest (a.put o.dst v') w'):wpList Tryz.prog ops Q (o::rest) a w:=by
 obtain⟨i,hi,hz,Hs,GN⟩:=info_parts qu
 exact wpList_append_own_at w fY s x 31 ho base 3 i (.int .i64 0) 1 8 Tryz.underlying31 hi hz Hs GN rfl (by decide) v zs.length _ hs hown ⟨g,0,none⟩ 1 1 [.int .i64 z] hx rfl
  (fun j y hj=>by
   match j,hj with
   |0,hj=>cases hj;exact hg
   |j+1,hj=>simp at hj)
  (by intro y hy;simp at hy;subst hy;rfl) (by unfold maxLen;omega) o_ Hu fun v' w' e1 e2 _ e3=>h v' w' (OwnI.snoc e1) e2 e3
def nodK (ls:List Pr) (f:List Nat) (k:Nat):List Int:=(f.take k).map (zc ls)
theorem Xg {ls:List Pr} {f:List Nat} {k:Nat} (h:k<f.length):nodK ls f (k+1)=nodK ls f k++[zc ls (f.getD k 0)]:=by
 unfold nodK;rw[aax h,aaz,show f.getD k 0=f[k] by simp[List.getD,h]];rfl
theorem Vs {ls:List Pr} {f:List Nat} {k:Nat} (h:k<=f.length):(nodK ls f k).length =k:=by simp[nodK];omega
def nodF (ls:List Pr) (f:List Nat):List Int:=nodK ls f f.length
theorem Jt (ls:List Pr) (f:List Nat):(nodF ls f).length =f.length:=Vs (aaa _)
noncomputable def qY (ns ls:List Pr) (f:Int):List Int:=if inB f 0 (((z9 ns ls).length :Int) -1) then nodF ls ((z9 ns ls).getD f.toNat []) else []
noncomputable def yc (ns ls:List Pr) (f:Int):Bool:=decide (0<(qY ns ls f).length)&&(@decide ((qY ns ls f).Nodup) (Classical.propDecidable _)&& !(decide (f=jd ns ls)))
theorem ke {ns ls:List Pr} {f:Int} (h:inB f 0 (((z9 ns ls).length :Int) -1)=false):qY ns ls f=[]:=by simp[qY,h]
theorem xK {ns ls:List Pr} {k:Nat} (h:k<(z9 ns ls).length):qY ns ls k=nodF ls ((z9 ns ls).getD k []):=by
 unfold qY;rw[aao (zf.2 o_),aa5]
theorem xN (ns ls:List Pr) (f:Int):(qY ns ls f).length <=40:=by
 cases h:inB f 0 (((z9 ns ls).length :Int) -1)
 ·rw[ke h];simp
 ·obtain⟨k,rfl⟩:∃k:Nat,f=k:=⟨f.toNat,by have:=zf.1 h;omega⟩
  have hk:k<(z9 ns ls).length :=by have:=zf.1 h;omega
  rw[xK hk,Jt];exact(jP hk).2.2.2
theorem VM (vn vl:Value) (ns ls:List Pr) (f:Int) (w:World) (hn:RP w vn ns) (hl:RP w vl ls):
  Calls Tryz.prog 114 #[.agg #[vn,vl],.int .i64 f] w (RetI (qY ns ls f) w):=by
 have GZ:Below w.heap.size w ((w.alloc (.cells #[vn,vl] 27)).alloc (.cells #[] 3)):=bel_
 have bJ:Blk ((w.alloc (.cells #[vn,vl] 27)).alloc (.cells #[] 3)) w.heap.size 27 #[vn,vl]:=(Blk.newAt rfl).alloc _;have wg:OwnI (w.heap.size+1) ((w.alloc (.cells #[vn,vl] 27)).alloc (.cells #[] 3)) (.slice (some ⟨w.heap.size+1,0,none⟩) 0 0) []:=OwnI.made (by simp) (by simp);have fc:=zJ ns ls;have Ck:=h_ (fun (v:World) (hb:Below w.heap.size w v)=>jJ vn vl ns ls v (hn.below hb) (hl.below hb));obtain⟨i0,hi,iz0,iz1,iz2⟩:=info_parts qu
 cases Gi:inB f 0 (((z9 ns ls).length :Int) -1)
 ·have HR:=h_ (ke (f:=f) Gi)
  generalize z9 ns ls=F at*;have Nx:=h_ Gi
  go_enter Tryz.func114,Tryz.ntmps114
  go_wp2_with fail
  refine(Ck.out _ GZ).mono ?_
  rintro e w1 ⟨v1,rfl,Hi,h9⟩;obtain⟨A1,c1,rfl⟩:=Hi.form;have GQ:=wg.kept h9;have h8:=GZ.trans (h9.mono GZ.size)
  go_wp2_with fail
  refine(j7 _ _ _ _).mono ?_
  rintro e w' ⟨rfl,rfl⟩;rw[Nx.out];go_wp2;go_ret
  exact⟨_,rfl,by rw[HR.out];exact GQ.mono o_,h8⟩
 ·obtain⟨k,rfl⟩:∃k:Nat,f=k:=⟨f.toNat,by have:=zf.1 Gi;omega⟩
  have hk:k<(z9 ns ls).length :=by have:=zf.1 Gi;omega
  have HR:=h_ (xK hk);obtain⟨Hh,Mf,rx,bI⟩:=jP hk;generalize z9 ns ls=F at*;generalize YN:F.getD k []=ff at*;have gl:=h_ YN;have Rx:=h_ Mf;have wh:=h_ (fun j hj=>Xg (ls:=ls) (f:=ff) (k:=j) hj);have mI:=h_ (fun j hj=>Vs (ls:=ls) (f:=ff) (k:=j) hj);have bK:Hid (nodK ls ff 0=[]):=h_ rfl;have HNF:Hid (nodF ls ff=nodK ls ff ff.length):=h_ rfl;have Nx:=h_ Gi;have Ff:(k:Int)<(F.length:Int):=o_
  have ik1:(0:Int)<=(k:Int):=o_
  go_enter Tryz.func114,Tryz.ntmps114
  go_wp2_with fail
  refine(Ck.out _ GZ).mono ?_
  rintro e w1 ⟨v1,rfl,Hi,h9⟩;have h8:=GZ.trans (h9.mono GZ.size);have Hz:=bJ.below h9 bJ.lt;have GQ:=wg.kept h9;obtain⟨b4,c1,rr,rfl,gc,mL,Hw,C7,Me⟩:=Hi.get hk;rw[gl.out] at Me;have fb:=za ff;obtain⟨b5,c2,rfl,gE,fg,H0,bL⟩:=Me.blk o_;rw[fb] at bL C7 gE;have Ry:=h_ bL;have cC:w.heap.size+1≠b4:=by simp at mL;omega
  have hap5:w.heap.size+1≠b5:=by simp at fg;omega
  go_wp2_with fail
  refine(j7 _ _ _ _).mono ?_
  rintro e w' ⟨rfl,rfl⟩;rw[Nx.out];go_wp2
  go_loopw [5,7] (fun v x wr=>∃j:Nat,j<=ff.length/\x= .int .i64 j/\OwnI (w.heap.size+1) wr v (nodK ls ff j)/\Blk wr w.heap.size 27 #[vn,vl]/\Below w.heap.size w wr/\wr.cell? ⟨b4,k,none⟩=some (.slice (some ⟨b5,0,none⟩) ff.length c2)/\w1.heap.size<=wr.heap.size/\(∀q,v.ownBlock=some q->q≠b4/\q≠b5)/\Hid (∀q,q<ff.length->wr.cell? ⟨b5,q,none⟩=some (.int .i64 ((natI ff).getD q 0)))) (fun _ x _=>ff.length -(intOf x).toNat)
  case atStart=>exact⟨0,aab _,rfl,by rw[bK.out];exact GQ,Hz,h8,C7,aaa _,fun q hq=>(by cases hq;exact⟨cC,hap5⟩),Ry⟩
  case round=>
   obtain⟨j,hj,rfl,ho,hW,Hb,C7,YO,bz,cZ⟩:=hrel;have gx:=hW.lt;have Ru:b4<wr.heap.size:=o_
   have hb52:b5<wr.heap.size:=o_
   obtain⟨a_0,a_1⟩:=hW.c2
   by_cases Hf:j<ff.length
   ·have Hp:(j:Int)<(ff.length:Int):=o_
    have ij1:(0:Int)<=(j:Int):=o_
    have hx:=cZ.out j Hf;rw[qs] at hx;have F3:ff.getD j 0<2*ls.length:=Rx.out _ (by rw[List.getD,aac Hf];exact abg Hf);have HS:=h_ (wh.out j Hf);have hgl:=mI.out j hj;generalize ff.getD j 0=d at*;have Mt:RP wr vl ls:=hl.below Hb
    go_wp2_with fail
    (refine z7 k_ k_ (fun hG=>?_))
    repeat (go_big_quiet_step ((go_at_call 192;exact zI (kf _ _ ls d _ (RS.grw _ Mt) F3))))
    refine wpQuiet_nil ?_
    rintro w3 ⟨⟨_,He⟩,rfl⟩;have Hm:=ho.kept He;have GA:=hW.below He gx;have gq:=Hb.trans (He.mono Hb.size);have hcr3:=(He.cell (p:=⟨b4,k,none⟩) Ru).trans C7;have HCL3:Hid (∀q,q<ff.length->w3.cell? ⟨b5,q,none⟩=some (.int .i64 ((natI ff).getD q 0))):=h_ (fun q hq=>(He.cell (p:=⟨b5,q,none⟩) hb52).trans (cZ.out q hq));have G5:=He.size;generalize zc ls d=z at*;generalize nodK ls ff j=G at*
    go_wp2_with (at_builtin;refine qH rfl _ _ rfl (w.heap.size+1) _ G z rfl w3.heap.size rfl (jA rfl) (Hm.alloc _) o_ (by simp;omega) ?_)
    intro v2 w2 Hk gm gR;have Gb:Below w.heap.size w w2:=(gq.alloc gq.size (.cells #[.int .i64 z] 3)).grown gm (by simp;omega) (fun q hq=>by have:=(Hm.lt q hq).1;omega);have gM:Blk w2 w.heap.size 27 #[vn,vl]:=(gm.block _ (by simp;omega) (fun e=>by have:=(Hm.lt _ e.symm).1;omega)).trans (GA.alloc _)
    have FG:w2.cell? ⟨b4,k,none⟩=some (.slice (some ⟨b5,0,none⟩) ff.length c2):=by
     rw[World.cell?_of_block (gm.block b4 (by simp;omega) (fun e=>(bz b4 e.symm).1 rfl))];exact(((aaj w3.heap.size w3).alloc (aaa _) _).cell (p:=⟨b4,k,none⟩) (show b4<w3.heap.size by omega)).trans hcr3
    have Ny:Hid (∀q,q<ff.length->w2.cell? ⟨b5,q,none⟩=some (.int .i64 ((natI ff).getD q 0))):=h_ (fun q hq=>by
     rw[World.cell?_of_block (gm.block b5 (by simp;omega) (fun e=>(bz b5 e.symm).2 rfl))];exact(((aaj w3.heap.size w3).alloc (aaa _) _).cell (p:=⟨b5,q,none⟩) (show b5<w3.heap.size by omega)).trans (HCL3.out q hq))
    have Gh:=gm.size;simp at Gh
    have hap2:∀q,v2.ownBlock=some q->q≠b4/\q≠b5:=by
     intro q hq
     rcases gR with h|h
     ·rw[h] at hq;exact bz q hq
     ·rw[h] at hq
      simp at hq
      omega
    go_wp2;go_roundw
    case rel=>exact⟨j+1,by omega,by go_num,by rw[HS.out];exact Hk,gM,Gb,FG,by omega,hap2,Ny⟩
    case measure=>simp[intOf];omega
   ·have GP:j=ff.length:=o_
    subst GP;go_wp2;go_ret
    exact⟨_,rfl,by rw[HR.out,HNF.out];exact ho.mono o_,Hb⟩
def disK (G:List Int) (k:Nat):Prop:=∀i j,i<j->j<k->G.getD i 0≠G.getD j 0
theorem z03 (G:List Int):disK G 0:=fun i j _ h=>absurd h o_
theorem XO {G:List Int} {k:Nat} (h:disK G k) (h2:∀i,i<k->G.getD i 0≠G.getD k 0):disK G (k+1):=by
 intro i j h3 h4
 rcases Nat.lt_succ_iff_lt_or_eq.1 h4 with h5|h5
 ·exact h i j h3 h5
 ·subst h5;exact h2 i h3
theorem Ju {G:List Int}:disK G G.length↔G.Nodup:=by
 rw[List.nodup_iff_pairwise_ne,aa7]
 constructor
 ·intro h i j hi hj m5
  have:=h i j m5 hj
  simpa[List.getD,hi,hj] using this
 ·intro h i j m5 hj
  have:=h i j o_ hj m5
  simpa[List.getD,hj,show i<G.length by omega] using this
theorem z2d {ns ls:List Pr} {f:Int} (h:(qY ns ls f).length =0):yc ns ls f=false:=by simp[yc,h]
theorem z1j {ns ls:List Pr} {f:Int} {i j:Nat} (m5:i<j) (hj:j<(qY ns ls f).length) (h:(qY ns ls f).getD i 0=(qY ns ls f).getD j 0):yc ns ls f=false:=by
 have:¬(qY ns ls f).Nodup :=fun hn=>Ju.2 hn i j m5 hj h
 unfold yc;simp[this]
theorem z1w {ns ls:List Pr} {f:Int} (h0:0<(qY ns ls f).length) (h:disK (qY ns ls f) (qY ns ls f).length):yc ns ls f= !(decide (f=jd ns ls)):=by
 have h1:=Ju.1 h;have h2:decide (0<(qY ns ls f).length)=true:=by simp;omega
 have h3: @decide ((qY ns ls f).Nodup) (Classical.propDecidable _)=true:=by simp[h1]
 unfold yc;rw[h2,h3,aaR,aaR]
theorem z2n (vn vl:Value) (ns ls:List Pr) (f:Int) (w:World) (hn:RP w vn ns) (hl:RP w vl ls):
  CB_ 41 #[.agg #[vn,vl],.int .i64 f] w (.bool (yc ns ls f)):=by
 have GZ:Below w.heap.size w (w.alloc (.cells #[vn,vl] 27)):=bel_
 have bJ:Blk (w.alloc (.cells #[vn,vl] 27)) w.heap.size 27 #[vn,vl]:=Blk.newAt rfl;have hle:=xN ns ls f;have bK:=h_ (fun h=>z2d (ns:=ns) (ls:=ls) (f:=f) h);have FV:=h_ (fun i j h1 h2 h3=>z1j (ns:=ns) (ls:=ls) (f:=f) (i:=i) (j:=j) h1 h2 h3);have HY:=h_ (fun h0 h=>z1w (ns:=ns) (ls:=ls) (f:=f) h0 h);have ry:=h_ (fun (v:World) (hb:Below w.heap.size w v)=>VM vn vl ns ls f v (hn.below hb) (hl.below hb));have Rz:=h_ (fun (v:World) (hb:Below w.heap.size w v)=>Vo vn vl ns ls v (hn.below hb) (hl.below hb));generalize qY ns ls f=G at*;generalize jd ns ls=o at*
 go_enter Tryz.func41,Tryz.ntmps41
 go_wp2_with fail
 refine(ry.out _ GZ).mono ?_
 rintro e w1 ⟨v1,rfl,Hi,h9⟩;have h8:=GZ.trans (h9.mono GZ.size);have Hz:=bJ.below h9 bJ.lt;obtain⟨A1,c1,rfl,gc,Cv,hcell⟩:=Hi.reads.form;have nT:=h_ hcell;unfold maxLen at Cv;obtain⟨a_0,a_1⟩:=Hz.c2;go_wp2
 go_loopw [6] (fun x wr=>∃k:Nat,k<=G.length/\x= .int .i64 k/\Hid (disK G k)/\Blk wr w.heap.size 27 #[vn,vl]/\Below w.heap.size w wr/\Below w1.heap.size w1 wr) (fun x _=>G.length -(intOf x).toNat)
 case atStart=>exact⟨0,aab _,rfl,h_ (z03 G),Hz,h8,aaj _ _⟩
 case round=>
  obtain⟨k,hk,rfl,HK,hW,Hb,h9⟩:=hrel
  by_cases Hf:k<G.length
  ·have Hp:(k:Int)<(G.length:Int):=o_
   have ik1:(0:Int)<=(k:Int):=o_
   go_wp2
   go_loopw [7] (fun x wr=>∃i:Nat,i<=k/\x= .int .i64 i/\Hid (∀q,q<i->G.getD q 0≠G.getD k 0)/\Blk wr w.heap.size 27 #[vn,vl]/\Below w.heap.size w wr/\Below w1.heap.size w1 wr) (fun x _=>k -(intOf x).toNat)
   case atStart=>exact⟨0,aab _,rfl,h_ (fun q hq=>absurd hq o_),hW,Hb,h9⟩
   case round=>
    obtain⟨i,hi,rfl,HI,hW,Hb,h9⟩:=hrel;have gx:=hW.lt
    by_cases RE:i<k
    ·have hik1:(i:Int)<(k:Int):=o_
     have ii1:(0:Int)<=(i:Int):=o_
     have ii2:(i:Int)<(G.length:Int):=o_
     obtain⟨b4,off4,rfl,Hw,fm⟩:=nT.out o_;have q0:=(h9.cell (p:=⟨b4,off4+i,none⟩) Hw).trans (fm i o_);have q1:=(h9.cell (p:=⟨b4,off4+k,none⟩) Hw).trans (fm k Hf);have Ru:b4<wr.heap.size:=aaD Hw h9.size;have HX:=h_ (fun h=>FV.out i k RE Hf h)
     have nU:Hid (G.getD i 0≠G.getD k 0->∀q,q<i+1->G.getD q 0≠G.getD k 0):=h_ (fun h q hq=>by
      rcases Nat.lt_succ_iff_lt_or_eq.1 hq with h1|h1
      ·exact HI.out q h1
      ·subst h1;exact h)
     generalize hy:G.getD i 0=y at*;generalize hz:G.getD k 0=z at*
     by_cases he:y=z
     ·have e1:(y==z)=true:=by simp[he]
      have HR:=h_ (HX.out he)
      go_wp2_with fail
      (refine z7 k_ k_ (fun hG=>?_))
      repeat (go_big_quiet_step (fail))
      refine wpQuiet_nil ?_
      rintro w3 ⟨⟨_,He⟩,rfl⟩;go_wp2;go_ret
      exact⟨z8 HR.out.symm,Hb.trans (He.mono Hb.size)⟩
     ·have e1:(y==z)=false:=by simp[he]
      have HNE2:=h_ (nU.out he)
      go_wp2_with fail
      (refine z7 k_ k_ (fun hG=>?_))
      repeat (go_big_quiet_step (fail))
      refine wpQuiet_nil ?_
      rintro w3 ⟨⟨_,He⟩,rfl⟩;have GA:=hW.below He gx;have gq:=Hb.trans (He.mono Hb.size);have mM:=h9.trans (He.mono h9.size);go_wp2;go_roundw
      case rel=>exact⟨i+1,by omega,by go_num,HNE2,GA,gq,mM⟩
      case measure=>simp[intOf];omega
    ·have Ns:i=k:=o_
     subst Ns;have HD:=h_ (XO HK.out HI.out);go_wp2;go_roundw
     case rel=>exact⟨i+1,by omega,by go_num,HD,hW,Hb,h9⟩
     case measure=>simp[intOf];omega
  ·have gi:k=G.length:=o_
   subst gi
   by_cases h0:G.length=0
   ·have HR:=h_ (bK.out h0)
    go_wp2;go_ret
    exact⟨z8 HR.out.symm,Hb⟩
   ·have HR:=h_ (HY.out o_ HK.out)
    have e1:(0:Int)<(G.length:Int):=o_
    have e2:0<G.length:=o_
    obtain⟨a_0,a_1⟩:=hW.c2
    go_wp2_with fail
    refine(Rz.out _ Hb).mono ?_
    rintro e w5 ⟨rfl,H0⟩;go_wp2;go_ret
    refine⟨z8 ?_,Hb.trans (H0.mono Hb.size)⟩
    rw[HR.out]
    by_cases RG:f=o
    ·simp[RG]
    ·simp[RG]
def boxK (ns:List Pr) (G:List Int):Nat->Pr×Pr
 |0=>(ndI ns (G.getD 0 0),ndI ns (G.getD 0 0))
 |k+1=>((mn2 (boxK ns G k).1.1 (ndI ns (G.getD k 0)).1,mn2 (boxK ns G k).1.2 (ndI ns (G.getD k 0)).2),(mx2 (boxK ns G k).2.1 (ndI ns (G.getD k 0)).1,mx2 (boxK ns G k).2.2 (ndI ns (G.getD k 0)).2))
noncomputable def boxF (ns ls:List Pr) (f:Int):Pr×Pr:=if (qY ns ls f).length =0 then((0,0),(0,0)) else boxK ns (qY ns ls f) (qY ns ls f).length
noncomputable def cmpR (ns ls:List Pr) (f g:Nat):Int:=if (boxF ns ls f).2.2=(boxF ns ls g).2.2 then(boxF ns ls f).1.1 -(boxF ns ls g).1.1 else(boxF ns ls g).2.2 -(boxF ns ls f).2.2
noncomputable def ltR (ns ls:List Pr) (f g:Nat):Bool:=decide (cmpR ns ls f g<0)
noncomputable def facL (ns ls:List Pr) (k:Nat):List Nat:=(List.range k).filter (fun f:Nat=> !decide ((f:Int)=jd ns ls))
noncomputable def ordL (ns ls:List Pr) (k:Nat):List Nat:=isoK (ltR ns ls) (facL ns ls k) (facL ns ls k).length
noncomputable def ordW (ns ls:List Pr):List Nat:=ordL ns ls (z9 ns ls).length
noncomputable def numN (ns ls:List Pr) (f:Nat):Int:=idxN (ordW ns ls) f+1
theorem QH {ns ls:List Pr} {k:Nat} (h:(k:Int)=jd ns ls):facL ns ls (k+1)=facL ns ls k:=by
 unfold facL;rw[abe,abf];simp[h]
theorem J9 {ns ls:List Pr} {k:Nat} (h:¬(k:Int)=jd ns ls):facL ns ls (k+1)=facL ns ls k++[k]:=by
 unfold facL;rw[abe,abf];simp[h]
theorem Qz (ns ls:List Pr) (k:Nat):(facL ns ls k).length <=k:=by
 have:=List.length_filter_le (fun f:Nat=> !decide ((f:Int)=jd ns ls)) (List.range k)
 simpa[facL] using this
theorem z29 (lt:Nat->Nat->Bool) (G:List Nat):isoK lt G G.length=G.foldl (fun S d=>insN (lt d) d S) []:=by unfold isoK;rw[aaA]
theorem z2i {ns ls:List Pr} {k:Nat} (h:(k:Int)=jd ns ls):ordL ns ls (k+1)=ordL ns ls k:=by unfold ordL;rw[QH h]
theorem z4b {ns ls:List Pr} {k:Nat} (h:¬(k:Int)=jd ns ls):ordL ns ls (k+1)=insN (ltR ns ls k) k (ordL ns ls k):=by
 unfold ordL;rw[J9 h,z29,z29,List.foldl_append];rfl
theorem x9 (ns ls:List Pr) (k:Nat):(ordL ns ls k).length =(facL ns ls k).length :=jx _ _ _ (aaa _)
theorem JX {ns ls:List Pr} {f:Nat}:∀k,f∈ordL ns ls k↔f∈facL ns ls k
 |0=>by simp[ordL,facL,isoK]
 |k+1=>by
  by_cases h:(k:Int)=jd ns ls
  ·rw[z2i h,QH h];exact JX k
  ·rw[z4b h,J9 h,z1A,JX k,aaI,aa9]
   exact⟨fun h=>h.symm,fun h=>h.symm⟩
def z8D (ns:List Pr) (G:List Int):Prop:=∀k,k<G.length->∃q:Nat,G.getD k 0=(q:Int)/\q<ns.length
theorem Qn {ns ls:List Pr} {f:Int}:z8D ns (qY ns ls f):=by
 intro k hk
 cases h:inB f 0 (((z9 ns ls).length :Int) -1)
 ·rw[ke h] at hk;simp at hk
 ·obtain⟨j,rfl⟩:∃j:Nat,f=j:=⟨f.toNat,by have:=zf.1 h;omega⟩
  have hj:j<(z9 ns ls).length :=by have:=zf.1 h;omega
  obtain⟨Hh,Mf,rx,bI⟩:=jP hj;have Ho:∀j:Nat,j<ls.length->zv ns (ndI ls j)=true:=fun j hj=>(Hh.2.2.2.2.2 j hj).1
  rw[xK hj,Jt] at*;have hd:=Mf _ (abg hk)
  have hg:(nodF ls ((z9 ns ls).getD j [])).getD k 0=zc ls (((z9 ns ls).getD j [])[k]):=by
   unfold nodF nodK;rw[aaA,aa6,aau,aac hk];rfl
  rw[hg];exact qE Ho hd
def bd20 (p:Pr):Prop:=0<=p.1/\p.1<=20/\0<=p.2/\p.2<=20
theorem z7y {ns:List Pr} {G:List Int} (Bt:q8 ns=true) (hG:z8D ns G) (h0:0<G.length):∀k,k<=G.length->bd20 (boxK ns G k).1/\bd20 (boxK ns G k).2:=by
 have hb:∀j,j<G.length->bd20 (ndI ns (G.getD j 0)):=by
  intro j hj;obtain⟨q,e,hq⟩:=hG j hj;rw[e];exact zD (jV Bt q hq)
 intro k
 induction k with
 |zero=>intro _;exact⟨hb 0 h0,hb 0 h0⟩
 |succ k ih=>
  intro hk;have a:=hb k o_;obtain⟨⟨b1,b2,b3,b4⟩,c1,c2,c3,c4⟩:=ih o_;obtain⟨a1,a2,a3,a4⟩:=a;simp only[boxK,bd20,mn2,mx2]
  refine⟨⟨?_,?_,?_,?_⟩,?_,?_,?_,?_⟩<;>split<;>omega
theorem z4e {ns ls:List Pr} {f:Int}:bd20 (boxF ns ls f).1/\bd20 (boxF ns ls f).2:=by
 unfold boxF
 split
 ·exact⟨⟨by decide,by decide,by decide,by decide⟩,by decide,by decide,by decide,by decide⟩
 ·rename_i h
  have hw:q8 ns=true:=by
   cases Gi:inB f 0 (((z9 ns ls).length :Int) -1)
   ·rw[ke Gi] at h;simp at h
   ·obtain⟨j,rfl⟩:∃j:Nat,f=j:=⟨f.toNat,by have:=zf.1 Gi;omega⟩
    have hj:j<(z9 ns ls).length :=by have:=zf.1 Gi;omega
    exact(jP hj).1.2.2.2.1
  exact z7y hw Qn o_ _ (aaa _)
structure Rc where
 s:Int
 a:Int
 l:Int
 m:Int
def Rc.cs (r:Rc):List Value:=[.int .i64 r.s,.int .i64 r.a,.int .i64 r.l,.int .i64 r.m]
def RR (w:World) (v:Value) (l:List Rc):Prop:=RS w 4 v l.length (l.flatMap Rc.cs)
open Go.ChangeShapes Go.WideShapes Go.RowKit
structure Dp where
 k:Int
 a:Int
 b:Int
def Dp.cs (r:Dp):List Value:=[.int .i64 r.k,.int .i64 r.a,.int .i64 r.b]
def RDp (w:World) (v:Value) (l:List Dp):Prop:=RS w 3 v l.length (l.flatMap Dp.cs)
theorem RDp.below {w w':World} {v:Value} {l:List Dp} (h:RDp w v l) (hb:Below w.heap.size w w'):RDp w' v l:=RS.below h hb
theorem RDp.form {w:World} {v:Value} {l:List Dp} (h:RDp w v l):∃A c,v= .slice A l.length c/\l.length<=c/\l.length<=maxLen/\
  (0<l.length->∃b off,A=some ⟨b,off,none⟩/\b<w.heap.size/\∀k (hk:k<l.length),w.cell? ⟨b,off+k*3,none⟩=some (.int .i64 l[k].k)/\w.cell? ⟨b,off+k*3+1,none⟩=some (.int .i64 l[k].a)/\
   w.cell? ⟨b,off+k*3+2,none⟩=some (.int .i64 l[k].b)):=by
 obtain⟨_,A,c,hv,h1,h2,h3⟩:=h;refine⟨A,c,hv,h1,h2,fun hn=>?_⟩
 obtain⟨b,off,hA,Hf,hc⟩:=h3 hn;refine⟨b,off,hA,Hf,fun k hk=>?_⟩
 have g:=fun j hj=>yw Dp.cs 3 (fun _=>rfl) l k j hk hj
 refine⟨?_,?_,?_⟩
 ·exact hc (k*3+0) _ (by rw[g 0 o_];rfl)
 ·have:=hc (k*3+1) _ (by rw[g 1 o_];rfl);rwa [<-aak] at this
 ·have:=hc (k*3+2) _ (by rw[g 2 o_];rfl);rwa [<-aak] at this
section
variable {H:Type} {enc:TypeId×Value->H} {w:World} {base:Nat} {spare:Nat->Bool} {BM:Bool}
end
theorem xS:(Tryz.prog.info? 48).map (fun i=>(i.zero,i.size,i.bytes))=some (some (.agg #[.int .i64 0,.int .i64 0,.int .i64 0]),3,24):=by kernel_rfl
def zK (base:Nat) (w:World) (v:Value) (l:List Dp):Prop:=w.ownsRow base 48 3 v l.length (l.flatMap Dp.cs)
theorem zK.reads {base:Nat} {w:World} {v:Value} {l:List Dp} (h:zK base w v l):RDp w v l:=ku h
theorem zK.kept {base:Nat} {w w':World} {v:Value} {l:List Dp} (h:zK base w v l) (hb:Below w.heap.size w w'):zK base w' v l:=qj h hb
def z9i (l:List Dp) (w:World) (e:Ending) (w':World):Prop:=∃v,e= .returned v/\zK w.heap.size w' v l/\Below w.heap.size w w'
theorem zK.nil (base:Nat) (w:World):zK base w (.slice none 0 0) []:=World.ownsRow_nil _ _ _ _
theorem z4W {n:Nat} {ls:List Pr} (hl:Qq n ls) {c:Nat}:∀k,∀i,i<n->(zH (2^c) ls k).testBit i=true->(zm n ls ls.length).getD i 0=(zm n ls ls.length).getD c 0:=by
 have step:∀(m:Nat),m<=ls.length->∀s:Nat,(∀i,i<n->s.testBit i=true->(zm n ls ls.length).getD i 0=(zm n ls ls.length).getD c 0)->∀i,i<n->(qi s (ls.take m)).testBit i=true->(zm n ls ls.length).getD i 0=(zm n ls ls.length).getD c 0:=by
  intro m
  induction m with
  |zero=>intro _ s h i hi hb;exact h i hi (by simpa[qi] using hb)
  |succ m ih=>
   intro hm s h i hi hb;have ih':=ih o_ s h;rw[aax o_,k8] at hb;generalize qi s (ls.take m)=t at*;obtain⟨p,q,g1,g2,g3,g4⟩:=hl m o_;have fZ:=Qf hl ls.length (aaa _) m o_ p q g1 g2;rw[qd ls m o_] at g1 g2;have gS:(addS t ls[m]).testBit i=true:=hb;unfold addS at gS;rw[g1,g2,aa5,aa5] at gS
   split at gS
   ·rename_i Ci
    rw[aa1,aa1,aaH,aaH] at gS
    have bE:(zm n ls ls.length).getD p 0=(zm n ls ls.length).getD c 0:=by
     rw[aaH] at Ci
     rcases Ci with h5|h5
     ·exact ih' p g3 h5
     ·rw[fZ];exact ih' q g4 h5
    rcases gS with h5|h5|h5
    ·exact ih' i hi h5
    ·rw[aa2] at h5
     have:p=i:=by simpa using h5
     rw[<-this];exact bE
    ·rw[aa2] at h5
     have:q=i:=by simpa using h5
     rw[<-this,<-fZ];exact bE
   ·exact ih' i hi gS
 intro k
 induction k with
 |zero=>
  intro i hi hb;rw[show zH (2^c) ls 0=2^c from rfl,aa2] at hb;have:c=i:=by simpa using hb
  rw[this]
 |succ k ih=>
  intro i hi hb;have:=step ls.length (aaa _) (zH (2^c) ls k) ih i hi;rw[aaA] at this;exact this hb
theorem JU {S p:Nat} (hp:S.testBit p=true) (hl:∀i,i<p->S.testBit i=false):∀n,(n<=p->memS S n=[])/\(p<n->(memS S n)[0]? =some p)
 |0=>⟨fun _=>rfl,fun h=>absurd h o_⟩
 |n+1=>by
  have ih:=JU hp hl n
  have e:memS S (n+1)=memS S n++(if S.testBit n=true then [n] else []):=by
   unfold memS;rw[abe,abf]
   congr 1
   by_cases h:S.testBit n=true<;>simp[h]
  constructor
  ·intro h
   rw[e,ih.1 o_,aaq (by rw[hl n o_];simp)];rfl
  ·intro h
   by_cases hn:p<n
   ·rw[e,abc,ih.2 hn]
    have:=ih.2 hn;exact(List.getElem?_eq_some_iff.1 this).1
   ·have hpn:n=p:=o_
    subst hpn;rw[e,ih.1 o_,aao hp];rfl
theorem z37 {n:Nat} {ls:List Pr} (hl:Qq n ls) {c:Nat} (hc:c<n):
  ∃p:Nat,(zm n ls ls.length).getD c 0=(p:Int)/\p<=c/\(memS (zH (2^c) ls n) n)[0]? =some p:=by
 have Gm:∀l∈ls,l.1.toNat <n/\l.2.toNat <n:=by
  intro l hm;obtain⟨j,hj,e⟩:=aba hm;obtain⟨p,q,h1,h2,h3,h4⟩:=hl j hj;rw[qd ls j hj,e] at h1 h2;rw[h1,h2,aa5,aa5];exact⟨h3,h4⟩
 have h1:(2:Nat)^c<2^n:=aa3 o_ hc;have Cv:0<(memS (2^c) n).length :=abh (a:=c) (by simp[memS,hc,aby]);have hf:=XX (Jy h1 Cv Gm)
 have FO:∀k,(zH (2^c) ls k).testBit c=true:=by
  intro k
  induction k with
  |zero=>exact aby
  |succ k ih=>exact vD ls _ ih
 have bE:=z4W hl (c:=c) n;have wi:=FO n;generalize zH (2^c) ls n=S at*;have fE:=QR hl ls.length (aaa _) c hc
 have Hy:=vi hl (fun i=>S.testBit i=true) (fun j hj p q hp hq=>by
  have:=hf ls[j] (abg hj);rw[qd ls j hj] at hp hq;rw[hp,hq,aa5,aa5] at this;exact this) ls.length (aaa _) c hc
 obtain⟨p,hp⟩:∃p:Nat,(zm n ls ls.length).getD c 0=(p:Int):=⟨((zm n ls ls.length).getD c 0).toNat,(Int.toNat_of_nonneg fE.1).symm⟩;rw[hp,aa5] at Hy;rw[hp] at fE bE;refine⟨p,hp,by omega,(JU (Hy.1 wi) (fun i hi=>?_) n).2 o_⟩
 cases hb:S.testBit i
 ·rfl
 ·have h2:=bE i o_ hb
  have h3:=QR hl ls.length (aaa _) i o_;omega
def Xp (p:Pr):Int:=42*p.1+2*p.2
theorem jw {ns ls:List Pr} (h:zC ns ls) {j:Nat} (hj:j<ls.length):zv ns (ndI ls j)=true:=(h.2.2.2.2.2 j hj).1
def ptN (ns:List Pr) (v:Nat):Pr:=ndI ns v
def lN (ns ls:List Pr) (j:Nat):Nat:=if Xp (ndI ns (zc ls (2*j)))<Xp (ndI ns (dTo ls (2*j))) then(zc ls (2*j)).toNat else(dTo ls (2*j)).toNat
def rN (ns ls:List Pr) (j:Nat):Nat:=if Xp (ndI ns (zc ls (2*j)))<Xp (ndI ns (dTo ls (2*j))) then(dTo ls (2*j)).toNat else(zc ls (2*j)).toNat
section
variable {ns ls:List Pr} (h:zC ns ls)
include h
end
def Hts (ns ls:List Pr) (P:Int) (A B:Nat->Int):Prop:=
 0<P/\∀j,j<ls.length->A j*Xp (ptN ns (lN ns ls j))+B j=P*(ptN ns (lN ns ls j)).2/\A j*Xp (ptN ns (rN ns ls j))+B j=P*(ptN ns (rN ns ls j)).2
section
variable {ns ls:List Pr} {P:Int} {A B:Nat->Int} (h:zC ns ls) (hh:Hts ns ls P A B)
include h hh
end
section
variable {ns ls:List Pr} (h:zC ns ls)
include h
end
section
variable {ns ls:List Pr} {P:Int} {A B:Nat->Int} (h:zC ns ls) (hh:Hts ns ls P A B)
include h hh
end
section
variable {v t u:Pr} (hv:jz v=true) (ht:jz t=true) (hu:jz u=true)
include hv ht hu
end
section
variable {ns ls:List Pr} {P:Int} {A B:Nat->Int} (h:zC ns ls) (hh:Hts ns ls P A B)
include h hh
end
section
variable {ns ls:List Pr} {P:Int} {A B:Nat->Int} (h:zC ns ls) (hh:Hts ns ls P A B)
include h hh
end
def fcD (ns ls:List Pr) (d:Nat):Nat:=qz (zg ns ls) d
section
variable {ns ls:List Pr} (h:zC ns ls)
include h
theorem z41:∀j:Nat,j<ls.length->zv ns (ndI ls j)=true:=fun j hj=>jw h hj
theorem z2s {d:Nat} (hd:d<2*ls.length):fcD ns ls d<(zg ns ls).length :=
 (yg ((qV (z41 h) (2*ls.length) (aaa _)).1 d hd)).1
end
section
variable {ns ls:List Pr} {k:Nat} (h:zC ns ls) (hk:k<ls.length)
include h hk
end
noncomputable def dgN (ls:List Pr) (v:Nat):Nat:=cn (2*ls.length) (fun d=>zc ls d=(v:Int))
def adjF (ns ls:List Pr) (f g:Nat):Prop:=∃d,d<2*ls.length/\fcD ns ls d=f/\fcD ns ls (twin d)=g/\f≠g
def d3 (ls:List Pr) (d:Nat):Prop:=3<=dgN ls (zc ls d).toNat
theorem kq {ns ls:List Pr} {f g:Nat} (h:adjF ns ls f g):adjF ns ls g f:=by
 obtain⟨d,h1,h2,h3,h4⟩:=h;exact⟨twin d,js h1,h3,by rw[vo];exact h2,fun hc=>h4 hc.symm⟩
section
variable {ns ls:List Pr} (h:zC ns ls)
include h
theorem z4l {f g:Nat} (ha:adjF ns ls f g):g<(zg ns ls).length :=by
 obtain⟨d,h1,h2,h3,h4⟩:=ha;rw[<-h3];exact z2s h (js h1)
end
theorem Xi (d:Nat):(d=2*(d/2)/\twin d=2*(d/2)+1)∨(d=2*(d/2)+1/\twin d=2*(d/2)):=by
 unfold twin
 by_cases h:d%2=0
 ·left;rw[aao h];omega
 ·right;rw[aaq h];omega
def actB (k a b:Int):Bool:=
 if k==1||k==6 then inB a 0 40&&inB b 0 40
 else if k==7 then inB a 0 40&&inB b 1 50
 else if k==2||k==3||k==5||k==8 then inB a 0 40&&b==0
 else if k==4||k==9 then a==0&&b==0
 else false
theorem z3b (k a b:Int) (w:World):
  CB_ 67 #[.agg #[.int .i64 k,.int .i64 a,.int .i64 b]] w (.bool (actB k a b)):=by
 go_enter Tryz.func67,Tryz.ntmps67
 go_wp2_with (go_at_call 78;refine(yA _ _ _ _).mono ?_;rintro e w' ⟨rfl,rfl⟩)
 all_goals go_ret
 all_goals refine⟨z8 ?_,by exact bel_⟩
 all_goals simp_all[actB]
theorem zx.alloc {W0 w:World} {v:Value} {g:Nat} (h:zx W0 v g w) (o:Obj):zx W0 v g (w.alloc o):=by
 obtain⟨hg,Hb,i,s,hi,hB⟩:=h;exact⟨hg,Hb.alloc Hb.size o,i,s,hi,hB.alloc o⟩
theorem zx.lt {W0 w:World} {v:Value} {g:Nat} (h:zx W0 v g w):g<w.heap.size:=by
 obtain⟨hg,Hb,i,s,hi,hB⟩:=h;exact hB.lt
theorem zx.far {W0 w:World} {v:Value} {g:Nat} (h:zx W0 v g w) {p:Addr} (hp:g<p.block) (x:Value):zx W0 v g (w.setCell p x):=by
 obtain⟨hg,Hb,i,s,hi,hB⟩:=h;exact⟨hg,Hb.setCell o_ _,i,s,hi,hB.far o_ x⟩
def z8U (v:Value) (w:World) (e:Ending) (w':World):Prop:=∃g:Nat,e= .returned (.pointer (some ⟨g,0,none⟩))/\zx w v g w'
theorem z8Y (v:Value) (zs:List Int) (w:World) (h:RB w v zs) (hle:zs.length<=1048576):
  Calls Tryz.prog 64 #[v] w (z8U v w):=
 (z7x v zs w h hle).mono fun e w' ⟨he,hc⟩=>⟨_,he,hc⟩
attribute [local go_sem ↓] zr zt zR zQ
theorem Jl (W0:World) (v:Value) (zs:List Int) (g:Nat) (n:Int) (w:World) (h:RB W0 v zs) (hle:zs.length<=1048576) (hn:0<n) (hc:zx W0 v g w):
  Calls Tryz.prog 130 #[.pointer (some ⟨g,0,none⟩),.int .i64 n] w fun e w'=>∃b:Bool,e= .returned (.bool b)/\zx W0 v g w'/\w.grownBy w' (some g):=by
 go_enter Tryz.func130,Tryz.ntmps130
 go_wp2_with fail
 refine(zp W0 v zs g n _ h hle hn hc).mono ?_
 rintro e w1 ⟨x,rfl,x0,x1,gc,gD⟩;go_wp2;go_ret
 exact⟨_,rfl,gc,gD⟩
theorem zy {a w:World} {row:Option Nat} (h:a.grownBy w row) {p:Addr} (hp:a.heap.size<=p.block) (u:Value):a.grownBy (w.setCell p u) row:=
 ⟨h.os,h.tape,h.output,by simpa[World.setCell] using h.size,fun i hi gd=>(Below.heap_setCell w p u i (fun e=>by omega)).trans (h.block i hi gd)⟩
theorem z6j (W0:World) (v:Value) (zs:List Int) (g:Nat) (w:World) (h:RB W0 v zs) (hle:zs.length<=1048576) (hc:zx W0 v g w):
  Calls Tryz.prog 271 #[.pointer (some ⟨g,0,none⟩)] w fun e w'=>∃x y:Int,e= .returned (.agg #[.int .i64 x,.int .i64 y])/\zx W0 v g w'/\w.grownBy w' (some g):=by
 have Hf:=hc.lt
 go_enter Tryz.func271,Tryz.ntmps271
 go_wp2_with fail
 refine(zp W0 v zs g 13 _ h hle o_ (hc.alloc _)).mono ?_
 rintro e w1 ⟨x,rfl,x0,x1,gc,gD⟩
 go_wp2_with fail
 refine(zp W0 v zs g 13 _ h hle o_ gc).mono ?_
 rintro e w2 ⟨y,rfl,y0,y1,gE,gm⟩;have hR:Blk w2 w.heap.size 106 #[.int .i64 0,.int .i64 0]:=(((Blk.new w _ _).grown gD o_).grown gm o_);obtain⟨r_0,r_1,r_f0,r_f1⟩:=hR.b2;have FD:=hR.lt;have HC:=h_ (((gE.far (p:=⟨w.heap.size,0,none⟩) Hf (.int .i64 x))).far (p:=⟨w.heap.size,1,none⟩) Hf (.int .i64 y));have HG:=h_ (zb (zb (jf (World.grownBy.refl w (some g)) (.cells #[.int .i64 0,.int .i64 0] 106)) gD) gm);clear gD gm hR;go_wp2;refine bodyPost_ret (v:= .agg #[.int .i64 x,.int .i64 y]) (by simp[results,Tryz.results271,go_sem,r_0,r_1,FD]) rfl ⟨_,_,rfl,HC.out,zy (p:=⟨w.heap.size,1,none⟩) (zy (p:=⟨w.heap.size,0,none⟩) HG.out (aaa _) (.int .i64 x)) (aaa _) (.int .i64 y)⟩
theorem z06 {ns ls:List Pr} (h:zC ns ls) (k:Int):zC ns (jO ns ls k):=by
 unfold jO
 split
 ·rename_i hk
  obtain⟨_,m,rfl,hm⟩:=Jo hk;have:=z6K h hm
  simpa using this
 ·exact h
theorem Vw {ns ls:List Pr} (h:zC ns ls) (a b:Int):zC ns (addL ns ls a b):=by
 unfold addL
 split
 ·rename_i hk
  unfold addB at hk;rw[aaG] at hk;exact zq.1 hk.2
 ·exact h
theorem Zx {β:Type} {f:Nat->Option β} {x:Nat} {L:β} (hp:∀y,y<x->f y=none) (h:f x=some L):∀n,x<n->(List.range n).findSome? f=some L
 |0,hx=>absurd hx o_
 |n+1,hx=>by
  rw[abe,List.findSome?_append]
  by_cases hn:x<n
  ·rw[Zx hp h n hn];rfl
  ·have:x=n:=o_
   subst this
   have h0:(List.range x).findSome? f=none:=by
    rw[List.findSome?_eq_none_iff];intro y hy;exact hp y (List.mem_range.1 hy)
   rw[h0];simp[h]
theorem z1B {β:Type} {f:Nat->Option β} {n:Nat} (hp:∀y,y<n->f y=none):(List.range n).findSome? f=none:=by
 rw[List.findSome?_eq_none_iff];intro y hy;exact hp y (List.mem_range.1 hy)
def srF (adj:Nat->Nat->Bool) (gv:List Int) (n r:Nat) (hd:List Int) (x:Nat):Option (List Int):=if ZX gv hd.length x&&okC adj hd hd.length x then srch adj gv n r (hd++[(x:Int)]) else none
theorem z1f {adj:Nat->Nat->Bool} {gv:List Int} {n r:Nat} {hd L:List Int} {x:Nat} (hx:x<n) (hp:∀y,y<x->srF adj gv n r hd y=none) (h:srF adj gv n r hd x=some L):srch adj gv n (r+1) hd=some L:=
 Zx hp h n hx
theorem Xu {adj:Nat->Nat->Bool} {gv:List Int} {n r:Nat} {hd:List Int} (hp:∀y,y<n->srF adj gv n r hd y=none):srch adj gv n (r+1) hd=none:=
 z1B hp
theorem z5C {adj:Nat->Nat->Bool} {gv:List Int} {n r:Nat} {hd:List Int} {x:Nat} (h:okC adj hd hd.length x=false):srF adj gv n r hd x=none:=by
 unfold srF;rw[h,Bool.and_false];rfl
theorem z6L {adj:Nat->Nat->Bool} {gv:List Int} {n r:Nat} {hd:List Int} {x:Nat} (h1:ZX gv hd.length x=true) (h2:okC adj hd hd.length x=true):srF adj gv n r hd x=srch adj gv n r (hd++[(x:Int)]):=by
 unfold srF;rw[h1,h2];rfl
theorem xO {f:Nat->Option (List Int)} {x:Nat} (hp:∀y,y<x->f y=none) (h:f x=none):∀y,y<x+1->f y=none:=by
 intro y hy
 by_cases e:y=x
 ·subst e;exact h
 ·exact hp y o_
def okP (adj:Nat->Nat->Bool) (hd:List Int) (k:Nat) (x:Int) (i:Nat):Bool:=(List.range i).all (fun i=> !(adj i k&&(hd.getD i 0==x)))
theorem z2B {adj:Nat->Nat->Bool} {hd:List Int} {k:Nat} {x:Int} {i:Nat}:okP adj hd k x (i+1)=(okP adj hd k x i&& !(adj i k&&(hd.getD i 0==x))):=by
 unfold okP;rw[abe,List.all_append];simp
theorem z68 {adj:Nat->Nat->Bool} {gv:List Int} {n r:Nat} {hd L:List Int} (h:srch adj gv n r hd=some L):L.length=hd.length+r:=by
 induction r generalizing hd with
 |zero=>simp only[srch,Option.some.injEq] at h;subst h;rfl
 |succ r ih=>
  rw[srch] at h;obtain⟨x,hx,hf⟩:=List.exists_of_findSome?_eq_some h
  split at hf
  ·have:=ih hf
   rw[this];simp;omega
  ·cases hf
theorem z7p {k a b:Int} (h:actB k a b=true):(1<=k/\k<=9)/\(0<=a/\a<=40)/\0<=b/\b<=50:=by
 unfold actB at h
 split at h
 ·rename_i hk
  rw[aaH,aaN,aaN] at hk;rw[aaG,zf,zf] at h;omega
 ·split at h
  ·rename_i hk
   rw[aaN] at hk;rw[aaG,zf,zf] at h;omega
  ·split at h
   ·rename_i hk
    simp only[aaH,aaN] at hk
    rw[aaG,zf,aaN] at h;omega
   ·split at h
    ·rename_i hk
     simp only[aaH,aaN] at hk
     rw[aaG,aaN,aaN] at h;omega
    ·cases h
theorem z4P (k a b:Int) (x:Bool) (w:World) (h:actB k a b=x):
  CB_ 67 #[.agg #[.int .i64 k,.int .i64 a,.int .i64 b]] w (.bool x):=by
 subst h;exact z3b k a b w
section
variable {P:Program} {md:Region.Mode} {ops:Array Oper} {Q:Exit->Act->World->Prop} {S:World->Prop}
theorem z9k {n i j:Nat} {o1 o2:Oper} {fuel:Nat} {listed:Array Bool} {a:Act} {w:World} (Hi:(ops.toList.drop i).head? =some o1) (Hk:(ops.toList.drop j).head? =some o2) (hr:Region.ready md ops listed=[i,j])
  (h1:∀K':Act->World->Prop,(∀a w,((listed.setIfInBounds i true).getD n true=false->S w)->(((listed.setIfInBounds i true).getD n true=false->S w)->anyE P md ops Q S n fuel (listed.setIfInBounds i true) a w)->K' a w)->if Region.wanted o1 (yielded ops a.tmps)=true then Oper.wp P o1 a w K' Q else K' (a.put o1.dst undef) w)
  (h2:∀K':Act->World->Prop,(∀a w,((listed.setIfInBounds j true).getD n true=false->S w)->(((listed.setIfInBounds j true).getD n true=false->S w)->anyE P md ops Q S n fuel (listed.setIfInBounds j true) a w)->K' a w)->if Region.wanted o2 (yielded ops a.tmps)=true then Oper.wp P o2 a w K' Q else K' (a.put o2.dst undef) w):
  anyE P md ops Q S n (fuel+1) listed a w:=by
 refine⟨fun h0=>(by rw[h0] at hr;cases hr),fun k hk=>?_⟩
 rw[hr] at hk;simp only[List.mem_cons,List.mem_nil_iff,or_false] at hk
 rcases hk with rfl|rfl
 ·exact wpOp_step (ql Hi) (fun K' hK=>h1 K' (fun a w hS hW=>hK a w ⟨hS,hW hS⟩))
 ·exact wpOp_step (ql Hk) (fun K' hK=>h2 K' (fun a w hS hW=>hK a w ⟨hS,hW hS⟩))
end
theorem z6p (v:Value) (zs:List Int) (b:Bool) (w:World) (h:RB w v zs) (hb:decide ((1048576:Int)<zs.length)=b):
  Calls Tryz.prog 13 #[v] w fun e w'=>e= .returned (.bool b)/\w=w':=by
 subst hb;obtain⟨A,c,rfl,hc,hm,hcell⟩:=h.form;clear h hcell
 go_enter Tryz.func13,Tryz.ntmps13
 go_wp2;go_ret
 exact⟨rfl,rfl⟩
section
variable {H:Type} {enc:TypeId×Value->H} {P:Program} {w:World} {base:Nat} {spare:Nat->Bool} {BM:Bool}
theorem z0L {t e:TypeId} {k:IntKind} {v:Value} {d:DataW H} {p:List MemPlace} (ht:P.underlying t=some (.slice e)) (he:P.underlying e=some (.int k)) (hc:P.cellsOf e=1)
  (hval:Value.okWide P w .any base t v) (h:DataW.Trod enc P w 0 spare BM t v d p):
  ∃zs:List Int,RS w 1 v zs.length (zs.map (Value.int k))/\∀n∈zs,(Lit.int k n).wf =true:=by
 obtain⟨A,len,cap,rfl⟩:=okWide_slice ht hval;obtain⟨fuel,hf⟩:=h
 rcases open_ints ht he hc hf with ⟨fU,hx⟩|⟨a,len',cap',zs,fU,_,hl,hm,hz,hx,hcell,hwz⟩
 ·simp[Value.cells] at fU
  obtain⟨rfl,rfl,rfl⟩:=fU;exact⟨[],RS.nil _ _,by simp⟩
 ·simp[Value.cells] at fU
  obtain⟨rfl,rfl,rfl⟩:=fU;have hle:len<=zs.length:=by rw[hz];split<;>omega
  have Hj:(zs.take len).length =len:=by simp;omega
  refine⟨zs.take len,⟨by simp,some a,cap,by rw[Hj],by rw[Hj];exact hl,by rw[Hj];omega,fun hn=>?_⟩,fun n hn=>hwz n (List.mem_of_mem_take hn)⟩
  have h0:=hcell 0 o_;obtain⟨ab,ao,spot⟩:=a;have wj:spot=none:=by simpa[Addr.add] using World.cell?_spot h0
  subst wj;refine⟨ab,ao,rfl,?_,fun j u hu=>?_⟩
  ·have:=World.block_lt_of_cell? w _ h0
   simpa[Addr.add] using this
  ·have hj:j<len:=by
    have h1:=(List.getElem?_eq_some_iff.1 hu).1;simp at h1
    omega
   have hc:=hcell j o_;have e1:zs.getD j 0=zs[j]:=by simp[List.getD,aac (show j<zs.length by omega)]
   rw[e1] at hc
   have mh:u= .int k zs[j]:=by
    rw[aau,List.getElem?_take,aao hj,aac o_] at hu
    simpa using hu.symm
   rw[mh]
   by_cases h0:j=0
   ·subst h0;simpa[Addr.add] using hc
   ·simpa[Addr.add,h0] using hc
end
section
variable {H:Type} {enc:TypeId×Value->H} {w:World} {base:Nat} {spare:Nat->Bool} {BM:Bool}
theorem z9c {v:Value} {d:DataW H} {p:List MemPlace} (hval:Value.okWide Tryz.prog w .any base 22 v) (h:DataW.Trod enc Tryz.prog w 0 spare BM 22 v d p):∃zs:List Int,RB w v zs:=by
 obtain⟨zs,h1,h2⟩:=z0L Tryz.underlying22 Tryz.underlying5 k_ hval h;refine⟨zs,h1,fun z hz=>?_⟩
 have:=h2 z hz;simp[Lit.wf,IntKind.min,IntKind.max,IntKind.bits,IntKind.signed] at this
 omega
end
end Go.Proofs.YtnjcpljhmhdhkaaGreat
