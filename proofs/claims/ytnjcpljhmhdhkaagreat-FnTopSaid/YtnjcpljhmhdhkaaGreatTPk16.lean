/- part 16 -/
import Derived.Test.YtnjcpljhmhdhkaaGreatTPk12
import Derived.Test.YtnjcpljhmhdhkaaGreatTPk15
set_option linter.unusedSimpArgs false
set_option linter.unusedVariables false
set_option maxRecDepth 100000
set_option maxHeartbeats 8000000
namespace Go.Proofs.YtnjcpljhmhdhkaaGreat
open Go.RowKit
theorem OwnF.get {base:Nat} {w:World} {v:Value} {F:List (List Nat)} (h:OwnF base w v F) {k:Nat} (hk:k<F.length):∃g c u,v= .slice (some ⟨g,0,none⟩) F.length c/\F.length<=c/\base<=g/\g<w.heap.size/\w.cell? ⟨g,k,none⟩=some u/\OwnI base w u (natI (F.getD k [])):=by
 obtain⟨vs,h1,h2,h3⟩:=h
 rcases h2.2 with ⟨_,hn⟩|⟨g,cap,cur,rfl,hb,hh,hc,_⟩
 ·omega
 ·refine⟨g,cap,vs.getD k undef,rfl,hc,hb,(World.ownsRow.lt h2 g rfl).2,?_,h3 k hk⟩
  rw[h2.cellAt k o_,List.getD,aac o_];rfl
theorem OwnI.blk {base:Nat} {w:World} {u:Value} {zs:List Int} (h:OwnI base w u zs) (h0:0<zs.length):∃g c,u= .slice (some ⟨g,0,none⟩) zs.length c/\zs.length<=c/\base<=g/\g<w.heap.size/\∀q,q<zs.length->w.cell? ⟨g,q,none⟩=some (.int .i64 (zs.getD q 0)):=by
 rcases h.2 with ⟨_,hn⟩|⟨g,cap,cur,rfl,hb,hh,hc,_⟩
 ·omega
 ·exact⟨g,cap,rfl,hc,hb,(h.lt g rfl).2,fun q hq=>h.cell hq⟩
theorem qi {w:World} {ops:Array Oper} {rest:List Oper} {o:Oper} {a:Act} {Q:Exit->Act->World->Prop} (Fu:o.guard=none) (s x:Operand)
  (ho:o.op= .call { callee:= .builtin .append,args:= #[s,x],argTypes:= #[31,31] })
  (base:Nat) (v:Value) (zs:List Int) (z:Int) (hs:a.eval s=v) (g:Nat) (hx:a.eval x= .slice (some ⟨g,0,none⟩) 1 1) (hg:w.cell? ⟨g,0,none⟩=some (.int .i64 z))
  (hown:OwnI base w v zs) (Hm:zs.length<=1048576) (Hs:base<=w.heap.size)
  (h:∀v' w',OwnI base w' v' (zs++[z])->w.grownBy w' v.ownBlock->(v'.ownBlock=v.ownBlock∨v'.ownBlock=some w.heap.size)->wpList Tryz.prog ops Q rest (a.put o.dst v') w'):wpList Tryz.prog ops Q (o::rest) a w:=by
 obtain⟨i,hi,hz,Hy,gp⟩:=info_parts qq
 exact wpList_append_own_at w Fu s x 31 ho base 3 i (.int .i64 0) 1 8 Tryz.underlying31 hi hz Hy gp rfl (by decide) v zs.length _ hs hown ⟨g,0,none⟩ 1 1 [.int .i64 z] hx rfl
  (fun j y hj=>by
   match j,hj with
   |0,hj=>cases hj;exact hg
   |j+1,hj=>simp at hj)
  (by intro y hy;simp at hy;subst hy;rfl) (by unfold maxLen;omega) o_ Hs fun v' w' e1 e2 _ e3=>h v' w' (OwnI.snoc e1) e2 e3
def nodK (ls:List Pr) (f:List Nat) (k:Nat):List Int:=(f.take k).map (zd ls)
theorem XN {ls:List Pr} {f:List Nat} {k:Nat} (h:k<f.length):nodK ls f (k+1)=nodK ls f k++[zd ls (f.getD k 0)]:=by
 unfold nodK;rw[aax h,aaz,show f.getD k 0=f[k] by simp[List.getD,h]];rfl
theorem JY {ls:List Pr} {f:List Nat} {k:Nat} (h:k<=f.length):(nodK ls f k).length =k:=by simp[nodK];omega
def nodF (ls:List Pr) (f:List Nat):List Int:=nodK ls f f.length
theorem Vy (ls:List Pr) (f:List Nat):(nodF ls f).length =f.length:=JY (aaa _)
noncomputable def qY (ns ls:List Pr) (f:Int):List Int:=if inB f 0 (((z9 ns ls).length :Int) -1) then nodF ls ((z9 ns ls).getD f.toNat []) else []
noncomputable def yi (ns ls:List Pr) (f:Int):Bool:=decide (0<(qY ns ls f).length)&&(@decide ((qY ns ls f).Nodup) (Classical.propDecidable _)&& !(decide (f=j7 ns ls)))
theorem kF {ns ls:List Pr} {f:Int} (h:inB f 0 (((z9 ns ls).length :Int) -1)=false):qY ns ls f=[]:=by simp[qY,h]
theorem Qg {ns ls:List Pr} {k:Nat} (h:k<(z9 ns ls).length):qY ns ls k=nodF ls ((z9 ns ls).getD k []):=by
 unfold qY;rw[aao (zc.2 o_),aa5]
theorem Qc (ns ls:List Pr) (f:Int):(qY ns ls f).length <=40:=by
 cases h:inB f 0 (((z9 ns ls).length :Int) -1)
 ·rw[kF h];simp
 ·obtain⟨k,rfl⟩:∃k:Nat,f=k:=⟨f.toNat,by have:=zc.1 h;omega⟩
  have hk:k<(z9 ns ls).length :=by have:=zc.1 h;omega
  rw[Qg hk,Vy];exact(y7 hk).2.2.2
theorem JW (vn vl:Value) (ns ls:List Pr) (f:Int) (w:World) (hn:RP w vn ns) (hl:RP w vl ls):
  Calls Tryz.prog 114 #[.agg #[vn,vl],.int .i64 f] w (RetI (qY ns ls f) w):=by
 have fr:Below w.heap.size w ((w.alloc (.cells #[vn,vl] 27)).alloc (.cells #[] 3)):=bel_
 have BN:Blk ((w.alloc (.cells #[vn,vl] 27)).alloc (.cells #[] 3)) w.heap.size 27 #[vn,vl]:=(Blk.newAt rfl).alloc _;have Yn:OwnI (w.heap.size+1) ((w.alloc (.cells #[vn,vl] 27)).alloc (.cells #[] 3)) (.slice (some ⟨w.heap.size+1,0,none⟩) 0 0) []:=OwnI.made (by simp) (by simp);have fK:=zD ns ls;have bm:=h_ (fun (v:World) (hb:Below w.heap.size w v)=>jU vn vl ns ls v (hn.below hb) (hl.below hb));obtain⟨i0,hi,iz0,iz1,iz2⟩:=info_parts qq
 cases Gg:inB f 0 (((z9 ns ls).length :Int) -1)
 ·have HR:=h_ (kF (f:=f) Gg)
  generalize z9 ns ls=F at*;have M5:=h_ Gg
  go_enter Tryz.func114,Tryz.ntmps114
  go_wp2_with fail
  refine(bm.out _ fr).mono ?_
  rintro e w1 ⟨v1,rfl,Hj,Hb⟩;obtain⟨A1,c1,rfl⟩:=Hj.form;have Gt:=Yn.kept Hb;have Ha:=fr.trans (Hb.mono fr.size)
  go_wp2_with fail
  refine(qf _ _ _ _).mono ?_
  rintro e w' ⟨rfl,rfl⟩;rw[M5.out];go_wp2;go_ret
  exact⟨_,rfl,by rw[HR.out];exact Gt.mono o_,Ha⟩
 ·obtain⟨k,rfl⟩:∃k:Nat,f=k:=⟨f.toNat,by have:=zc.1 Gg;omega⟩
  have hk:k<(z9 ns ls).length :=by have:=zc.1 Gg;omega
  have HR:=h_ (Qg hk);obtain⟨Hk,MC,nY,BM⟩:=y7 hk;generalize z9 ns ls=F at*;generalize hff:F.getD k []=ff at*;have Hx:=h_ hff;have uV:=h_ MC;have Yo:=h_ (fun j hj=>XN (ls:=ls) (f:=ff) (k:=j) hj);have nF:=h_ (fun j hj=>JY (ls:=ls) (f:=ff) (k:=j) hj);have mS:Hid (nodK ls ff 0=[]):=h_ rfl;have HNF:Hid (nodF ls ff=nodK ls ff ff.length):=h_ rfl;have M5:=h_ Gg;have FC:(k:Int)<(F.length:Int):=o_
  have ik1:(0:Int)<=(k:Int):=o_
  go_enter Tryz.func114,Tryz.ntmps114
  go_wp2_with fail
  refine(bm.out _ fr).mono ?_
  rintro e w1 ⟨v1,rfl,Hj,Hb⟩;have Ha:=fr.trans (Hb.mono fr.size);have gc:=BN.below Hb BN.lt;have Gt:=Yn.kept Hb;obtain⟨b4,c1,rr,rfl,gl,MD,H5,Bp,M4⟩:=Hj.get hk;rw[Hx.out] at M4;have fQ:=za ff;obtain⟨b5,c2,rfl,gV,GL,gk,BO⟩:=M4.blk o_;rw[fQ] at BO Bp gV;have uW:=h_ BO;have CC:w.heap.size+1≠b4:=by simp at MD;omega
  have hap5:w.heap.size+1≠b5:=by simp at GL;omega
  go_wp2_with fail
  refine(qf _ _ _ _).mono ?_
  rintro e w' ⟨rfl,rfl⟩;rw[M5.out];go_wp2
  go_loopw [5,7] (fun v x wr=>∃j:Nat,j<=ff.length/\x= .int .i64 j/\OwnI (w.heap.size+1) wr v (nodK ls ff j)/\Blk wr w.heap.size 27 #[vn,vl]/\Below w.heap.size w wr/\wr.cell? ⟨b4,k,none⟩=some (.slice (some ⟨b5,0,none⟩) ff.length c2)/\w1.heap.size<=wr.heap.size/\(∀q,v.ownBlock=some q->q≠b4/\q≠b5)/\Hid (∀q,q<ff.length->wr.cell? ⟨b5,q,none⟩=some (.int .i64 ((natI ff).getD q 0)))) (fun _ x _=>ff.length -(intOf x).toNat)
  case atStart=>exact⟨0,aab _,rfl,by rw[mS.out];exact Gt,gc,Ha,Bp,aaa _,fun q hq=>(by cases hq;exact⟨CC,hap5⟩),uW⟩
  case round=>
   obtain⟨j,hj,rfl,ho,hW,Hd,Bp,ux,mF,cZ⟩:=hrel;have gI:=hW.lt;have uS:b4<wr.heap.size:=o_
   have hb52:b5<wr.heap.size:=o_
   obtain⟨a_0,a_1⟩:=hW.c2
   by_cases Hf:j<ff.length
   ·have Hu:(j:Int)<(ff.length:Int):=o_
    have ij1:(0:Int)<=(j:Int):=o_
    have hx:=cZ.out j Hf;rw[qg] at hx;have Ck:ff.getD j 0<2*ls.length:=uV.out _ (by rw[List.getD,aac Hf];exact abg Hf);have HS:=h_ (Yo.out j Hf);have hgl:=nF.out j hj;generalize ff.getD j 0=d at*;have nv:RP wr vl ls:=hl.below Hd
    go_wp2_with fail
    (refine z7 k_ k_ (fun hG=>?_))
    repeat (go_big_quiet_step ((go_at_call 192;exact zE (kA _ _ ls d _ (RS.grw _ nv) Ck))))
    refine wpQuiet_nil ?_
    rintro w3 ⟨⟨_,Hg⟩,rfl⟩;have Hq:=ho.kept Hg;have Gz:=hW.below Hg gI;have gy:=Hd.trans (Hg.mono Hd.size);have hcr3:=(Hg.cell (p:=⟨b4,k,none⟩) uS).trans Bp;have HCL3:Hid (∀q,q<ff.length->w3.cell? ⟨b5,q,none⟩=some (.int .i64 ((natI ff).getD q 0))):=h_ (fun q hq=>(Hg.cell (p:=⟨b5,q,none⟩) hb52).trans (cZ.out q hq));have fC:=Hg.size;generalize zd ls d=z at*;generalize nodK ls ff j=G at*
    go_wp2_with (at_builtin;refine qi rfl _ _ rfl (w.heap.size+1) _ G z rfl w3.heap.size rfl (j9 rfl) (Hq.alloc _) o_ (by simp;omega) ?_)
    intro v2 w2 Hn gu gw;have Ge:Below w.heap.size w w2:=(gy.alloc gy.size (.cells #[.int .i64 z] 3)).grown gu (by simp;omega) (fun q hq=>by have:=(Hq.lt q hq).1;omega);have gX:Blk w2 w.heap.size 27 #[vn,vl]:=(gu.block _ (by simp;omega) (fun e=>by have:=(Hq.lt _ e.symm).1;omega)).trans (Gz.alloc _)
    have cf:w2.cell? ⟨b4,k,none⟩=some (.slice (some ⟨b5,0,none⟩) ff.length c2):=by
     rw[World.cell?_of_block (gu.block b4 (by simp;omega) (fun e=>(mF b4 e.symm).1 rfl))];exact(((aaj w3.heap.size w3).alloc (aaa _) _).cell (p:=⟨b4,k,none⟩) (show b4<w3.heap.size by omega)).trans hcr3
    have rP:Hid (∀q,q<ff.length->w2.cell? ⟨b5,q,none⟩=some (.int .i64 ((natI ff).getD q 0))):=h_ (fun q hq=>by
     rw[World.cell?_of_block (gu.block b5 (by simp;omega) (fun e=>(mF b5 e.symm).2 rfl))];exact(((aaj w3.heap.size w3).alloc (aaa _) _).cell (p:=⟨b5,q,none⟩) (show b5<w3.heap.size by omega)).trans (HCL3.out q hq))
    have Gp:=gu.size;simp at Gp
    have hap2:∀q,v2.ownBlock=some q->q≠b4/\q≠b5:=by
     intro q hq
     rcases gw with h|h
     ·rw[h] at hq;exact mF q hq
     ·rw[h] at hq
      simp at hq
      omega
    go_wp2;go_roundw
    case rel=>exact⟨j+1,by omega,by go_num,by rw[HS.out];exact Hn,gX,Ge,cf,by omega,hap2,rP⟩
    case measure=>simp[intOf];omega
   ·have GS:j=ff.length:=o_
    subst GS;go_wp2;go_ret
    exact⟨_,rfl,by rw[HR.out,HNF.out];exact ho.mono o_,Hd⟩
def disK (G:List Int) (k:Nat):Prop:=∀i j,i<j->j<k->G.getD i 0≠G.getD j 0
theorem XR (G:List Int):disK G 0:=fun i j _ h=>absurd h o_
theorem z0K {G:List Int} {k:Nat} (h:disK G k) (h2:∀i,i<k->G.getD i 0≠G.getD k 0):disK G (k+1):=by
 intro i j h3 h4
 rcases Nat.lt_succ_iff_lt_or_eq.1 h4 with h5|h5
 ·exact h i j h3 h5
 ·subst h5;exact h2 i h3
theorem VV {G:List Int}:disK G G.length↔G.Nodup:=by
 rw[List.nodup_iff_pairwise_ne,aa7]
 constructor
 ·intro h i j hi hj MV
  have:=h i j MV hj
  simpa[List.getD,hi,hj] using this
 ·intro h i j MV hj
  have:=h i j o_ hj MV
  simpa[List.getD,hj,show i<G.length by omega] using this
theorem z2H {ns ls:List Pr} {f:Int} (h:(qY ns ls f).length =0):yi ns ls f=false:=by simp[yi,h]
theorem z3e {ns ls:List Pr} {f:Int} {i j:Nat} (MV:i<j) (hj:j<(qY ns ls f).length) (h:(qY ns ls f).getD i 0=(qY ns ls f).getD j 0):yi ns ls f=false:=by
 have:¬(qY ns ls f).Nodup :=fun hn=>VV.2 hn i j MV hj h
 unfold yi;simp[this]
theorem z34 {ns ls:List Pr} {f:Int} (h0:0<(qY ns ls f).length) (h:disK (qY ns ls f) (qY ns ls f).length):yi ns ls f= !(decide (f=j7 ns ls)):=by
 have h1:=VV.1 h;have h2:decide (0<(qY ns ls f).length)=true:=by simp;omega
 have h3: @decide ((qY ns ls f).Nodup) (Classical.propDecidable _)=true:=by simp[h1]
 unfold yi;rw[h2,h3,aaR,aaR]
theorem z2I (vn vl:Value) (ns ls:List Pr) (f:Int) (w:World) (hn:RP w vn ns) (hl:RP w vl ls):
  CB_ 41 #[.agg #[vn,vl],.int .i64 f] w (.bool (yi ns ls f)):=by
 have fr:Below w.heap.size w (w.alloc (.cells #[vn,vl] 27)):=bel_
 have BN:Blk (w.alloc (.cells #[vn,vl] 27)) w.heap.size 27 #[vn,vl]:=Blk.newAt rfl;have hle:=Qc ns ls f;have mS:=h_ (fun h=>z2H (ns:=ns) (ls:=ls) (f:=f) h);have cB:=h_ (fun i j h1 h2 h3=>z3e (ns:=ns) (ls:=ls) (f:=f) (i:=i) (j:=j) h1 h2 h3);have HY:=h_ (fun h0 h=>z34 (ns:=ns) (ls:=ls) (f:=f) h0 h);have NZ:=h_ (fun (v:World) (hb:Below w.heap.size w v)=>JW vn vl ns ls f v (hn.below hb) (hl.below hb));have ME:=h_ (fun (v:World) (hb:Below w.heap.size w v)=>X7 vn vl ns ls v (hn.below hb) (hl.below hb));generalize qY ns ls f=G at*;generalize j7 ns ls=o at*
 go_enter Tryz.func41,Tryz.ntmps41
 go_wp2_with fail
 refine(NZ.out _ fr).mono ?_
 rintro e w1 ⟨v1,rfl,Hj,Hb⟩;have Ha:=fr.trans (Hb.mono fr.size);have gc:=BN.below Hb BN.lt;obtain⟨A1,c1,rfl,gl,bH,hcell⟩:=Hj.reads.form;have N5:=h_ hcell;unfold maxLen at bH;obtain⟨a_0,a_1⟩:=gc.c2;go_wp2
 go_loopw [6] (fun x wr=>∃k:Nat,k<=G.length/\x= .int .i64 k/\Hid (disK G k)/\Blk wr w.heap.size 27 #[vn,vl]/\Below w.heap.size w wr/\Below w1.heap.size w1 wr) (fun x _=>G.length -(intOf x).toNat)
 case atStart=>exact⟨0,aab _,rfl,h_ (XR G),gc,Ha,aaj _ _⟩
 case round=>
  obtain⟨k,hk,rfl,HK,hW,Hd,Hb⟩:=hrel
  by_cases Hf:k<G.length
  ·have Hu:(k:Int)<(G.length:Int):=o_
   have ik1:(0:Int)<=(k:Int):=o_
   go_wp2
   go_loopw [7] (fun x wr=>∃i:Nat,i<=k/\x= .int .i64 i/\Hid (∀q,q<i->G.getD q 0≠G.getD k 0)/\Blk wr w.heap.size 27 #[vn,vl]/\Below w.heap.size w wr/\Below w1.heap.size w1 wr) (fun x _=>k -(intOf x).toNat)
   case atStart=>exact⟨0,aab _,rfl,h_ (fun q hq=>absurd hq o_),hW,Hd,Hb⟩
   case round=>
    obtain⟨i,hi,rfl,HI,hW,Hd,Hb⟩:=hrel;have gI:=hW.lt
    by_cases Rx:i<k
    ·have hik1:(i:Int)<(k:Int):=o_
     have ii1:(0:Int)<=(i:Int):=o_
     have ii2:(i:Int)<(G.length:Int):=o_
     obtain⟨b4,off4,rfl,H5,fU⟩:=N5.out o_;have q0:=(Hb.cell (p:=⟨b4,off4+i,none⟩) H5).trans (fU i o_);have q1:=(Hb.cell (p:=⟨b4,off4+k,none⟩) H5).trans (fU k Hf);have uS:b4<wr.heap.size:=aaD H5 Hb.size;have HX:=h_ (fun h=>cB.out i k Rx Hf h)
     have Ry:Hid (G.getD i 0≠G.getD k 0->∀q,q<i+1->G.getD q 0≠G.getD k 0):=h_ (fun h q hq=>by
      rcases Nat.lt_succ_iff_lt_or_eq.1 hq with h1|h1
      ·exact HI.out q h1
      ·subst h1;exact h)
     generalize hy:G.getD i 0=y at*;generalize hz:G.getD k 0=z at*
     by_cases he:y=z
     ·have e1:(y==z)=true:=by simp[he]
      have HR:=h_ (HX.out he)
      go_wp2_with fail
      (refine z7 k_ k_ (fun hG=>?_))
      repeat (go_big_quiet_step (fail))
      refine wpQuiet_nil ?_
      rintro w3 ⟨⟨_,Hg⟩,rfl⟩;go_wp2;go_ret
      exact⟨z8 HR.out.symm,Hd.trans (Hg.mono Hd.size)⟩
     ·have e1:(y==z)=false:=by simp[he]
      have HNE2:=h_ (Ry.out he)
      go_wp2_with fail
      (refine z7 k_ k_ (fun hG=>?_))
      repeat (go_big_quiet_step (fail))
      refine wpQuiet_nil ?_
      rintro w3 ⟨⟨_,Hg⟩,rfl⟩;have Gz:=hW.below Hg gI;have gy:=Hd.trans (Hg.mono Hd.size);have MF:=Hb.trans (Hg.mono Hb.size);go_wp2;go_roundw
      case rel=>exact⟨i+1,by omega,by go_num,HNE2,Gz,gy,MF⟩
      case measure=>simp[intOf];omega
    ·have nQ:i=k:=o_
     subst nQ;have HD:=h_ (z0K HK.out HI.out);go_wp2;go_roundw
     case rel=>exact⟨i+1,by omega,by go_num,HD,hW,Hd,Hb⟩
     case measure=>simp[intOf];omega
  ·have gn:k=G.length:=o_
   subst gn
   by_cases h0:G.length=0
   ·have HR:=h_ (mS.out h0)
    go_wp2;go_ret
    exact⟨z8 HR.out.symm,Hd⟩
   ·have HR:=h_ (HY.out o_ HK.out)
    have e1:(0:Int)<(G.length:Int):=o_
    have e2:0<G.length:=o_
    obtain⟨a_0,a_1⟩:=hW.c2
    go_wp2_with fail
    refine(ME.out _ Hd).mono ?_
    rintro e w5 ⟨rfl,gk⟩;go_wp2;go_ret
    refine⟨z8 ?_,Hd.trans (gk.mono Hd.size)⟩
    rw[HR.out]
    by_cases uX:f=o
    ·simp[uX]
    ·simp[uX]
def boxK (ns:List Pr) (G:List Int):Nat->Pr×Pr
 |0=>(ndI ns (G.getD 0 0),ndI ns (G.getD 0 0))
 |k+1=>((mn2 (boxK ns G k).1.1 (ndI ns (G.getD k 0)).1,mn2 (boxK ns G k).1.2 (ndI ns (G.getD k 0)).2),(mx2 (boxK ns G k).2.1 (ndI ns (G.getD k 0)).1,mx2 (boxK ns G k).2.2 (ndI ns (G.getD k 0)).2))
noncomputable def boxF (ns ls:List Pr) (f:Int):Pr×Pr:=if (qY ns ls f).length =0 then((0,0),(0,0)) else boxK ns (qY ns ls f) (qY ns ls f).length
noncomputable def cmpR (ns ls:List Pr) (f g:Nat):Int:=if (boxF ns ls f).2.2=(boxF ns ls g).2.2 then(boxF ns ls f).1.1 -(boxF ns ls g).1.1 else(boxF ns ls g).2.2 -(boxF ns ls f).2.2
noncomputable def ltR (ns ls:List Pr) (f g:Nat):Bool:=decide (cmpR ns ls f g<0)
noncomputable def facL (ns ls:List Pr) (k:Nat):List Nat:=(List.range k).filter (fun f:Nat=> !decide ((f:Int)=j7 ns ls))
noncomputable def ordL (ns ls:List Pr) (k:Nat):List Nat:=isoK (ltR ns ls) (facL ns ls k) (facL ns ls k).length
noncomputable def ordW (ns ls:List Pr):List Nat:=ordL ns ls (z9 ns ls).length
noncomputable def numN (ns ls:List Pr) (f:Nat):Int:=idxN (ordW ns ls) f+1
theorem Z1 {ns ls:List Pr} {k:Nat} (h:(k:Int)=j7 ns ls):facL ns ls (k+1)=facL ns ls k:=by
 unfold facL;rw[abe,abf];simp[h]
theorem Jy {ns ls:List Pr} {k:Nat} (h:¬(k:Int)=j7 ns ls):facL ns ls (k+1)=facL ns ls k++[k]:=by
 unfold facL;rw[abe,abf];simp[h]
theorem xN (ns ls:List Pr) (k:Nat):(facL ns ls k).length <=k:=by
 have:=List.length_filter_le (fun f:Nat=> !decide ((f:Int)=j7 ns ls)) (List.range k)
 simpa[facL] using this
theorem z8g {ns ls:List Pr} {k f:Nat} (h:f∈facL ns ls k):f<k:=by
 unfold facL at h;rw[List.mem_filter,aaM] at h;exact h.1
theorem z2P (lt:Nat->Nat->Bool) (G:List Nat):isoK lt G G.length=G.foldl (fun S d=>insN (lt d) d S) []:=by unfold isoK;rw[aaA]
theorem JK {ns ls:List Pr} {k:Nat} (h:(k:Int)=j7 ns ls):ordL ns ls (k+1)=ordL ns ls k:=by unfold ordL;rw[Z1 h]
theorem z1K {ns ls:List Pr} {k:Nat} (h:¬(k:Int)=j7 ns ls):ordL ns ls (k+1)=insN (ltR ns ls k) k (ordL ns ls k):=by
 unfold ordL;rw[Jy h,z2P,z2P,List.foldl_append];rfl
theorem kK (ns ls:List Pr) (k:Nat):(ordL ns ls k).length =(facL ns ls k).length :=jE _ _ _ (aaa _)
theorem QY {ns ls:List Pr} {f:Nat}:∀k,f∈ordL ns ls k↔f∈facL ns ls k
 |0=>by simp[ordL,facL,isoK]
 |k+1=>by
  by_cases h:(k:Int)=j7 ns ls
  ·rw[JK h,Z1 h];exact QY k
  ·rw[z1K h,Jy h,z2F,QY k,aaI,aa9]
   exact⟨fun h=>h.symm,fun h=>h.symm⟩
theorem z15 (ns ls:List Pr):∀k,(ordL ns ls k).Nodup
 |0=>by simp[ordL,facL,isoK]
 |k+1=>by
  by_cases h:(k:Int)=j7 ns ls
  ·rw[JK h];exact z15 ns ls k
  ·rw[z1K h]
   refine Xf (z15 ns ls k) (fun hm=>?_)
   have:=z8g ((QY k).1 hm);omega
def z9l (ns:List Pr) (G:List Int):Prop:=∀k,k<G.length->∃q:Nat,G.getD k 0=(q:Int)/\q<ns.length
theorem QH {ns ls:List Pr} {f:Int}:z9l ns (qY ns ls f):=by
 intro k hk
 cases h:inB f 0 (((z9 ns ls).length :Int) -1)
 ·rw[kF h] at hk;simp at hk
 ·obtain⟨j,rfl⟩:∃j:Nat,f=j:=⟨f.toNat,by have:=zc.1 h;omega⟩
  have hj:j<(z9 ns ls).length :=by have:=zc.1 h;omega
  obtain⟨Hk,MC,nY,BM⟩:=y7 hj;have Hr:∀j:Nat,j<ls.length->zt ns (ndI ls j)=true:=fun j hj=>(Hk.2.2.2.2.2 j hj).1
  rw[Qg hj,Vy] at*;have hd:=MC _ (abg hk)
  have hg:(nodF ls ((z9 ns ls).getD j [])).getD k 0=zd ls (((z9 ns ls).getD j [])[k]):=by
   unfold nodF nodK;rw[aaA,aa6,aau,aac hk];rfl
  rw[hg];exact qL Hr hd
def bd20 (p:Pr):Prop:=0<=p.1/\p.1<=20/\0<=p.2/\p.2<=20
theorem z97 {ns:List Pr} {G:List Int} (hns:q9 ns=true) (hG:z9l ns G) (h0:0<G.length):∀k,k<=G.length->bd20 (boxK ns G k).1/\bd20 (boxK ns G k).2:=by
 have hb:∀j,j<G.length->bd20 (ndI ns (G.getD j 0)):=by
  intro j hj;obtain⟨q,e,hq⟩:=hG j hj;rw[e];exact zF (jY hns q hq)
 intro k
 induction k with
 |zero=>intro _;exact⟨hb 0 h0,hb 0 h0⟩
 |succ k ih=>
  intro hk;have a:=hb k o_;obtain⟨⟨b1,b2,b3,b4⟩,c1,c2,c3,c4⟩:=ih o_;obtain⟨a1,a2,a3,a4⟩:=a;simp only[boxK,bd20,mn2,mx2]
  refine⟨⟨?_,?_,?_,?_⟩,?_,?_,?_,?_⟩<;>split<;>omega
theorem z4M {ns ls:List Pr} {f:Int}:bd20 (boxF ns ls f).1/\bd20 (boxF ns ls f).2:=by
 unfold boxF
 split
 ·exact⟨⟨by decide,by decide,by decide,by decide⟩,by decide,by decide,by decide,by decide⟩
 ·rename_i h
  have hw:q9 ns=true:=by
   cases Gg:inB f 0 (((z9 ns ls).length :Int) -1)
   ·rw[kF Gg] at h;simp at h
   ·obtain⟨j,rfl⟩:∃j:Nat,f=j:=⟨f.toNat,by have:=zc.1 Gg;omega⟩
    have hj:j<(z9 ns ls).length :=by have:=zc.1 Gg;omega
    exact(y7 hj).1.2.2.2.1
  exact z97 hw QH o_ _ (aaa _)
structure OutSt (w:World) (v0 v1 v2 v3 v4:Value) (Z:Nat) (a b c d e:Value) (D:Dr) (fs:List SF) (wr:World):Prop where
 own:OwnD (w.heap.size+1+1) wr a b c d e D fs
 X:Blk wr w.heap.size 30 #[v0,v1,v2,v3,v4]
 R:Blk wr (w.heap.size+1) 30 z5_
 Z_:Blk wr Z 30 #[a,b,c,d,e]
 lt:w.heap.size+1<Z
 far:¬qE a b c d e fs Z
 blw:Below w.heap.size w wr
section
variable {w wr wr':World} {v0 v1 v2 v3 v4 a b c d e:Value} {Z:Nat} {D:Dr} {fs:List SF}
theorem OutSt.below (h:OutSt w v0 v1 v2 v3 v4 Z a b c d e D fs wr) (hb:Below wr.heap.size wr wr'):OutSt w v0 v1 v2 v3 v4 Z a b c d e D fs wr':=
 ⟨h.own.kept hb,h.X.below hb h.X.lt,h.R.below hb h.R.lt,h.Z_.below hb h.Z_.lt,h.lt,h.far,h.blw.trans (hb.mono h.blw.size)⟩
theorem OutSt.start {base:Nat} (ho:OwnD base wr a b c d e D fs) (Hs:w.heap.size+1+1<=base) (hX:Blk wr w.heap.size 30 #[v0,v1,v2,v3,v4]) (hR:Blk wr (w.heap.size+1) 30 z5_) (hb:Below w.heap.size w wr):
  OutSt w v0 v1 v2 v3 v4 wr.heap.size a b c d e D fs (wr.alloc (.cells #[a,b,c,d,e] 30)):=
 ⟨(ho.mono Hs).alloc _,hX.alloc _,hR.alloc _,Blk.newAt rfl,hR.lt,fun hk=>by have:=(ho.lt _ hk).2;omega,hb.alloc hb.size _⟩
theorem OutSt.fin (h:OutSt w v0 v1 v2 v3 v4 Z a b c d e D fs wr) (u0 u1 u2 u3 u4:Value):
  OwnD w.heap.size (((((wr.setCell ⟨w.heap.size+1,0,none⟩ u0).setCell ⟨w.heap.size+1,1,none⟩ u1).setCell ⟨w.heap.size+1,2,none⟩ u2).setCell ⟨w.heap.size+1,3,none⟩ u3).setCell ⟨w.heap.size+1,4,none⟩ u4) a b c d e D fs/\
  Below w.heap.size w (((((wr.setCell ⟨w.heap.size+1,0,none⟩ u0).setCell ⟨w.heap.size+1,1,none⟩ u1).setCell ⟨w.heap.size+1,2,none⟩ u2).setCell ⟨w.heap.size+1,3,none⟩ u3).setCell ⟨w.heap.size+1,4,none⟩ u4):=by
 have hR:¬qE a b c d e fs (w.heap.size+1):=fun hk=>by have:=(h.own.lt _ hk).1;omega
 have step:∀(W:World) (j:Nat) (u:Value),OwnD w.heap.size W a b c d e D fs->OwnD w.heap.size (W.setCell ⟨w.heap.size+1,j,none⟩ u) a b c d e D fs:=fun W j u hW=>hW.setFar (p:=⟨w.heap.size+1,j,none⟩) hR u
 have hs:w.heap.size<=w.heap.size+1:=Nat.le_succ _
 exact⟨step _ _ _ (step _ _ _ (step _ _ _ (step _ _ _ (step _ _ _ (h.own.mono o_))))),
  ((((h.blw.setCell (p:=⟨w.heap.size+1,0,none⟩) hs u0).setCell (p:=⟨w.heap.size+1,1,none⟩) hs u1).setCell (p:=⟨w.heap.size+1,2,none⟩) hs u2).setCell (p:=⟨w.heap.size+1,3,none⟩) hs u3).setCell (p:=⟨w.heap.size+1,4,none⟩) hs u4⟩
theorem OwnD.newNow {base base':Nat} {c' d':Value} {N L:List Pr} (h:OwnD base w a b c d e D fs) (hw:OwnW base' w c' d' N L) (hb:base<=base') (hf:∀k,zp c' d' k->¬qE a b c d e fs k):OwnD base w a b c' d' e ⟨D.fn,D.fl,N,L,D.ss⟩ fs:=
 ⟨h.first,hw.mono hb,h.ss,h.map,fun k hk FD=>hf k FD (.inl hk),h.f_s,fun k hk FD=>hf k hk (.inr (.inr FD))⟩
theorem OwnD.noSteps {base:Nat} (h:OwnD base w a b c d e D fs):OwnD base w a b c d (.slice none 0 0) ⟨D.fn,D.fl,D.nn,D.nl,[]⟩ []:=by
 have hn:∀k,¬kH (.slice none 0 0) [] k:=by
  rintro k (h|⟨i,hi,_⟩)
  ·simp[Value.ownBlock] at h
  ·simp at hi
 exact⟨h.first,h.now,OwnT.nil _ _,rfl,h.f_n,fun k _ hk=>hn k hk,fun k _ hk=>hn k hk⟩
theorem vR {A:Option Addr} {n c k b:Nat} (h:kH (.slice A k c) (fs.take k) b):kH (.slice A n c) fs b:=by
 rcases h with h|⟨i,hi,h⟩
 ·exact .inl (by cases A with|none=>cases h|some a=>exact h)
 ·have fP:i<fs.length:=by simp at hi;omega
  refine .inr ⟨i,fP,?_⟩
  rw[abp] at h;exact h
theorem OwnT.takeN {base:Nat} {g n c k:Nat} (h:OwnT base w (.slice (some ⟨g,0,none⟩) n c) fs) (hk:k<=fs.length):OwnT base w (.slice (some ⟨g,0,none⟩) k c) (fs.take k):=by
 have hl:(fs.take k).length =k:=by simp;omega
 refine⟨?_,fun i hi=>?_,fun i hi b hb=>?_,fun i j hi hj Hv b=>?_⟩
 ·rw[hl]
  obtain⟨h1,h2⟩:=h.row;refine⟨by rw[qo sfc 5 (fun _=>rfl),hl],?_⟩
  rcases h2 with ⟨e,_⟩|⟨g',cap,cur,e,e1,e2,e3,e4,e5,e6⟩
  ·cases e
  ·injection e with e7 e8 e9
   injection e7 with e7
   injection e7 with e7
   subst e7 e9;refine .inr ⟨g,c,cur,rfl,e1,e2,by omega,e4,e5,?_⟩
   have hx:fs.flatMap sfc=(fs.take k).flatMap sfc++(fs.drop k).flatMap sfc:=by rw[<-aaX,abo]
   have hm:min (k*5) (fs.length*5)=k*5:=o_
   rw[<-hm,<-List.take_take,e6,hx,List.take_left' (by rw[qo sfc 5 (fun _=>rfl),hl])]
 ·rw[abp];exact h.win i o_
 ·rw[abp];exact h.rw_ i o_ b hb
 ·rw[abp,abp];exact h.ww i j o_ o_ Hv b
theorem OwnD.takeN {base:Nat} {g n cap k:Nat} (h:OwnD base w a b c d (.slice (some ⟨g,0,none⟩) n cap) D fs) (hk:k<=fs.length):OwnD base w a b c d (.slice (some ⟨g,0,none⟩) k cap) ⟨D.fn,D.fl,D.nn,D.nl,D.ss.take k⟩ (fs.take k):=
 ⟨h.first,h.now,h.ss.takeN hk,by rw[List.map_take,h.map],h.f_n,fun x hx CJ=>h.f_s x hx (vR CJ),fun x hx CJ=>h.n_s x hx (vR CJ)⟩
theorem OwnD.popNow {base:Nat} {g n cap k:Nat} (h:OwnD base w a b c d (.slice (some ⟨g,0,none⟩) n cap) D fs) (hk:k<fs.length):OwnD base w a b fs[k].2.1 fs[k].2.2 (.slice (some ⟨g,0,none⟩) k cap) ⟨D.fn,D.fl,fs[k].1.ns,fs[k].1.ls,D.ss.take k⟩ (fs.take k):=by
 refine⟨h.first,h.ss.win k hk,h.ss.takeN o_,by rw[List.map_take,h.map],fun x hx CJ=>h.f_s x hx (.inr ⟨k,hk,CJ⟩),fun x hx CJ=>h.f_s x hx (vR CJ),fun x hx CJ=>?_⟩
 rcases CJ with CJ|⟨i,hi,CJ⟩
 ·exact h.ss.rw_ k hk x CJ hx
 ·rw[abp] at CJ
  have fP:i<k:=by simp at hi;omega
  exact h.ss.ww i k o_ hk o_ x CJ hx
end
theorem OwnT.addr {base:Nat} {w:World} {A:Option Addr} {n c:Nat} {fs:List SF} (h:OwnT base w (.slice A n c) fs) (hn:0<fs.length):∃g,A=some ⟨g,0,none⟩/\n=fs.length/\n<=c:=by
 rcases h.row.2 with ⟨_,h0⟩|⟨g,cap,cur,e,_,_,h3,_⟩
 ·omega
 ·injection e with e1 e2 e3
  exact⟨g,e1,e2,by omega⟩
def z5b (D:Dr) (b:Bool) (w:World) (e:Ending) (w':World):Prop:=∃A0 c0 A1 c1 A2 c2 A3 c3 A4 c4 fs,
 e= .returned (.tuple #[.agg #[.slice A0 D.fn.length c0,.slice A1 D.fl.length c1,.slice A2 D.nn.length c2,.slice A3 D.nl.length c3,.slice A4 D.ss.length c4],.bool b])/\
 OwnD w.heap.size w' (.slice A0 D.fn.length c0) (.slice A1 D.fl.length c1) (.slice A2 D.nn.length c2) (.slice A3 D.nl.length c3) (.slice A4 D.ss.length c4) D fs/\Below w.heap.size w w'
noncomputable def k5 (D:Dr):Dr:=if okD D=true then⟨D.fn,D.fl,D.fn,D.fl,[]⟩ else D
def z1x (b:Bool) (D:Dr):Bool:=b&&decide (0<D.ss.length)
def z07 (b:Bool) (D:Dr):Dr:=if h:b=true/\0<D.ss.length then⟨D.fn,D.fl,(D.ss[D.ss.length -1]'o_).ns,(D.ss[D.ss.length -1]'o_).ls,D.ss.take (D.ss.length -1)⟩ else D
theorem z7L {b:Bool} {D:Dr} (h:¬(b=true/\0<D.ss.length)):z07 b D=D:=by unfold z07;rw[dif_neg h]
theorem z5f {D:Dr} (h:0<D.ss.length):z07 true D=⟨D.fn,D.fl,(D.ss[D.ss.length -1]'o_).ns,(D.ss[D.ss.length -1]'o_).ls,D.ss.take (D.ss.length -1)⟩:=by unfold z07;rw[dif_pos ⟨rfl,h⟩]
theorem z2S (v0 v1 v2 v3 v4:Value) (D:Dr) (w:World) (h:RD w v0 v1 v2 v3 v4 D) (hle:DrLe D):
  Calls Tryz.prog 20 #[.agg #[v0,v1,v2,v3,v4]] w (RetD (k5 D) w):=by
 obtain⟨r,hr⟩:∃r,okD D=r:=⟨_,rfl⟩;have HR:=h_ hr;have gf:=h_ hle;obtain⟨B4,d4,ev4,_⟩:=h.ss;subst ev4;obtain⟨E,hE⟩:∃E,k5 D=E:=⟨_,rfl⟩;rw[hE];have HE:=h_ hE;clear hle hE
 go_enter Tryz.func20,Tryz.ntmps20
 go_wp2_with fail
 refine(kY _ _ _ _ _ D _ (h.below bel_) gf.out).mono ?_
 rintro e w1 ⟨A0,c0,A1,c1,A2,c2,A3,c3,A4,c4,fs,rfl,Hj,Hb⟩;have gB:Blk w1 w.heap.size 30 #[v0,v1,v2,v3,(.slice B4 D.ss.length d4)]:=Blk.below ((Blk.newAt rfl).alloc _) Hb sz_;have H6:Blk w1 (w.heap.size+1) 30 z5_:=Blk.below (Blk.newAt (by simp)) Hb sz_;have Ha:Below w.heap.size w w1:=bel_
 have Gt:OwnD (w.heap.size+1+1) w1 (.slice A0 D.fn.length c0) (.slice A1 D.fl.length c1) (.slice A2 D.nn.length c2) (.slice A3 D.nl.length c3) (.slice A4 D.ss.length c4) D fs:=by simpa using Hj
 have gD:=h_ (OutSt.start Gt (aaa _) gB H6 Ha);obtain⟨x_0,x_1,x_2,x_3,x_4⟩:=gB.c5;have GR:=gB.lt;clear Hj Hb Gt
 go_wp2_with fail
 obtain⟨w2,gw⟩:∃w2,w2=w1.alloc (.cells #[.slice A0 D.fn.length c0,.slice A1 D.fl.length c1,.slice A2 D.nn.length c2,.slice A3 D.nl.length c3,.slice A4 D.ss.length c4] 30):=⟨_,rfl⟩;rw[<-gw] at gD⊢;generalize w1.heap.size=Z at*;clear gw gB H6 Ha x_0 x_1 x_2 x_3 x_4 GR;refine(Z0 _ _ _ _ _ D r _ (h.below gD.out.blw) HR).mono ?_
 rintro e w3 ⟨rfl,Hg⟩;have Ht:=h_ (gD.out.below Hg);clear Hg gD;have gS:=Ht.out.X;have Fh:=Ht.out.Z_;have Ga:=Ht.out.R;obtain⟨x_0,x_1,x_2,x_3,x_4⟩:=gS.c5
 cases r
 ·have hu:D=E:=by rw[<-HE.out];unfold k5;rw[hr];rfl
  subst hu;have HF:=Ht;clear Ht HE hr;obtain⟨_,_,hR,hZ,Gb,_,_⟩:=HF.out;obtain⟨z_0,z_1,z_2,z_3,z_4⟩:=hZ.c5;obtain⟨r_0,r_1,r_2,r_3,r_4,r_f0,r_f1,r_f2,r_f3,r_f4⟩:=hR.b5;have Hl:=hR.lt;have Hx:=h_ (fun u0 u1 u2 u3 u4=>HF.out.fin u0 u1 u2 u3 u4);clear hR hZ HF;go_wp2;exact bodyPost_ret (v:= .agg #[.slice A0 D.fn.length c0,.slice A1 D.fl.length c1,.slice A2 D.nn.length c2,.slice A3 D.nl.length c3,.slice A4 D.ss.length c4]) (by simp[results,Tryz.results20,go_sem,r_0,r_1,r_2,r_3,r_4,Hl]) rfl ⟨_,_,_,_,_,_,_,_,_,_,_,rfl,(Hx.out _ _ _ _ _).1,(Hx.out _ _ _ _ _).2⟩
 ·have hu:E=⟨D.fn,D.fl,D.fn,D.fl,[]⟩:=by rw[<-HE.out];unfold k5;rw[hr];rfl
  subst hu;clear HE;have Ut:=Fh.lt;have Mz:=(h.below Ht.out.blw).fn;have hf4:=(h.below Ht.out.blw).fl
  go_wp2_with fail
  refine(qt _ _ D.fn D.fl _ Mz hf4 gf.out.fn gf.out.fl).mono ?_
  rintro e w4 ⟨An,cn,Al,cl,rfl,gz,H5⟩;have gj:=Ht.out.own.lt;have gx:=Ht.out.below H5;have CL:=gx.Z_;have FJ:=gz.lt;have Hs:w.heap.size+1+1<=w3.heap.size:=by have:=Ga.lt;omega
  have BS:=gx.own.newNow gz Hs (fun k hk FD=>by have:=(FJ k hk).1;have:=(gj k FD).2;omega);have hN:=(BS).noSteps
  have gM:¬qE (.slice A0 D.fn.length c0) (.slice A1 D.fl.length c1) (.slice An D.fn.length cn) (.slice Al D.fl.length cl) (.slice none 0 0) [] Z:=by
   rintro(hk|hk|hk)
   ·exact gx.far (.inl hk)
   ·have:=(FJ _ hk).1;omega
   ·rcases hk with hk|⟨i,hi,_⟩
    ·simp[Value.ownBlock] at hk
    ·simp at hi
  obtain⟨w5,GE⟩:∃w5,w5=((w4.setCell ⟨Z,2,none⟩ (.slice An D.fn.length cn)).setCell ⟨Z,3,none⟩ (.slice Al D.fl.length cl)).setCell ⟨Z,4,none⟩ (.slice none 0 0):=⟨_,rfl⟩;have rX:=gx.lt;have nX:w.heap.size≠Z:=o_
  have nR:w.heap.size+1≠Z:=o_
  have nB:w.heap.size<=Z:=o_
  have HF:Hid (OutSt w v0 v1 v2 v3 (.slice B4 D.ss.length d4) Z (.slice A0 D.fn.length c0) (.slice A1 D.fl.length c1) (.slice An D.fn.length cn) (.slice Al D.fl.length cl) (.slice none 0 0) ⟨D.fn,D.fl,D.fn,D.fl,[]⟩ [] w5):=h_
   (GE▸⟨((hN.setFar (p:=⟨Z,2,none⟩) gM _).setFar (p:=⟨Z,3,none⟩) gM _).setFar (p:=⟨Z,4,none⟩) gM _,((gx.X.far (p:=⟨Z,2,none⟩) nX _).far (p:=⟨Z,3,none⟩) nX _).far (p:=⟨Z,4,none⟩) nX _,
    ((gx.R.far (p:=⟨Z,2,none⟩) nR _).far (p:=⟨Z,3,none⟩) nR _).far (p:=⟨Z,4,none⟩) nR _,((CL.set_ 2 _).set_ 3 _).set_ 4 _,rX,gM,((gx.blw.setCell (p:=⟨Z,2,none⟩) nB _).setCell (p:=⟨Z,3,none⟩) nB _).setCell (p:=⟨Z,4,none⟩) nB _⟩)
  obtain⟨z_0,z_1,z_2,z_3,z_4,z_f0,z_f1,z_f2,z_f3,z_f4⟩:=CL.b5;clear hN BS gx Ht gj FJ gM gz H5 gS Fh Ga x_0 x_1 x_2 x_3 x_4 Mz hf4 Ut CL
  go_upto_region 5 with (fail)
  rw[<-GE];clear GE z_0 z_1 z_2 z_3 z_4 z_f0 z_f1 z_f2 z_f3 z_f4;obtain⟨_,_,hR,hZ,Gb,_,_⟩:=HF.out;obtain⟨z_0,z_1,z_2,z_3,z_4⟩:=hZ.c5;obtain⟨r_0,r_1,r_2,r_3,r_4,r_f0,r_f1,r_f2,r_f3,r_f4⟩:=hR.b5;have Hl:=hR.lt;have Hx:=h_ (fun u0 u1 u2 u3 u4=>HF.out.fin u0 u1 u2 u3 u4);clear hR hZ HF;go_wp2;exact bodyPost_ret (v:= .agg #[.slice A0 D.fn.length c0,.slice A1 D.fl.length c1,.slice An D.fn.length cn,.slice Al D.fl.length cl,.slice none 0 0]) (by simp[results,Tryz.results20,go_sem,r_0,r_1,r_2,r_3,r_4,Hl]) rfl ⟨_,_,_,_,_,_,_,_,_,_,_,rfl,(Hx.out _ _ _ _ _).1,(Hx.out _ _ _ _ _).2⟩
theorem JU {P:Program} {w:World} {t ty e:TypeId} {i:TypeInfo} {base g:Nat} {z:Value} {sz by_:Nat} (ht:P.underlying t=some (.slice e)) (hi:P.info? e=some i) (hz:i.zero=some z) (Hy:i.size=sz) (gp:i.bytes=by_) (rb:z.cells.size=sz) (gI:0<sz)
  {u:Value} {m:Nat} {l:List Value} (hown:w.ownsRow base e sz (.slice (some ⟨g,0,none⟩) 0 0) 0 []) (hr:RS w sz u m l) (FW:∀x∈l,x.oneCell'=true) (Hm:m<=1048576) (H4:by_<=100) (Hs:base<=w.heap.size):
  ∃A c w',(Builtin.append_ #[t,t] ty #[.slice (some ⟨g,0,none⟩) 0 0,u]).run P w= .ok (.slice A m c) w'/\w'.ownsRow base e sz (.slice A m c) m l/\Below w.heap.size w w'/\
   (∀k,(Value.slice A m c).ownBlock =some k->k=g∨k=w.heap.size):=by
 obtain⟨A,c,w',fj,ho,hg,ha⟩:=kq (ty:=ty) ht hi hz Hy gp rb gI hown hr FW o_ H4 Hs;simp only[aaF,List.nil_append] at fj ho ha
 refine⟨A,c,w',fj,ho,?_,?_⟩
 ·have key:w'.heap[g]? =w.heap[g]? :=by
   rcases hown.2 with ⟨h,_⟩|⟨g',cap,cur,h,_,NY,_,_,Fm,_⟩
   ·cases h
   ·cases h
    subst Hy;have cJ:cur= #[]:=Array.eq_empty_of_size_eq_zero (by simpa using Fm);subst cJ;obtain⟨MB,A0,c0,rfl,hc,hm,hcell⟩:=hr
    cases A0 with
    |none=>
     have RL:=vu (P:=P) (w:=w) (ty:=ty) ht hi (some ⟨g,0,none⟩) 0 0 c0 (aaa _)
     have Ud:m=0:=by
      rcases abv m with h|h
      ·exact h
      ·obtain⟨b,off,h1,_⟩:=hcell h
       cases h1
     subst Ud;have:=fj.symm.trans RL
     cases this
     rfl
    |some a=>
     have hn:∀(j:Nat) (x:Value),l[j]? =some x->w.cell? (a.add j)=some x:=by
      intro j x hx;have hj:=(List.getElem?_eq_some_iff.1 hx).1
      have bH:0<m:=by
       rcases abv m with h|h
       ·subst h;omega
       ·exact h
      obtain⟨b,off,e5,_,e6⟩:=hcell bH
      cases e5
      rw[kL];exact e6 j x hx
     by_cases Ud:m=0
     ·subst Ud
      have M2:l=[]:=abx (by simpa using MB);subst M2;have RL:=run_append_room (P:=P) w t ty e i ht hi g 0 0 #[] NY a 0 c0 [] (by simp) (by simp) (by simp) o_ (by simp);have:=fj.symm.trans RL
      cases this
      rw[setRow_heap w g #[] _ e _ NY,NY];simp
     ·have M9:m*i.bytes<=1048576*100:=Nat.mul_le_mul Hm o_
      have RL:=run_append_grow (P:=P) w t ty e i z ht hi hz ⟨g,0,none⟩ 0 0 [] (by simp) (by simp) a m c0 l MB hn o_ o_ (growslice_fits o_ (by simp only[aaF];omega));simp only[aaF] at RL
      have:=fj.symm.trans RL
      cases this
      exact heap_alloc_old w.drew _ (Array.getElem?_eq_some_iff.1 NY).1
  have hg':w.grownBy w' (Value.slice none 0 0).ownBlock :=⟨hg.os,hg.tape,hg.output,hg.size,fun k hk _=>by
   by_cases hkg:k=g
   ·subst hkg;exact key
   ·exact hg.block k hk (by simpa[Value.ownBlock] using hkg)⟩
  exact kE hg'
 ·intro k hk
  rcases ha with h|h
  ·rw[h] at hk
   simp[Value.ownBlock] at hk
   exact .inl hk.symm
  ·rw[h] at hk
   cases hk
   exact .inr rfl
theorem qh {P:Program} {w:World} {ops:Array Oper} {o:Oper} {a:Act} {K:Act->World->Prop} {Q:Exit->Act->World->Prop} {E:Prop} (Fu:o.guard=none) (s x:Operand) (t:TypeId)
  (ho:o.op= .call { callee:= .builtin .append,args:= #[s,x],argTypes:= #[t,t] })
  (base g:Nat) (e:TypeId) (i:TypeInfo) (z:Value) (sz by_:Nat) (ht:P.underlying t=some (.slice e)) (hi:P.info? e=some i) (hz:i.zero=some z) (Hy:i.size=sz) (gp:i.bytes=by_) (rb:z.cells.size=sz) (gI:0<sz)
  (u:Value) (m:Nat) (l:List Value) (hs:a.eval s= .slice (some ⟨g,0,none⟩) 0 0) (hx:a.eval x=u) (hown:w.ownsRow base e sz (.slice (some ⟨g,0,none⟩) 0 0) 0 []) (hr:RS w sz u m l) (FW:∀x∈l,x.oneCell'=true) (Hm:m<=1048576) (H4:by_<=100) (Hs:base<=w.heap.size)
  (h:∀A c w',w'.ownsRow base e sz (.slice A m c) m l->Below w.heap.size w w'->(∀k,(Value.slice A m c).ownBlock =some k->k=g∨k=w.heap.size)->K (a.put o.dst (.slice A m c)) w'):
  if Region.wanted o (yielded ops a.tmps)=true then Oper.wp P o a w K Q else E:=by
 have hw:Region.wanted o (yielded ops a.tmps)=true:=by simp[Region.wanted,Fu]
 rw[aao hw];obtain⟨A,c,w',fj,h2,h3,h4⟩:=JU (ty:=o.type) ht hi hz Hy gp rb gI hown hr FW Hm H4 Hs;unfold Oper.wp execOp;simp only[ho,resolve,invoke,builtin,Sem.run_bind,Sem.run_pure,aaY,List.map_toArray,aaS,aaT,hs,hx,fj]
 exact h A c w' h2 h3 h4
theorem y8 {w:World} {base:Nat} {e:TypeId} {sz n:Nat} {v:Value} {xs:List Value} (h:w.ownsRow base e sz v n xs):w.drew.ownsRow base e sz v n xs:=h
theorem zN {w:World} {base g:Nat} {e:TypeId} {sz:Nat} (hb:base<=w.heap.size) (hg:w.heap.size=g):(w.alloc (.cells #[] e)).ownsRow base e sz (.slice (some ⟨g,0,none⟩) 0 0) 0 []:=by
 subst hg;exact World.ownsRow_made w #[] 0 hb (by decide) (by simp)
end Go.Proofs.YtnjcpljhmhdhkaaGreat
