/- part 27 -/
import Derived.Test.YtnjcpljhmhdhkaaGreatTPk19
import Derived.Test.YtnjcpljhmhdhkaaGreatTPk22
import Derived.Deep.RegionHeld3
import Derived.Deep.DeepCutAuto
import Derived.BigRegion
set_option linter.unusedSimpArgs false
set_option linter.unusedVariables false
set_option maxRecDepth 100000
set_option maxHeartbeats 16000000
namespace Go.Proofs.YtnjcpljhmhdhkaaGreat
open Go.RowKit
theorem z6Z (n:Nat):natI (List.replicate n 0)=List.replicate n 0:=by simp[natI]
theorem z23 (l:List Nat) (a x:Nat):natI (l.set a x)=(natI l).set a (x:Int):=by simp[natI,List.map_set]
theorem z4f {s:List Int} {F k:Nat} (h:s.getD (2*k) 0=s.getD (2*k+1) 0):ji s F (k+1)=ji s F k:=by simp only[ji];rw[aao h]
theorem z3z {s:List Int} {F k a b:Nat} (ha:s.getD (2*k) 0=(a:Int)) (hb:s.getD (2*k+1) 0=(b:Int)) (h:a≠b):ji s F (k+1)=setN (setN (ji s F k) a b) b a:=by
 simp only[ji];rw[aaq o_,ha,hb,aa5,aa5]
theorem z0A (vn vl:Value) (ns ls:List Pr) (w:World) (hn:RP w vn ns) (hl:RP w vl ls) (hw:zf ns ls=true):
  Calls Tryz.prog 254 #[.agg #[vn,vl]] w (RetI (natI (qZ ns ls)) w):=by
 have Hi:Below w.heap.size w (w.alloc (.cells #[vn,vl] 27)):=bel_
 have gE:Blk (w.alloc (.cells #[vn,vl] 27)) w.heap.size 27 #[vn,vl]:=Blk.newAt rfl;obtain⟨i0,hi,iz0,iz1,iz2⟩:=info_parts qq;have CX:=yh hw;have GN:=(zL hw).1.2.2.1;have fK:=zD ns ls;have Co:=zK hw;have mR:=h_ (fun d (hd:d<2*ls.length)=>kx (ns:=ns) (ls:=ls) CX hd);have bL:=h_ (vL ns ls);have HSI:Hid (x6 ns ls=zM ns ls):=h_ (by unfold x6;rw[hw];rfl);have HR:Hid (qZ ns ls=ji (zM ns ls) (z9 ns ls).length ls.length):=h_ (by unfold qZ;rw[Co])
 have Cf:Hid (∀k,k<=ls.length->∀f,f<(z9 ns ls).length ->(ji (zM ns ls) (z9 ns ls).length k).getD f 0<2^(z9 ns ls).length):=h_ (fun k hk f hf=>VD _ _ k (fun j hj=>by
  obtain⟨p,h1,h2⟩:=kx (ns:=ns) (ls:=ls) CX (d:=j) o_;rw[h1];omega) f hf)
 have fg:=h_ (fun k=>jX (zM ns ls) (z9 ns ls).length k);have CM:=h_ (fun k h=>z4f (s:=zM ns ls) (F:=(z9 ns ls).length) (k:=k) h);have HDI:=h_ (fun k a b ha hb h=>z3z (s:=zM ns ls) (F:=(z9 ns ls).length) (k:=k) (a:=a) (b:=b) ha hb h);have HZ:Hid (ji (zM ns ls) (z9 ns ls).length 0=List.replicate (z9 ns ls).length 0):=h_ rfl
 go_enter Tryz.func254,Tryz.ntmps254
 go_wp2_with fail
 refine(Vb _ _ ns ls _ (hn.below Hi) (hl.below Hi)).mono ?_
 rw[HSI.out];rintro e w1 ⟨v1,rfl,Hj,Hb⟩;have Ha:=Hi.trans (Hb.mono Hi.size);have gc:=gE.below Hb gE.lt;have Fd:=Hj.reads;obtain⟨a_0,a_1⟩:=gc.c2;have H7:=gc.lt
 go_wp2_with fail
 refine(jS _ _ ns ls _ (hn.below Ha) (hl.below Ha)).mono ?_
 rintro e w2 ⟨v2,rfl,Hn,Hh⟩;have Hc:=Ha.trans (Hh.mono Ha.size);have Fi:=Fd.below Hh;have Gp:w.heap.size<w2.heap.size:=aaD H7 Hh.size;obtain⟨A2,c2,rfl⟩:=Hn.form;obtain⟨As,cS,rfl,Fm,hms,G8⟩:=Fi.form;rw[bL.out] at G8⊢;generalize (z9 ns ls).length =F at*;generalize zM ns ls=s at*
 go_wp2_with (at_make;refine wpList_make_full _ rfl _ _ 31 rfl (w.heap.size+1) 3 i0 (.int .i64 0) 1 Tryz.underlying31 hi iz0 iz1 .i64 .i64 _ _ F rfl rfl rfl rfl (by rw[iz2];omega) (by unfold maxLen;omega) o_ ?_)
 intro w3 gZ gR;have GJ:Below w2.heap.size w2 w3:=(aaj _ _).grown gR (aaa _) (by intro k hk;cases hk)
 have ft:OwnI (w.heap.size+1) w3 (.slice (some ⟨w2.heap.size,0,none⟩) F F) (natI (ji s F 0)):=by
  rw[HZ.out,z6Z];unfold OwnI;rw[aaC,<-z2J];exact gZ
 have Uv:=(OwnI.lt ft _ rfl).2;obtain⟨gs,mP⟩:∃g,w2.heap.size=g:=⟨_,rfl⟩;rw[mP] at GJ ft Uv Gp⊢;have rZ:=h_ mP;go_wp2
 go_loopw [5] (fun x wr=>∃k:Nat,k<=ls.length/\x= .int .i64 k/\OwnI (w.heap.size+1) wr (.slice (some ⟨gs,0,none⟩) F F) (natI (ji s F k))/\Below gs w2 wr) (fun x _=>ls.length -(intOf x).toNat)
 case atStart=>exact⟨0,aab _,rfl,ft,GJ⟩
 case round=>
  obtain⟨k,hk,rfl,ho,hB⟩:=hrel;have ew:IntKind.i64.wrap (2*(k:Int))=((2*k:Nat):Int):=by rw[show 2*(k:Int)=((2*k:Nat):Int) by omega];exact aaP _ o_
  by_cases Hf:k<ls.length
  ·obtain⟨b,off,rfl,hb,GD⟩:=G8 o_
   obtain⟨p,hp,YZ⟩:=mR.out (2*k) o_;obtain⟨q,hq,Y0⟩:=mR.out (2*k+1) o_;rw[rZ.out] at hb;have Fy:=(hB.cell (p:=⟨b,off+2*k,none⟩) hb).trans (GD (2*k) o_);have bJ:=(hB.cell (p:=⟨b,off+(2*k+1),none⟩) hb).trans (GD (2*k+1) o_);rw[hp] at Fy;rw[hq] at bJ;have Cc:b<wr.heap.size:=by have:=hB.size;rw[rZ.out] at this;omega
   have i4:(0:Int)<=(p:Int):=o_
   have i5:(p:Int)<(F:Int):=o_
   have i6:(0:Int)<=(q:Int):=o_
   have i7:(q:Int)<(F:Int):=o_
   have Ni:=h_ (CM.out k);have Uy:=h_ (HDI.out k p q hp hq);rw[hp,hq] at Ni;have hgl:=(OwnI.lt ho gs rfl).2
   by_cases Ft:p=q
   ·have e1:((p:Int)==(q:Int))=true:=beq_iff_eq.2 o_
    have e2:((p:Int) != (q:Int))=false:=by rw[bne,e1];rfl
    have HX:=h_ (Ni.out o_)
    go_wp2_with fail
    (refine z7 k_ k_ (fun hG=>?_))
    repeat (go_big_quiet_step (fail))
    refine wpQuiet_nil ?_
    rintro w5 ⟨⟨_,Gk⟩,rfl⟩;have HO:=h_ (show OwnI (w.heap.size+1) w5 (.slice (some ⟨gs,0,none⟩) F F) (natI (ji s F (k+1))) by rw[HX.out];exact ho.kept Gk);have HB:=h_ (hB.trans (Gk.mono o_));go_wp2;go_roundw
    case rel=>exact⟨k+1,by omega,by go_num,HO.out,HB.out⟩
    case measure=>simp[intOf];omega
   ·have e1:((p:Int)==(q:Int))=false:=beq_eq_false_iff_ne.2 o_
    have e2:((p:Int) != (q:Int))=true:=by rw[bne,e1];rfl
    have HX:=h_ (Uy.out Ft);have hF62:(2:Nat)^F<=2^40:=aaE o_ o_;have hLp:=Cf.out k hk p YZ;have hLq:=Cf.out k hk q Y0;have MB:=fg.out k;generalize ji s F k=L at*;have xp:=shl64 (k:=p) o_;have xq:=shl64 (k:=q) o_;have Pp:2^p<2^40:=aa3 o_ o_;have Pq:2^q<2^40:=aa3 o_ o_;have o1:=vk (a:=L.getD p 0) (b:=2^q) o_ o_;have o2:=vk (a:=L.getD q 0) (b:=2^p) o_ o_;have hq64:q<64:=o_
    have hp64:p<64:=o_
    have HGQ:Hid ((setN L p q).getD q 0=L.getD q 0):=h_ (by rw[X9 o_,aaq (fun e=>Ft e.symm)])
    go_wp2_with fail
    (refine z7 k_ k_ (fun hG=>?_))
    repeat (go_big_quiet_step (fail))
    refine wpQuiet_nil ?_
    rintro w5 ⟨⟨_,Gk⟩,rfl⟩;have fk:=ho.kept Gk;have GL:=hB.trans (Gk.mono o_)
    have NQ:w5.cell? ⟨gs,p,none⟩=some (.int .i64 (L.getD p 0:Nat)):=by
     rw[OwnE.cell (t:=3) (enc:=vI) fk 0 (q:=p) (by rw[za,MB];exact YZ),qg];rfl
    have fp:=OwnE.frz (t:=3) (enc:=vI) fk p;have GZ:Hid (OwnI (w.heap.size+1) (w5.setCell ⟨gs,p,none⟩ (.int .i64 ((L.getD p 0 ||| 2^q:Nat):Int))) (.slice (some ⟨gs,0,none⟩) F F) (natI (setN L p q))):=h_ (by unfold setN;rw[z23];exact kj fk p _);have Bu:=h_ (GL.setCell (p:=⟨gs,p,none⟩) (aaa _) (.int .i64 ((L.getD p 0 ||| 2^q:Nat):Int)));generalize Gt:L.getD p 0 ||| 2^q=O1 at*
    generalize hP2:((2^q:Nat):Int)=Q2 at*;generalize L.getD p 0=lp at*
    go_wp2_with fail
    go_cut [] (fun wx=>OwnI (w.heap.size+1) wx (.slice (some ⟨gs,0,none⟩) F F) (natI (setN L p q))/\Below gs w2 wx)
    case first=>
     go_region
     all_goals go_wp2
     all_goals go_meet
     all_goals exact⟨GZ.out,Bu.out.drew⟩
    case rest=>
     obtain⟨fh,CY⟩:=hcut;obtain⟨w6,CV⟩:∃u,u=wc:=⟨_,rfl⟩;subst CV
     have BU:w6.cell? ⟨gs,q,none⟩=some (.int .i64 (L.getD q 0:Nat)):=by
      rw[OwnE.cell (t:=3) (enc:=vI) fh 0 (q:=q) (by rw[za,vY,MB];exact Y0),qg,HGQ.out];rfl
     have fq:=OwnE.frz (t:=3) (enc:=vI) fh q;have gD:Hid (OwnI (w.heap.size+1) (w6.setCell ⟨gs,q,none⟩ (.int .i64 ((L.getD q 0 ||| 2^p:Nat):Int))) (.slice (some ⟨gs,0,none⟩) F F) (natI (ji s F (k+1)))):=h_ (by rw[HX.out];unfold setN;rw[z23,show(L.set p (L.getD p 0 ||| 2^q)).getD q 0=L.getD q 0 from HGQ.out];exact kj fh q _);have CT:=h_ (CY.setCell (p:=⟨gs,q,none⟩) (aaa _) (.int .i64 ((L.getD q 0 ||| 2^p:Nat):Int)));generalize CW:L.getD q 0 ||| 2^p=O2 at*
     generalize hP3:((2^p:Nat):Int)=P2 at*;generalize L.getD q 0=lq at*
     go_wp2_with fail
     go_region
     all_goals go_wp2
     all_goals go_roundw
     case rel=>exact⟨k+1,by omega,by go_num,gD.out,CT.out.drew⟩
     case measure=>simp[intOf];omega
  ·have gn:k=ls.length:=o_
   subst gn;have HB:=h_ (Hc.trans (Below.mono (by rw[rZ.out];exact hB) Hc.size));go_wp2;go_ret
   exact⟨_,rfl,by rw[HR.out];exact OwnI.mono ho o_,HB.out⟩
theorem z5z {s:List Int} {F k:Nat} (h:s.getD (2*k) 0=s.getD (2*k+1) 0):besK s F (k+1)=besK s F k:=by simp only[besK];rw[aao h]
theorem z6a {s:List Int} {F k a b:Nat} (ha:s.getD (2*k) 0=(a:Int)) (hb:s.getD (2*k+1) 0=(b:Int)) (h:a≠b):besK s F (k+1)=setT (setT (besK s F k) a b) b a:=by
 simp only[besK];rw[aaq o_,ha,hb,aa5,aa5]
theorem z7d:(Tryz.prog.info? 182).map (fun i=>(i.zero,i.size,i.bytes))=some (some (.slice none 0 0),1,24):=by kernel_rfl
theorem QZ {w:World} {ops:Array Oper} {rest:List Oper} {o:Oper} {a:Act} {Q:Exit->Act->World->Prop} (Fu:o.guard=none) (s x:Operand)
  (ho:o.op= .call { callee:= .builtin .append,args:= #[s,x],argTypes:= #[169,169] })
  (base:Nat) (v:Value) (F g:Nat) (gs:List Nat) (T:List (List Bool)) (r:List Bool) (hs:a.eval s=v) (g1:Nat) (hx:a.eval x= .slice (some ⟨g1,0,none⟩) 1 1) (hg:w.cell? ⟨g1,0,none⟩=some (rowV F g))
  (hown:OwnTab base w v F gs T) (hr:OwnE 4 Value.bool base w (rowV F g) r) (hgn:∀k,k<T.length->gs.getD k 0≠g) (Hm:T.length<=1048576) (Hs:base<=w.heap.size)
  (h:∀v' w',OwnTab base w' v' F (gs++[g]) (T++[r])->w.grownBy w' v.ownBlock->wpList Tryz.prog ops Q rest (a.put o.dst v') w'):wpList Tryz.prog ops Q (o::rest) a w:=by
 obtain⟨i,hi,hz,Hy,gp⟩:=info_parts z7d;have hl:=hown.len
 exact wpList_append_own w Fu s x 169 ho base 182 i (.slice none 0 0) 1 24 Tryz.underlying169 hi hz Hy gp rfl (by decide) v gs.length (gs.map (rowV F)) hs hown.out ⟨g1,0,none⟩ 1 1 [rowV F g] hx rfl
  (fun j y hj=>by
   match j,hj with
   |0,hj=>cases hj;exact hg
   |j+1,hj=>simp at hj)
  (by
   intro y hy;simp at hy
   subst hy;rfl) (by unfold maxLen;omega) o_ Hs fun v' w' e1 e2 _=>h v' w' (hown.snoc hr hgn e2 (by rw[<-hl];exact e1)) e2
def z9v (F:Nat) (T:List (List Bool)) (w:World) (e:Ending) (w':World):Prop:=∃v gs,e= .returned v/\OwnTab w.heap.size w' v F gs T/\Below w.heap.size w w'
theorem OwnTab.mono {base base':Nat} {w:World} {v:Value} {F:Nat} {gs:List Nat} {T:List (List Bool)} (h:OwnTab base w v F gs T) (hb:base'<=base):OwnTab base' w v F gs T:=
 ⟨World.ownsRow.mono h.out hb,h.len,h.nd,fun k hk=>World.ownsRow.mono (h.row k hk) hb⟩
theorem z6G {α:Type} (k:Nat) (x:α):List.replicate k x++[x]=List.replicate (k+1) x:=by rw[List.replicate_succ']
theorem Je (vn vl:Value) (ns ls:List Pr) (w:World) (hn:RP w vn ns) (hl:RP w vl ls) (hw:zf ns ls=true):
  Calls Tryz.prog 179 #[.agg #[vn,vl]] w (z9v (z9 ns ls).length (besW ns ls) w):=by
 obtain⟨Al,cl,rfl,Hz,GM,_⟩:=hl.formI;unfold maxLen at GM;have Hi:Below w.heap.size w (w.alloc (.cells #[vn,.slice Al ls.length cl] 27)):=bel_
 have gE:Blk (w.alloc (.cells #[vn,.slice Al ls.length cl] 27)) w.heap.size 27 #[vn,.slice Al ls.length cl]:=Blk.newAt rfl;obtain⟨i0,hi,iz0,iz1,iz2⟩:=info_parts Z9;have CX:=yh hw;have GN:=(zL hw).1.2.2.1;have fK:=zD ns ls;have mR:=h_ (fun d (hd:d<2*ls.length)=>kx (ns:=ns) (ls:=ls) CX hd);have bL:=h_ (vL ns ls);have HR:Hid (besW ns ls=besK (zM ns ls) (z9 ns ls).length ls.length):=h_ (by unfold besW;rw[zK hw]);have rc:=h_ (fun k=>jP (zM ns ls) (z9 ns ls).length k);have HBR:=h_ (fun k f hf=>vN (zM ns ls) (z9 ns ls).length k f hf);have CM:=h_ (fun k h=>z5z (s:=zM ns ls) (F:=(z9 ns ls).length) (k:=k) h);have HDI:=h_ (fun k a b ha hb h=>z6a (s:=zM ns ls) (F:=(z9 ns ls).length) (k:=k) (a:=a) (b:=b) ha hb h);have HZ:Hid (besK (zM ns ls) (z9 ns ls).length 0=List.replicate (z9 ns ls).length (List.replicate (z9 ns ls).length false)):=h_ rfl;have r0:=h_ (fun (v:World) (h1:RP v vn ns) (h2:RP v (.slice Al ls.length cl) ls)=>V7 vn (.slice Al ls.length cl) ns ls v h1 h2 hw)
 go_enter Tryz.func179,Tryz.ntmps179
 go_wp2_with fail
 refine(jU _ _ ns ls _ (hn.below Hi) (hl.below Hi)).mono ?_
 rintro e w1 ⟨v1,rfl,Hj,Hb⟩;have Ha:=Hi.trans (Hb.mono Hi.size);have gc:=gE.below Hb gE.lt;have H7:=gc.lt;obtain⟨A1,c1,rfl⟩:=Hj.form;generalize (z9 ns ls).length =F at*;generalize zM ns ls=s at*
 have YW:OwnTab (w.heap.size+1) (w1.alloc (.cells #[] 182)) (.slice (some ⟨w1.heap.size,0,none⟩) 0 0) F [] (List.replicate 0 (List.replicate F false)):=by
  refine⟨?_,rfl,List.nodup_nil,fun k hk=>absurd hk (by simp)⟩
  exact World.ownsRow_made w1 #[] 0 o_ (by decide) (by simp)
 have Hc:Below w.heap.size w (w1.alloc (.cells #[] 182)):=Ha.alloc Ha.size _;have gX:=gc.alloc (.cells #[] 182);go_wp2
 go_loopw [4,5] (fun v x wr=>∃(k:Nat) (gs:List Nat),k<=F/\x= .int .i64 k/\OwnTab (w.heap.size+1) wr v F gs (List.replicate k (List.replicate F false))/\Blk wr w.heap.size 27 #[vn,.slice Al ls.length cl]/\Below w.heap.size w wr) (fun _ x _=>F -(intOf x).toNat)
 case atStart=>exact⟨0,[],aab _,rfl,YW,gX,Hc⟩
 case round=>
  obtain⟨k,gs,hk,rfl,ho,hW,hB⟩:=hrel;have Gp:=hW.lt
  by_cases Hf:k<F
  ·have Hu:(k:Int)<(F:Int):=o_
   go_wp2_with (at_make;refine wpList_make_full _ rfl _ _ 182 rfl (w.heap.size+1) 4 i0 (.bool false) 1 Tryz.underlying182 hi iz0 iz1 .i64 .i64 _ _ F rfl rfl rfl rfl (by rw[iz2];omega) (by unfold maxLen;omega) o_ ?_)
   intro w3 gZ gR;have GJ:Below wr.heap.size wr w3:=(aaj _ _).grown gR (aaa _) (by intro k hk;cases hk)
   have Hw:OwnE 4 Value.bool (w.heap.size+1) w3 (rowV F wr.heap.size) (List.replicate F false):=by
    unfold OwnE;rw[aaC,<-z4Q];exact gZ
   have Hq:=ho.kept GJ;have Gz:=hW.below GJ Gp;have YX:=hB.trans (GJ.mono hB.size);have hgn:∀j,j<(List.replicate k (List.replicate F false)).length ->gs.getD j 0≠wr.heap.size:=fun j hj=>by have:=(z2Z ho hj).2;omega
   have fC:=Gz.lt;have gz:=Hq.kept (Below.alloc (aaj w3.heap.size w3) (aaa _) (.cells #[rowV F wr.heap.size] 182));have YY:=OwnE.alloc Hw (.cells #[rowV F wr.heap.size] 182);have bj:=Gz.alloc (.cells #[rowV F wr.heap.size] 182);have MD:Below w.heap.size w (w3.alloc (.cells #[rowV F wr.heap.size] 182)):=YX.alloc YX.size _
   go_wp2_with (at_builtin;refine QZ rfl _ _ rfl (w.heap.size+1) _ F wr.heap.size gs (List.replicate k (List.replicate F false)) (List.replicate F false) rfl w3.heap.size rfl (j9 rfl) gz YY hgn (by simp;omega) (by simp;omega) ?_)
   intro v5 w5 fk Cb;rw[z6G] at fk;have Mm:Blk w5 w.heap.size 27 #[vn,.slice Al ls.length cl]:=(Cb.block w.heap.size (by simp;omega) (fun e=>by have:=(gz.out.lt _ e.symm).1;omega)).trans bj;have GL:=MD.grown Cb (by simp;omega) (fun q hq=>by have:=(gz.out.lt q hq).1;omega);go_wp2;go_roundw
   case rel=>exact⟨k+1,_,by omega,by go_num,fk,Mm,GL⟩
   case measure=>simp[intOf];omega
  ·have gn:k=F:=o_
   subst gn;have hgl:gs.length=k:=by have:=ho.len;simpa using this
   have Ux:=ho;rw[<-HZ.out] at Ux;obtain⟨g,cg,rfl,Fn,Mw⟩:=Ux.blk (by rw[rc.out];exact CX);have Rx:∀p:Nat,p<k->(p:Int)<(gs.length:Int):=fun p hp=>by omega
   obtain⟨a_0,a_1⟩:=hW.c2
   go_wp2_with fail
   refine(r0.out _ (hn.below hB) (hl.below hB)).mono ?_
   rintro e w3 ⟨v3,rfl,Hq,Hg⟩;have Bt:=Ux.kept Hg;have Gz:=hW.below Hg Gp;have GJ:=hB.trans (Hg.mono hB.size);have bV:=OwnI.mono Hq (show w.heap.size+1<=wr.heap.size by omega);obtain⟨As,cS,rfl⟩:=OwnE.form (t:=3) (enc:=vI) bV;rw[bL.out] at bV⊢;go_wp2
   go_loopw [7] (fun x wr=>∃j:Nat,j<=ls.length/\x= .int .i64 j/\OwnTab (w.heap.size+1) wr (.slice (some ⟨g,0,none⟩) gs.length cg) k gs (besK s k j)/\OwnI (w.heap.size+1) wr (.slice As (2*ls.length) cS) s/\Blk wr w.heap.size 27 #[vn,.slice Al ls.length cl]/\Below w.heap.size w wr) (fun x _=>ls.length -(intOf x).toNat)
   case atStart=>exact⟨0,aab _,rfl,Bt,bV,Gz,GJ⟩
   case round=>
    obtain⟨j,hj,rfl,hT,hS,hW,hB⟩:=hrel;obtain⟨a_0,a_1⟩:=hW.c2
    by_cases Hf:j<ls.length
    ·obtain⟨p,hp,YZ⟩:=mR.out (2*j) o_
     obtain⟨q,hq,Y0⟩:=mR.out (2*j+1) o_;obtain⟨b,cb,eb,M8,H4,Hd,GD⟩:=OwnI.blk hS (by rw[bL.out];omega)
     injection eb with eb1 eb2 eb3
     subst eb1;have Fy:=GD (2*j) (by rw[bL.out];omega);have bJ:=GD (2*j+1) (by rw[bL.out];omega);rw[hp] at Fy;rw[hq] at bJ;have e0w:IntKind.i64.wrap (2*(j:Int))=((2*j:Nat):Int):=by rw[show 2*(j:Int)=((2*j:Nat):Int) by omega];exact aaP _ o_
     have i4:(0:Int)<=(p:Int):=o_
     have i6:(0:Int)<=(q:Int):=o_
     have i8:(p:Int)<(k:Int):=o_
     have i9:(q:Int)<(k:Int):=o_
     have ij:(j:Int)<(ls.length:Int):=o_
     have Ni:=h_ (CM.out j);have Uy:=h_ (HDI.out j p q hp hq);rw[hp,hq] at Ni
     by_cases Ft:p=q
     ·have e1:((p:Int)==(q:Int))=true:=beq_iff_eq.2 o_
      have e2:((p:Int) != (q:Int))=false:=by rw[bne,e1];rfl
      have HX:=h_ (Ni.out o_);go_wp2;go_roundw
      case rel=>exact⟨j+1,by omega,by go_num,by rw[HX.out];exact hT,hS,hW,hB⟩
      case measure=>simp[intOf];omega
     ·have e1:((p:Int)==(q:Int))=false:=beq_eq_false_iff_ne.2 o_
      have e2:((p:Int) != (q:Int))=true:=by rw[bne,e1];rfl
      have HX:=h_ (Uy.out Ft);have Ch:=rc.out j;have HTR:=h_ (HBR.out j);generalize besK s k j=T at*;have RN:p<T.length:=o_
      have RO:q<T.length:=o_
      have u0:=hT.cell RN;have u1:=hT.cell RO;have v0:=hT.cell2 RN (j:=q) (by rw[HTR.out p YZ];exact Y0);have v1:=hT.cell2 RO (j:=p) (by rw[HTR.out q Y0];exact YZ);have f0:=hT.frz2 RN q;have f1:=hT.frz2 RO p;obtain⟨l0a,l0⟩:=z2Z hT RN;obtain⟨l1a,l1⟩:=z2Z hT RO;have GZ:=hT.set_ RN q true;have gD:=GZ.set_ (a:=q) (by simpa using RO) p true;have hTT:(T.set p ((T.getD p []).set q true)).set q (((T.set p ((T.getD p []).set q true)).getD q []).set p true)=besK s k (j+1):=by rw[HX.out];rfl
      rw[hTT] at gD;have Hv:=z9i hT RN RO Ft;have mU:=hT.apart RN rfl;have gL:=hT.apart RO rfl;have HO:=h_ (show OwnI (w.heap.size+1) ((wr.setCell ⟨gs.getD p 0,q,none⟩ (.bool true)).setCell ⟨gs.getD q 0,p,none⟩ (.bool true)) (.slice (some ⟨b,0,none⟩) (2*ls.length) cS) s from OwnE.other (t:=3) (enc:=vI) (OwnE.other (t:=3) (enc:=vI) hS (hT.row p RN) Zg (qv (qu _ _) q _)) (GZ.row q (by simpa using RO)) Zg (qv (qu _ _) p _));have HS2':=h_ gD;have HW:=h_ (show Blk ((wr.setCell ⟨gs.getD p 0,q,none⟩ (.bool true)).setCell ⟨gs.getD q 0,p,none⟩ (.bool true)) w.heap.size 27 #[vn,.slice Al ls.length cl] from(hW.far (p:=⟨gs.getD p 0,q,none⟩) (show w.heap.size≠gs.getD p 0 by omega) _).far (p:=⟨gs.getD q 0,p,none⟩) (show w.heap.size≠gs.getD q 0 by omega) _);have HB:=h_ (show Below w.heap.size w ((wr.setCell ⟨gs.getD p 0,q,none⟩ (.bool true)).setCell ⟨gs.getD q 0,p,none⟩ (.bool true)) from(hB.setCell (p:=⟨gs.getD p 0,q,none⟩) (show w.heap.size<=gs.getD p 0 by omega) _).setCell (p:=⟨gs.getD q 0,p,none⟩) (show w.heap.size<=gs.getD q 0 by omega) _);generalize gs.getD p 0=ga at*;generalize gs.getD q 0=gb at*;generalize (T.getD p []).getD q false=x0 at*;generalize (T.getD q []).getD p false=x1 at*;have d1:¬ga=gb:=Hv;have d2:¬gb=ga:=fun e=>Hv e.symm
      have d3:¬g=ga:=mU;have d4:¬ga=g:=fun e=>mU e.symm
      have d5:¬g=gb:=gL;go_wp2;go_roundw
      case rel=>exact⟨j+1,by omega,by go_num,HS2'.out,HO.out,HW.out,HB.out⟩
      case measure=>simp[intOf];omega
    ·have GS:j=ls.length:=o_
     subst GS;have hT':=hT;rw[hgl] at hT';have HT:=h_ hT';have HB:=h_ hB;go_wp2;go_ret
     exact⟨_,_,rfl,by rw[HR.out];exact OwnTab.mono HT.out (show w.heap.size<=w.heap.size+1 by omega),HB.out⟩
theorem z5A (k:Nat):List.replicate k (-1:Int)++[-1]=List.replicate (k+1) (-1):=by rw[List.replicate_succ']
theorem z5N (n:Nat) (w:World) (h:n<=40):
  Calls Tryz.prog 181 #[.int .i64 n] w (RetI (List.replicate n (-1)) w):=by
 have Hi:Below w.heap.size w (w.alloc (.cells #[] 3)):=bel_
 have C8:OwnI w.heap.size (w.alloc (.cells #[] 3)) (.slice (some ⟨w.heap.size,0,none⟩) 0 0) (List.replicate 0 (-1)):=OwnI.made rfl (aaa _)
 go_enter Tryz.func181,Tryz.ntmps181
 go_wp2
 go_loopw [3,4] (fun v x wr=>∃k:Nat,k<=n/\x= .int .i64 k/\OwnI w.heap.size wr v (List.replicate k (-1))/\Below w.heap.size w wr) (fun _ x _=>n -(intOf x).toNat)
 case atStart=>exact⟨0,aab _,rfl,C8,Hi⟩
 case round=>
  clear C8 Hi;obtain⟨k,hk,rfl,ho,hB⟩:=hrel;have gI:=hB.size
  by_cases Hf:k<n
  ·have Hu:(k:Int)<(n:Int):=o_
   have Hm:(List.replicate k (-1:Int)).length <=40:=by simp;omega
   have HS:=h_ (z5A k);generalize List.replicate k (-1:Int)=G at*
   go_wp2_with (at_builtin;refine qi rfl _ _ rfl w.heap.size _ G (-1) rfl wr.heap.size rfl (j9 rfl) (ho.alloc _) o_ (by simp;omega) ?_)
   intro v2 w2 Hn gu gw;have Hh:Below w.heap.size w w2:=(hB.alloc hB.size (.cells #[.int .i64 (-1)] 3)).grown gu (by simp;omega) (fun q hq=>by have:=(ho.lt q hq).1;omega);clear gu gw ho hB;go_wp2;go_roundw
   case rel=>exact⟨k+1,by omega,by go_num,by rw[<-HS.out];exact Hn,Hh⟩
   case measure=>simp[intOf];omega
  ·have gn:k=n:=o_
   subst gn;go_wp2;go_ret
   exact⟨_,rfl,ho,hB⟩
def noW (F:Nat):List Int:=List.replicate F (-1)
theorem Z8 (F:Nat):(noW F).length =F:=by simp[noW]
theorem z1G {F k:Nat} (h:k<F):(noW F).getD k 0= -1:=by simp[noW,List.getD,h]
theorem z7S {F k:Nat} {x:Int} (h:k<F):Jd (noW F) k x=true:=z62 h
structure SrA (w:World) (b F:Nat) (adj:Nat->Nat->Bool) (vg:Value):Prop where
 tab:JF w b 0 F adj
 wish:RI w vg (noW F)
theorem SrA.below {w w':World} {b F:Nat} {adj:Nat->Nat->Bool} {vg:Value} (h:SrA w b F adj vg) (hb:Below w.heap.size w w'):SrA w' b F adj vg:=⟨h.tab.below hb,h.wish.below hb⟩
theorem z45 (F n b cT:Nat) (adj:Nat->Nat->Bool) (vg:Value) (hF:F<=40) (hn:n<=6):
  ∀(r:Nat) (hd:List Int) (vh:Value) (w:World),hd.length+r=F->SrA w b F adj vg->RI w vh hd->
   Calls Tryz.prog 180 #[.slice (some ⟨b,0,none⟩) F cT,vg,.int .i64 n,vh] w (z0N ((srch adj (noW F) n r hd).getD []) (srch adj (noW F) n r hd).isSome w):=by
 intro r;obtain⟨i0,hi,iz0,iz1,iz2⟩:=info_parts qq
 induction r with
 |zero=>
  intro hd vh w hl hA hH;obtain⟨Ah,ch,rfl,hch,hmh,_⟩:=hH.form;unfold maxLen at hmh;have HH:=h_ hH;have HR:Hid (srch adj (noW F) n 0 hd=some hd):=h_ rfl;have e1:((hd.length:Int)==(F:Int))=true:=by rw[show hd.length=F by omega];simp
  have Hi:Below w.heap.size w (w.alloc (.cells #[] 3)):=bel_
  clear hH hA
  go_enter Tryz.func180,Tryz.ntmps180
  go_wp2_with (at_builtin;refine zQ rfl _ _ _ rfl w.heap.size 3 i0 (.int .i64 0) 1 8 Tryz.underlying31 hi iz0 iz1 iz2 rfl (by decide) (.slice (some ⟨w.heap.size,0,none⟩) 0 0) _ 0 hd.length [] (hd.map vI) rfl rfl (zN (aaa _) rfl) (RI.below HH.out Hi) (yg hd) o_ (by decide) (by simp) ?_)
  intro A2 c2 w4 gz Gf _;have Ho:Below w.heap.size w w4:=Hi.grown Gf (by simp) (fun q hq=>by cases hq;exact aaa _);have HO:Hid (OwnI w.heap.size w4 (.slice A2 (0+hd.length) c2) hd):=h_ (by unfold OwnI;simpa using gz);clear gz Gf;go_wp2;exact bodyPost_ret (v:= .tuple #[.slice A2 (0+hd.length) c2,.bool true]) (by simp[results,Tryz.results180,go_sem]) rfl ⟨_,by rw[HR.out];rfl,by rw[HR.out];exact HO.out,Ho⟩
 |succ r ih=>
  intro hd vh w hl hA hH;obtain⟨Ah,ch,rfl,hch,hmh,Nj⟩:=hH.form;obtain⟨Ag,cg,rfl,hcg,hmg,mV⟩:=hA.wish.form;unfold maxLen at hmh hmg;rw[Z8] at hcg hmg mV hA ih⊢;obtain⟨bg,og,rfl,mo,Y1⟩:=mV o_;obtain⟨k,hk⟩:∃k,hd.length=k:=⟨_,rfl⟩;have Mr:k<F:=o_
  have hx:=Y1 k Mr;rw[z1G Mr] at hx;have HIH:=h_ ih;have HA:=h_ hA;have hHk:RI w (.slice Ah k ch) hd:=by rw[<-hk];exact hH
  have HH:=h_ hHk;have hTB:=hA.tab.1;have HT:=h_ hA.tab.2;have Wo:=h_ Nj;have e1:((hd.length:Int)==(F:Int))=false:=by rw[hk];exact beq_eq_false_iff_ne.2 o_
  have HWY:Hid (∀x:Int,Jd (noW F) k x=true):=h_ (fun x=>z7S Mr);have r1:=h_ (fun (x:Nat) h=>z80 (adj:=adj) (gv:=noW F) (n:=n) (r:=r) (hd:=hd) (x:=x) h);have Y2:=h_ (fun (x:Nat) h1 h2=>z6C (adj:=adj) (gv:=noW F) (n:=n) (r:=r) (hd:=hd) (x:=x) h1 h2);have HHI:=h_ (fun (x:Nat) (L:List Int) hx hp h=>z2x (adj:=adj) (gv:=noW F) (n:=n) (r:=r) (hd:=hd) (L:=L) (x:=x) hx hp h);have HMI:=h_ (fun hp=>z0n (adj:=adj) (gv:=noW F) (n:=n) (r:=r) (hd:=hd) hp);have uI:=h_ (fun (x:Int) (i:Nat)=>z2h (adj:=adj) (hd:=hd) (k:=k) (x:=x) (i:=i));have HOA:Hid (∀x:Int,okP adj hd k x k=okC adj hd k x):=h_ (fun _=>rfl);have uT:Hid (∀x:Int,okP adj hd k x 0=true):=h_ (fun _=>rfl);rw[hk] at r1 Y2;have Y3:=h_ hk;have HLR:=h_ hl;generalize srch adj (noW F) n (r+1) hd=RR at*;clear hA hH hHk ih Nj mV Y1 hl;rw[hk];rw[hk] at e1 hch hmh Wo;have ik1:(0:Int)<=(k:Int):=o_
  have ik2:(k:Int)<(F:Int):=o_
  clear hk
  go_enter Tryz.func180,Tryz.ntmps180
  go_wp2
  go_loopw [11] (fun s wr=>∃x:Nat,x<=n/\s= .int .i64 x/\Hid (∀y,y<x->srF adj (noW F) n r hd y=none)/\Below w.heap.size w wr) (fun s _=>n -(intOf s).toNat)
  case atStart=>exact⟨0,aab _,rfl,h_ (fun y hy=>absurd hy o_),aaj _ _⟩
  case round=>
   obtain⟨x,hxn,rfl,HP,hB⟩:=hrel;have gI:=hB.size;have Hd:b<wr.heap.size:=o_
   have hbg':bg<wr.heap.size:=o_
   have CJ:=(hB.cell (p:=⟨bg,og+k,none⟩) mo).trans hx
   by_cases Hf:x<n
   ·have Hu:(x:Int)<(n:Int):=o_
    have HB:=h_ hB;clear hB;go_wp2;obtain⟨wq,cD⟩:∃u,u=wr:=⟨_,rfl⟩;rw[<-cD]
    go_loopw [12,13] (fun s t w2=>∃i:Nat,i<=k/\t= .int .i64 i/\s= .bool (okP adj hd k x i)/\w2=wr) (fun _ t _=>k -(intOf t).toNat)
    case atStart=>exact⟨0,aab _,rfl,by rw[uT.out],cD⟩
    case round=>
     clear cD wq;obtain⟨i,Rx,rfl,rfl,rfl⟩:=hrel
     by_cases FH:i<k
     ·have Uz:(i:Int)<(k:Int):=o_
      have ii1:(0:Int)<=(i:Int):=o_
      have ii2:(i:Int)<(F:Int):=o_
      obtain⟨bi,hbi,br,Gj⟩:=HT.out i o_;have gl:=Gj k Mr;obtain⟨bh,oh,rfl,hbh,Y4⟩:=Wo.out o_;have gV:=Y4 i FH;have q0:=(HB.out.cell (p:=⟨b,0+i,none⟩) hTB).trans br;have q1:=(HB.out.cell (p:=⟨bi,k,none⟩) hbi).trans gl;have q2:=(HB.out.cell (p:=⟨bh,oh+i,none⟩) hbh).trans gV;rw[aaF] at q0;have HS:=h_ (uI.out x i);clear br Gj gl gV Y4;generalize adj i k=a at*;generalize hd.getD i 0=h at*;generalize okP adj hd k x i=o at*
      cases o
      ·go_wp2
       go_roundw
       case rel=>exact⟨i+1,by omega,by go_num,by rw[HS.out];rfl,by trivial⟩
       case measure=>simp[intOf];omega
      ·cases a
       ·go_wp2
        go_roundw
        case rel=>exact⟨i+1,by omega,by go_num,by rw[HS.out];rfl,by trivial⟩
        case measure=>simp[intOf];omega
       ·by_cases he:h=(x:Int)
        ·have e2:(h==(x:Int))=true:=beq_iff_eq.2 he
         rw[e2] at HS;clear he;go_wp2;go_roundw
         case rel=>exact⟨i+1,by omega,by go_num,by rw[HS.out];rfl,by trivial⟩
         case measure=>simp[intOf];omega
        ·have e2:(h==(x:Int))=false:=beq_eq_false_iff_ne.2 he
         rw[e2] at HS;clear he;go_wp2;go_roundw
         case rel=>exact⟨i+1,by omega,by go_num,by rw[HS.out];rfl,by trivial⟩
         case measure=>simp[intOf];omega
     ·have nQ:i=k:=o_
      subst nQ;rw[HOA.out];have UA:=h_ (r1.out x);have UB:=h_ (Y2.out x (HWY.out x));generalize okC adj hd i (x:Int)=o at*
      cases o
      ·have HX:=h_ (UA.out rfl)
       have FO:=h_ (Qf HP.out HX.out);go_wp2;go_roundw
       case rel=>exact⟨x+1,by omega,by go_num,FO,HB.out⟩
       case measure=>simp[intOf];omega
      ·have HX:=h_ (UB.out rfl)
       have Hi:Below wr.heap.size wr (wr.alloc (.cells #[] 3)):=bel_
       go_wp2_with (at_builtin;refine zQ rfl _ _ _ rfl wr.heap.size 3 i0 (.int .i64 0) 1 8 Tryz.underlying31 hi iz0 iz1 iz2 rfl (by decide) (.slice (some ⟨wr.heap.size,0,none⟩) 0 0) (.slice Ah i ch) 0 hd.length [] (hd.map vI) rfl rfl (zN (aaa _) rfl) (RI.below HH.out (HB.out.trans (Hi.mono o_))) (yg hd) (by have:=Y3.out;omega) (by decide) (by simp) ?_)
       intro A2 c2 w4 gz Gf _;have H5:Below wr.heap.size wr w4:=Hi.grown Gf (by simp) (fun q hq=>by cases hq;exact aaa _);have UC:OwnI wr.heap.size w4 (.slice A2 hd.length c2) hd:=by unfold OwnI;simpa using gz
       have BA:=H5.size;clear gz Gf Hi
       go_wp2_with (at_builtin;refine qi rfl _ _ rfl wr.heap.size (.slice A2 hd.length c2) hd (x:Int) rfl w4.heap.size rfl (j9 rfl) (UC.alloc _) (by have:=Y3.out;omega) (by simp;omega) ?_)
       intro v5 w5 fk Cb _;have gk:Below wr.heap.size wr w5:=(H5.alloc BA (.cells #[.int .i64 x] 3)).grown Cb (by simp;omega) (fun q hq=>by have:=(UC.lt q hq).1;omega);have H8:=HB.out.trans (gk.mono HB.out.size);have HC:=h_ (HIH.out (hd++[(x:Int)]) v5 w5 (by have:=HLR.out;simp;omega) (HA.out.below H8) fk.reads);have fY:=h_ H8;clear UC Cb H5 fk H8 gk
       go_wp2_with fail
       refine HC.out.mono ?_
       rw[<-HX.out];rintro e w6 ⟨v6,rfl,fh,gJ⟩;have Nk:=h_ (fY.out.trans (gJ.mono fY.out.size));have Cm:=h_ (OwnI.mono fh (fY.out.size));clear fh gJ HC;obtain⟨oo,Y5⟩:∃o,srF adj (noW F) n r hd x=o:=⟨_,rfl⟩;rw[Y5] at Cm⊢
       cases oo with
       |none=>
        have FO:=h_ (Qf HP.out Y5);clear Y5;go_wp2;go_roundw
        case rel=>exact⟨x+1,by omega,by go_num,FO,Nk.out⟩
        case measure=>simp[intOf];omega
       |some L=>
        have HR:=h_ (HHI.out x L Hf HP.out Y5);clear Y5;go_wp2;exact bodyPost_ret (v:= .tuple #[v6,.bool true]) (by simp[results,Tryz.results180,go_sem]) rfl ⟨_,by rw[HR.out];rfl,by rw[HR.out];exact Cm.out,Nk.out⟩
   ·have hxx:x=n:=o_
    subst hxx;have HR:=h_ (HMI.out HP.out);have HO:Hid (OwnI w.heap.size (wr.alloc (.cells #[] 3)) (.slice (some ⟨wr.heap.size,0,none⟩) 0 0) []):=h_ (OwnI.made rfl o_);have H9:=h_ (hB.alloc hB.size (.cells #[] 3));clear hB;go_wp2;exact bodyPost_ret (v:= .tuple #[.slice (some ⟨wr.heap.size,0,none⟩) 0 0,.bool false]) (by simp[results,Tryz.results180,go_sem]) rfl ⟨_,by rw[HR.out];rfl,by rw[HR.out];exact HO.out,H9.out⟩
def Tw (bC gO:Nat) (k:Nat):Prop:=k=bC∨k=gO
structure Fx (bC gO:Nat) (w:World) (g o:Nat) (v:Value):Prop where
 lt:g<w.heap.size
 nc:g≠bC
 no:g≠gO
 at_:w.cell? ⟨g,o,none⟩=some v
theorem Fx.turned {bC gO:Nat} {w w':World} {g o:Nat} {v:Value} (h:Fx bC gO w g o v) (ht:Turns (Tw bC gO) w w'):Fx bC gO w' g o v:=
 ⟨aaD h.lt ht.size,h.nc,h.no,(jJ (ht.block g h.lt (fun e=>e.elim h.nc h.no))).trans h.at_⟩
theorem z6s (v:Value) (L:List Int) (gO:Nat) (w:World) (h:RI w v L) (hle:L.length<=40) (hO:Blk w gO 31 #[.slice none 0 0]):
  Calls Tryz.prog 237 #[v,.pointer (some ⟨gO,0,none⟩)] w fun e w'=>e= .returned (.bool true)/\∃u,Blk w' gO 31 #[u]/\OwnI w.heap.size w' u L/\w.grownBy w' (some gO):=by
 have hOl:=hO.lt;have HO:=h_ hO
 go_enter Tryz.func237,Tryz.ntmps237
 go_wp2_with fail
 refine(ku v L _ h o_).mono ?_
 rintro e w1 ⟨u,rfl,Hj,Hb⟩;obtain⟨Au,cu,rfl⟩:=OwnE.form (t:=3) (enc:=vI) Hj;have Gt:=HO.out.below Hb hOl;have q0:w1.cell? ⟨gO,0,none⟩=some (.slice none 0 0):=Gt.cell 0;have q1:w1.frozen? ⟨gO,0,none⟩=false:=Gt.frozen 0;have HB:=h_ (Gt.set_ 0 (.slice Au L.length cu));have HL:=h_ (OwnI.far Hj (qv (qu w1 (some gO)) 0 (.slice Au L.length cu)) (fun k hk=>by cases hk;exact hOl));have HG:=h_ (qv (g:=gO) (yM (qu w (some gO)) Hb) 0 (.slice Au L.length cu));go_wp2;go_ret
 exact⟨rfl,_,HB.out,HL.out,HG.out⟩
structure PutI (bC gO gC gT gN gW gA gP bW oW cW bA oA cA F n:Nat) (near:Nat->Nat) (w:World):Prop where
 C:Fx bC gO w gC 0 (.slice (some ⟨bC,0,none⟩) F F)
 T:Fx bC gO w gT 0 (.func (.func 237) #[] #[.pointer (some ⟨gO,0,none⟩)])
 N:Fx bC gO w gN 0 (.int .i64 n)
 W:Fx bC gO w gW 0 (.slice (some ⟨bW,oW,none⟩) F cW)
 A:Fx bC gO w gA 0 (.slice (some ⟨bA,oA,none⟩) F cA)
 P:Fx bC gO w gP 0 (.func (.func 257) #[] #[.pointer (some ⟨gC,0,none⟩),.pointer (some ⟨gT,0,none⟩),.pointer (some ⟨gN,0,none⟩),.pointer (some ⟨gW,0,none⟩),.pointer (some ⟨gA,0,none⟩),.pointer (some ⟨gP,0,none⟩)])
 w_:∀k,k<F->Fx bC gO w bW (oW+k) (.int .i64 (-1))
 a_:∀k,k<F->Fx bC gO w bA (oA+k) (.int .i64 (near k:Nat))
theorem PutI.turned {bC gO gC gT gN gW gA gP bW oW cW bA oA cA F n:Nat} {near:Nat->Nat} {w w':World} (h:PutI bC gO gC gT gN gW gA gP bW oW cW bA oA cA F n near w) (ht:Turns (Tw bC gO) w w'):
  PutI bC gO gC gT gN gW gA gP bW oW cW bA oA cA F n near w':=
 ⟨h.C.turned ht,h.T.turned ht,h.N.turned ht,h.W.turned ht,h.A.turned ht,h.P.turned ht,fun k hk=>(h.w_ k hk).turned ht,fun k hk=>(h.a_ k hk).turned ht⟩
def PutQ (base bC gO F:Nat) (hd:List Int) (o:Option (List Int)) (w:World) (e:Ending) (w':World):Prop:=
 ∃b:Bool,e= .returned (.bool b)/\Turns (Tw bC gO) w w'/\(∃cs,OwnI base w' (.slice (some ⟨bC,0,none⟩) F F) cs/\cs.take hd.length=hd)/\
  ((b=false/\o=none/\Blk w' gO 31 #[.slice none 0 0])∨(b=true/\∃L u,o=some L/\Blk w' gO 31 #[u]/\OwnI w.heap.size w' u L))
theorem z6B {cs hd:List Int} (h:cs.take hd.length=hd) {i:Nat} (hi:i<hd.length):cs.getD i 0=hd.getD i 0:=by
 rw[<-h,aa6,aa6,List.getElem?_take];rw[aao hi]
theorem z88 {cs hd:List Int} (h:cs.take hd.length=hd) (hl:hd.length<cs.length) (x:Int):(cs.set hd.length x).take (hd++[x]).length =hd++[x]:=by
 rw[aaW,aa8,aax (by simpa using hl)];rw[List.take_set_of_le (aaa _),h];simp
theorem z6j {cs hd:List Int} {x:Int} (h:cs.take (hd++[x]).length =hd++[x]):cs.take hd.length=hd:=by
 have e:=congrArg (List.take hd.length) h;rw[List.take_take,aaW,aa8,Nat.min_eq_left o_,List.take_left'] at e
 ·exact e
 ·rfl
theorem z8Q (base bC gO gC gT gN gW gA gP bW oW cW bA oA cA F n:Nat) (near:Nat->Nat) (adj:Nat->Nat->Bool) (Nl:∀g f,g<F->f<F->(near f).testBit g=adj g f) (Hf:∀f,f<F->near f<2^40) (hF:F<=40) (hn:n<=6) (hCO:bC≠gO):
  ∀(r:Nat) (hd cs:List Int) (z:Int) (w:World),z=hd.length->hd.length+r=F->PutI bC gO gC gT gN gW gA gP bW oW cW bA oA cA F n near w->OwnI base w (.slice (some ⟨bC,0,none⟩) F F) cs->cs.take hd.length=hd->Blk w gO 31 #[.slice none 0 0]->
   Calls Tryz.prog 257 #[.int .i64 z,.pointer (some ⟨gC,0,none⟩),.pointer (some ⟨gT,0,none⟩),.pointer (some ⟨gN,0,none⟩),.pointer (some ⟨gW,0,none⟩),.pointer (some ⟨gA,0,none⟩),.pointer (some ⟨gP,0,none⟩)] w
    (PutQ base bC gO F hd (srch adj (noW F) n r hd) w):=by
 intro r
 induction r with
 |zero=>
  intro hd cs z w hz hl hP hC Fm hO;subst hz;have hlc:cs.length=F:=by have:=OwnE.len (t:=3) (enc:=vI) hC;omega
  have uE:cs=hd:=by
   rw[show hd.length=cs.length by omega,aaA] at Fm;exact Fm
  subst uE;have HR:Hid (srch adj (noW F) n 0 cs=some cs):=h_ rfl;have c0:=hP.C.at_;have c1:=hP.T.at_;have HT:=h_ (z6s _ cs gO w hC.reads o_ hO);have HC:=h_ hC;clear hP hO hC Nl Hf Fm
  go_enter Tryz.func257,Tryz.ntmps257
  go_wp2_with fail
  refine HT.out.mono ?_
  rintro e w1 ⟨rfl,u,Gt,Hj,gL⟩;have YR:=h_ (yQ (S:=fun k=>k=gO) HC.out (Turns.ofGrown gL (fun k hk=>by cases hk;rfl)) (fun k hk e=>by cases hk;exact hCO e));have HQ:Hid (Turns (Tw bC gO) w w1):=h_ (Turns.ofGrown gL (fun k hk=>by cases hk;exact .inr rfl));have mD:=h_ Gt;have Ho1:=h_ Hj;clear Gt Hj gL;go_wp2;go_ret
  exact⟨true,rfl,HQ.out,⟨cs,YR.out,aaA⟩,.inr ⟨rfl,cs,u,HR.out,mD.out,Ho1.out⟩⟩
 |succ r ih=>
  intro hd cs z w hz hl hP hC Fm hO;obtain⟨k,hk⟩:∃k,hd.length=k:=⟨_,rfl⟩;have Mr:k<F:=o_
  have e1:((k:Int)==(F:Int))=false:=beq_eq_false_iff_ne.2 o_;have r1:=h_ (fun (x:Nat) h=>z80 (adj:=adj) (gv:=noW F) (n:=n) (r:=r) (hd:=hd) (x:=x) h);have Y2:=h_ (fun (x:Nat) h1 h2=>z6C (adj:=adj) (gv:=noW F) (n:=n) (r:=r) (hd:=hd) (x:=x) h1 h2);have HHI:=h_ (fun (x:Nat) (L:List Int) hx hp h=>z2x (adj:=adj) (gv:=noW F) (n:=n) (r:=r) (hd:=hd) (L:=L) (x:=x) hx hp h);have HMI:=h_ (fun hp=>z0n (adj:=adj) (gv:=noW F) (n:=n) (r:=r) (hd:=hd) hp);have uI:=h_ (fun (x:Int) (i:Nat)=>z2h (adj:=adj) (hd:=hd) (k:=k) (x:=x) (i:=i));have HOA:Hid (∀x:Int,okP adj hd k x k=okC adj hd k x):=h_ (fun _=>rfl);have uT:Hid (∀x:Int,okP adj hd k x 0=true):=h_ (fun _=>rfl);have HWY:Hid (∀x:Int,Jd (noW F) k x=true):=h_ (fun x=>z7S Mr);have HTG:=h_ (fun (cs:List Int) (h:cs.take hd.length=hd) (i:Nat) (hi:i<hd.length)=>z6B h hi);have Rs:=h_ (fun (cs:List Int) (h:cs.take hd.length=hd) (hl:hd.length<cs.length) (x:Int)=>z88 h hl x);have HTL:=h_ (fun (cs:List Int) (x:Int) (h:cs.take (hd++[x]).length =hd++[x])=>z6j h);have HLX:Hid (∀x:Int,(hd++[x]).length =k+1):=h_ (fun x=>by simp[hk]);have HIH:=h_ ih;have HLR:Hid (∀x:Int,(hd++[x]).length +r=F):=h_ (fun x=>by simp;omega)
  have HP:=h_ hP;have ND:=h_ (fun i (hi:i<F)=>Nl i k hi Mr);have hnk:=Hf k Mr;have Y3:=h_ hk;unfold PutQ;rw[hk] at r1 Y2 HTG Rs HTL;rw[hz,hk];generalize srch adj (noW F) n (r+1) hd=RR at*;have vT:cs.take k=hd:=by rw[<-hk];exact Fm
  clear hP ih hl Fm Nl Hf hz;have ik1:(0:Int)<=(k:Int):=o_
  have ik2:(k:Int)<(F:Int):=o_
  have c0:=HP.out.C.at_
  go_enter Tryz.func257,Tryz.ntmps257
  go_wp2;clear c0
  go_loopw [9] (fun s wr=>∃x:Nat,x<=n/\s= .int .i64 x/\Hid (∀y,y<x->srF adj (noW F) n r hd y=none)/\Turns (Tw bC gO) w wr/\(∃cs,OwnI base wr (.slice (some ⟨bC,0,none⟩) F F) cs/\Hid (cs.take k=hd))/\Blk wr gO 31 #[.slice none 0 0]) (fun s _=>n -(intOf s).toNat)
  case atStart=>exact⟨0,aab _,rfl,h_ (fun y hy=>absurd hy o_),Turns.refl _ _,⟨cs,hC,h_ vT⟩,hO⟩
  case round=>
   clear hC hO vT;obtain⟨x,hxn,rfl,rh,ht,⟨ds,hC,HCS⟩,hO⟩:=hrel;have B8:=HP.out.turned ht;have c0:=B8.C.at_;have c2:=B8.N.at_;have c3:=B8.W.at_;have c4:=B8.A.at_;have c5:=B8.P.at_;have l0:=B8.C.lt;have l2:=B8.N.lt;have l3:=B8.W.lt;have l4:=B8.A.lt;have l5:=B8.P.lt;have w1:=(B8.w_ k Mr).at_;have w2:=(B8.w_ k Mr).lt;have a1:=(B8.a_ k Mr).at_;have a2:=(B8.a_ k Mr).lt;have hlc:ds.length=F:=by have:=OwnE.len (t:=3) (enc:=vI) hC;omega
   have hCl:=(OwnI.lt hC bC rfl).2
   by_cases Hf:x<n
   ·have Hu:(x:Int)<(n:Int):=o_
    have Fk:=h_ hC;have HOO:=h_ hO;have HTT:=h_ ht;have MJ:=h_ B8;clear hC hO ht B8;go_wp2;obtain⟨wq,cD⟩:∃u,u=wr:=⟨_,rfl⟩;rw[<-cD]
    go_loopw [10,11] (fun s t w2=>∃i:Nat,i<=k/\t= .int .i64 i/\s= .bool (okP adj hd k x i)/\w2=wr) (fun _ t _=>k -(intOf t).toNat)
    case atStart=>exact⟨0,aab _,rfl,by rw[uT.out],cD⟩
    case round=>
     clear cD wq;obtain⟨i,Rx,rfl,rfl,rfl⟩:=hrel
     by_cases FH:i<k
     ·have Uz:(i:Int)<(k:Int):=o_
      have ii1:(0:Int)<=(i:Int):=o_
      have ii2:(i:Int)<(F:Int):=o_
      have x0:=OwnE.cell (t:=3) (enc:=vI) Fk.out 0 (q:=i) o_;rw[HTG.out ds HCS.out i FH] at x0;have x0':wr.cell? ⟨bC,i,none⟩=some (.int .i64 (hd.getD i 0)):=x0;have bt:=Zj (s:=near k) (k:=i) o_;rw[ND.out i o_] at bt;have h64:i<64:=o_
      have HS:=h_ (uI.out x i);clear x0;generalize adj i k=a at*;generalize hd.getD i 0=h at*;generalize okP adj hd k x i=o at*;generalize near k=nk at*
      cases o
      ·clear bt
       go_wp2;go_roundw
       case rel=>exact⟨i+1,by omega,by go_num,by rw[HS.out];rfl,by trivial⟩
       case measure=>simp[intOf];omega
      ·cases a
       ·have bt':bits .and .i64 ((nk:Int)/2^i) 1=0:=bt
        clear bt;go_wp2;go_roundw
        case rel=>exact⟨i+1,by omega,by go_num,by rw[HS.out];rfl,by trivial⟩
        case measure=>simp[intOf];omega
       ·have bt':bits .and .i64 ((nk:Int)/2^i) 1=1:=bt
        clear bt
        by_cases he:h=(x:Int)
        ·have e2:(h==(x:Int))=true:=beq_iff_eq.2 he
         have e3:(h != (x:Int))=false:=by rw[bne,e2];rfl
         rw[e2] at HS;clear he;go_wp2;go_roundw
         case rel=>exact⟨i+1,by omega,by go_num,by rw[HS.out];rfl,by trivial⟩
         case measure=>simp[intOf];omega
        ·have e2:(h==(x:Int))=false:=beq_eq_false_iff_ne.2 he
         have e3:(h != (x:Int))=true:=by rw[bne,e2];rfl
         rw[e2] at HS;clear he;go_wp2;go_roundw
         case rel=>exact⟨i+1,by omega,by go_num,by rw[HS.out];rfl,by trivial⟩
         case measure=>simp[intOf];omega
     ·have nQ:i=k:=o_
      subst nQ;rw[HOA.out];have UA:=h_ (r1.out x);have UB:=h_ (Y2.out x (HWY.out x));generalize okC adj hd i (x:Int)=o at*
      cases o
      ·have HX:=h_ (UA.out rfl)
       have FO:=h_ (Qf rh.out HX.out);go_wp2;go_roundw
       case rel=>exact⟨x+1,by omega,by go_num,FO,HTT.out,⟨ds,Fk.out,HCS⟩,HOO.out⟩
       case measure=>simp[intOf];omega
      ·have HX:=h_ (UB.out rfl)
       have RE:=kj Fk.out i x;have NS:Turns (Tw bC gO) wr (wr.setCell ⟨bC,i,none⟩ (.int .i64 x)):=Turns.ofGrown (qv (g:=bC) (qu wr (some bC)) i (.int .i64 x)) (fun k hk=>by cases hk;exact .inl rfl);have CW:Blk (wr.setCell ⟨bC,i,none⟩ (.int .i64 x)) gO 31 #[.slice none 0 0]:=HOO.out.far (p:=⟨bC,i,none⟩) (show gO≠bC from fun e=>hCO e.symm) _;have hP2:=MJ.out.turned NS;have ma:=h_ (HIH.out (hd++[(x:Int)]) (ds.set i x) ((i:Int)+1) (wr.setCell ⟨bC,i,none⟩ (.int .i64 x)) (by rw[HLX.out];omega) (HLR.out _) hP2 RE (Rs.out ds HCS.out o_ x) CW);have Wb:=h_ (HTT.out.trans NS);have fz:=OwnE.frz (t:=3) (enc:=vI) Fk.out i;have xz:=OwnE.cell (t:=3) (enc:=vI) Fk.out 0 (q:=i) o_;obtain⟨zz,ux⟩:∃z,wr.cell? ⟨bC,i,none⟩=some z:=⟨_,xz⟩;have d5:¬gP=bC:=MJ.out.P.nc;clear RE NS CW hP2 xz
       go_wp2_with fail
       refine ma.out.mono ?_
       rintro e w5 ⟨b,rfl,ht5,⟨es,Wx,hes⟩,h5⟩;have HES:=h_ (HTL.out es x hes);have HT5:=h_ (Wb.out.trans ht5)
       rcases h5 with ⟨rfl,hn5,Br⟩|⟨rfl,L,u,hL5,Br,hu5⟩
       ·have HP3:=h_ (Qf rh.out (HX.out.trans hn5))
        have rP:=h_ Wx;have C7:=h_ Br;clear Wx Br ht5 hes ma;go_wp2;go_roundw
        case rel=>exact⟨x+1,by omega,by go_num,HP3,HT5.out,⟨es,rP.out,HES⟩,C7.out⟩
        case measure=>simp[intOf];omega
       ·have HR:=h_ (HHI.out x L Hf rh.out (HX.out.trans hL5))
        have rP:=h_ Wx;have C7:=h_ Br;have HU5:=h_ (OwnI.mono hu5 (show w.heap.size<=(wr.setCell ⟨bC,i,none⟩ (.int .i64 x)).heap.size from Wb.out.size));clear Wx Br ht5 hes hu5 ma;go_wp2;go_ret
        exact⟨true,rfl,HT5.out,⟨es,rP.out,HES.out⟩,.inr ⟨rfl,L,u,HR.out,C7.out,HU5.out⟩⟩
   ·have hxx:x=n:=o_
    subst hxx;have HR:=h_ (HMI.out rh.out);have HQ:Hid (PutQ base bC gO F hd RR w (.returned (.bool false)) wr):=h_ ⟨false,rfl,ht,⟨ds,hC,by have:=HCS.out;rw[Y3.out];exact this⟩,.inl ⟨rfl,HR.out,hO⟩⟩;clear hC hO ht B8;go_wp2;go_ret
    have:=HQ.out;unfold PutQ at this;rw[Y3.out] at this;exact this
attribute [local go_sem ↓] zr zq zU zT
def V8 (ns:List Pr) (x y:Int):List Pr:=ns++[(x,y)]
def Qq (ns ls:List Pr) (k:Nat):List Pr:=(ls++[((ndI ls k).2,(ns.length:Int))]).set k ((ndI ls k).1,(ns.length:Int))
noncomputable def splB (ns ls:List Pr) (k:Nat) (x y:Int):Bool:=jh (ndI ns (ndI ls k).1) (ndI ns (ndI ls k).2) (x,y)&&winB (V8 ns x y) (Qq ns ls k)
noncomputable def splN (ns ls:List Pr) (k:Nat) (x y:Int):List Pr:=if splB ns ls k x y then V8 ns x y else ns
noncomputable def splL (ns ls:List Pr) (k:Nat) (x y:Int):List Pr:=if splB ns ls k x y then Qq ns ls k else ls
theorem QW {ns ls:List Pr} {k:Nat} {x y:Int} (h:splB ns ls k x y=true):splN ns ls k x y=V8 ns x y/\splL ns ls k x y=Qq ns ls k:=by simp[splN,splL,h]
theorem Qz {ns ls:List Pr} {k:Nat} {x y:Int} (h:splB ns ls k x y=false):splN ns ls k x y=ns/\splL ns ls k x y=ls:=by simp[splN,splL,h]
theorem z8W {ns ls:List Pr} (h:zC ns ls) (k:Nat) (x y:Int):zC (splN ns ls k x y) (splL ns ls k x y):=by
 cases hb:splB ns ls k x y
 ·rw[(Qz hb).1,(Qz hb).2];exact h
 ·rw[(QW hb).1,(QW hb).2]
  unfold splB at hb;rw[aaG] at hb;exact zu.1 hb.2
theorem z6r (ns ls:List Pr) (k:Nat) (x y:Int):ls.length<=(splL ns ls k x y).length :=by
 cases hb:splB ns ls k x y
 ·rw[(Qz hb).2];omega
 ·rw[(QW hb).2];simp[Qq]
theorem z0z:∀(l:List (Int×Int)) (k:Nat) (y:Int) (hk:k<l.length),(l.set k (l[k].1,y)).flatMap prc=(l.flatMap prc).set (k*2+1) (.int .i64 y)
 | [],k,y,h=>absurd h (by simp)
 |a::l,0,y,h=>by simp[prc]
 |a::l,k+1,y,h=>by
  have ih:=z0z l k y (by simpa using h);have e:(k+1)*2+1=(k*2+1)+1+1:=o_
  rw[aap,aam,aam,e];simp only[List.getElem_cons_succ]
  rw[ih];simp[prc]
theorem OwnP.set2 {t:TypeId} {base:Nat} {w:World} {g n cap:Nat} {G:List (Int×Int)} (h:OwnP t base w (.slice (some ⟨g,0,none⟩) n cap) G) {q:Nat} (hq:q<G.length) (y:Int):
  OwnP t base (w.setCell ⟨g,q*2+1,none⟩ (.int .i64 y)) (.slice (some ⟨g,0,none⟩) n cap) (G.set q (G[q].1,y)):=by
 have e:=h.len;subst e;have ho:w.ownsRow base t 2 (.slice (some ⟨g,0,none⟩) G.length cap) G.length (G.flatMap prc):=h;have:=(ho.stored (q*2+1) (.int .i64 y)).1;unfold OwnP;rw[aar,z0z G q y hq];exact this
structure SpSt (w:World) (vn vl:Value) (x y:Int) (T:Nat) (An:Option Addr) (cn:Nat) (Al:Option Addr) (cl:Nat) (N L:List Pr) (wr:World):Prop where
 A:Blk wr w.heap.size 27 #[vn,vl]
 P:Blk wr (w.heap.size+1) 106 #[.int .i64 x,.int .i64 y]
 R:Blk wr (w.heap.size+1+1) 27 #[.slice none 0 0,.slice none 0 0]
 T_:Blk wr T 27 #[.slice An N.length cn,.slice Al L.length cl]
 own:OwnW (w.heap.size+1+1+1) wr (.slice An N.length cn) (.slice Al L.length cl) N L
 lt:w.heap.size+1+1<T
 far:∀b,zp (.slice An N.length cn) (.slice Al L.length cl) b->¬b=T
 blw:Below w.heap.size w wr
section
variable {w:World} {vn vl:Value} {x y:Int} {T:Nat} {An:Option Addr} {cn:Nat} {Al:Option Addr} {cl:Nat} {N L:List Pr} {wr w':World}
theorem SpSt.below (h:SpSt w vn vl x y T An cn Al cl N L wr) (hb:Below wr.heap.size wr w'):SpSt w vn vl x y T An cn Al cl N L w':=
 ⟨h.A.below hb h.A.lt,h.P.below hb h.P.lt,h.R.below hb h.R.lt,h.T_.below hb h.T_.lt,h.own.kept hb,h.lt,h.far,h.blw.trans (hb.mono h.blw.size)⟩
theorem SpSt.alloc (h:SpSt w vn vl x y T An cn Al cl N L wr) (o:Obj):SpSt w vn vl x y T An cn Al cl N L (wr.alloc o):=h.below ((aaj _ _).alloc (aaa _) o)
theorem SpSt.drew (h:SpSt w vn vl x y T An cn Al cl N L wr):SpSt w vn vl x y T An cn Al cl N L wr.drew:=h.below (aaj _ _).drew
theorem SpSt.putN (h:SpSt w vn vl x y T An cn Al cl N L wr) {A':Option Addr} {c' n:Nat} {N':List Pr} (hn:n=N'.length) (ho:OwnP 106 (w.heap.size+1+1+1) w' (.slice A' n c') N')
  (hg:wr.grownBy w' (Value.slice An N.length cn).ownBlock) (hv:(Value.slice A' n c').ownBlock =(Value.slice An N.length cn).ownBlock ∨(Value.slice A' n c').ownBlock =some wr.heap.size):
  SpSt w vn vl x y T A' c' Al cl N' L (w'.setCell ⟨T,0,none⟩ (.slice A' n c')):=by
 subst hn;have hT:=h.T_.lt;have Hf:=h.own.lt;have Hw:∀k,(Value.slice An N.length cn).ownBlock =some k->w.heap.size+1+1+1<=k/\¬k=T:=fun k hk=>⟨(Hf k (.inl hk)).1,h.far k (.inl hk)⟩
 have Fv:∀k,(Value.slice A' N'.length c').ownBlock =some k->(w.heap.size+1+1+1<=k/\¬k=T)/\¬(Value.slice Al L.length cl).ownBlock =some k:=fun k hk=>by
  rcases hv with hv|hv
  ·exact⟨Hw k (hv▸hk),fun e=>h.own.2.2 k (hv▸hk) e⟩
  ·rw[hv] at hk;cases hk
   exact⟨by have:=h.lt;omega,fun e=>by have:=(Hf _ (.inr e)).2;omega⟩
 have Gq:=h.own.2.1.apart hg (fun k hk gU=>h.own.2.2 k gU hk);have Wd:OwnW (w.heap.size+1+1+1) w' (.slice A' N'.length c') (.slice Al L.length cl) N' L:=⟨ho,Gq,fun k hk gU=>(Fv k hk).2 gU⟩;have vZ:=h.lt
 refine⟨(h.A.grownR hg (fun k hk=>by have:=(Hw k hk).1;omega)).far (p:=⟨T,0,none⟩) (show w.heap.size≠T by omega) _,(h.P.grownR hg (fun k hk=>by have:=(Hw k hk).1;omega)).far (p:=⟨T,0,none⟩) (show w.heap.size+1≠T by omega) _,
  (h.R.grownR hg (fun k hk=>by have:=(Hw k hk).1;omega)).far (p:=⟨T,0,none⟩) (show w.heap.size+1+1≠T by omega) _,(h.T_.grownR hg (fun k hk=>(Hw k hk).2)).set_ 0 _,
  Wd.setFar (p:=⟨T,0,none⟩) (fun hk=>?_) _,vZ,fun b hb=>?_,(h.blw.grown hg h.blw.size (fun k hk=>by have:=(Hw k hk).1;omega)).setCell (p:=⟨T,0,none⟩) (show w.heap.size<=T by omega) _⟩
 ·rcases hk with hk|hk
  ·exact(Fv T hk).1.2 rfl
  ·exact h.far T (.inr hk) rfl
 ·rcases hb with hb|hb
  ·exact(Fv b hb).1.2
  ·exact h.far b (.inr hb)
theorem SpSt.putL (h:SpSt w vn vl x y T An cn Al cl N L wr) {A':Option Addr} {c' n:Nat} {L':List Pr} (hn:n=L'.length) (ho:OwnP 108 (w.heap.size+1+1+1) w' (.slice A' n c') L')
  (hg:wr.grownBy w' (Value.slice Al L.length cl).ownBlock) (hv:(Value.slice A' n c').ownBlock =(Value.slice Al L.length cl).ownBlock ∨(Value.slice A' n c').ownBlock =some wr.heap.size):
  SpSt w vn vl x y T An cn A' c' N L' (w'.setCell ⟨T,1,none⟩ (.slice A' n c')):=by
 subst hn;have hT:=h.T_.lt;have Hf:=h.own.lt;have Hw:∀k,(Value.slice Al L.length cl).ownBlock =some k->w.heap.size+1+1+1<=k/\¬k=T:=fun k hk=>⟨(Hf k (.inr hk)).1,h.far k (.inr hk)⟩
 have Fv:∀k,(Value.slice A' L'.length c').ownBlock =some k->(w.heap.size+1+1+1<=k/\¬k=T)/\¬(Value.slice An N.length cn).ownBlock =some k:=fun k hk=>by
  rcases hv with hv|hv
  ·exact⟨Hw k (hv▸hk),fun e=>h.own.2.2 k e (hv▸hk)⟩
  ·rw[hv] at hk;cases hk
   exact⟨by have:=h.lt;omega,fun e=>by have:=(Hf _ (.inl e)).2;omega⟩
 have Gq:=h.own.1.apart hg (fun k hk gU=>h.own.2.2 k hk gU);have Wd:OwnW (w.heap.size+1+1+1) w' (.slice An N.length cn) (.slice A' L'.length c') N L':=⟨Gq,ho,fun k hk gU=>(Fv k gU).2 hk⟩;have vZ:=h.lt
 refine⟨(h.A.grownR hg (fun k hk=>by have:=(Hw k hk).1;omega)).far (p:=⟨T,1,none⟩) (show w.heap.size≠T by omega) _,(h.P.grownR hg (fun k hk=>by have:=(Hw k hk).1;omega)).far (p:=⟨T,1,none⟩) (show w.heap.size+1≠T by omega) _,
  (h.R.grownR hg (fun k hk=>by have:=(Hw k hk).1;omega)).far (p:=⟨T,1,none⟩) (show w.heap.size+1+1≠T by omega) _,(h.T_.grownR hg (fun k hk=>(Hw k hk).2)).set_ 1 _,
  Wd.setFar (p:=⟨T,1,none⟩) (fun hk=>?_) _,vZ,fun b hb=>?_,(h.blw.grown hg h.blw.size (fun k hk=>by have:=(Hw k hk).1;omega)).setCell (p:=⟨T,1,none⟩) (show w.heap.size<=T by omega) _⟩
 ·rcases hk with hk|hk
  ·exact h.far T (.inl hk) rfl
  ·exact(Fv T hk).1.2 rfl
 ·rcases hb with hb|hb
  ·exact h.far b (.inl hb)
  ·exact(Fv b hb).1.2
theorem SpSt.setTo {g:Nat} (h:SpSt w vn vl x y T An cn (some ⟨g,0,none⟩) cl N L wr) {q:Nat} (hq:q<L.length) (z:Int):
  SpSt w vn vl x y T An cn (some ⟨g,0,none⟩) cl N (L.set q (L[q].1,z)) (wr.setCell ⟨g,q*2+1,none⟩ (.int .i64 z)):=by
 have Hf:=h.own.lt;have hg:=Hf g (.inr rfl);have hgT:=h.far g (.inr rfl);have vZ:=h.lt;have hl:=h.own.2.1.set2 hq z
 refine⟨h.A.far (p:=⟨g,q*2+1,none⟩) (show w.heap.size≠g by omega) _,h.P.far (p:=⟨g,q*2+1,none⟩) (show w.heap.size+1≠g by omega) _,h.R.far (p:=⟨g,q*2+1,none⟩) (show w.heap.size+1+1≠g by omega) _,
  by rw[aar];exact h.T_.far (p:=⟨g,q*2+1,none⟩) (fun e=>hgT e.symm) _,
  ⟨h.own.1.apart (jq wr ⟨g,q*2+1,none⟩ _) (fun k hk gU=>by cases gU;exact h.own.2.2 g hk rfl),by rw[aar];exact hl,h.own.2.2⟩,vZ,h.far,h.blw.setCell (p:=⟨g,q*2+1,none⟩) (show w.heap.size<=g by omega) _⟩
theorem SpSt.fin (h:SpSt w vn vl x y T An cn Al cl N L wr) (u0 u1:Value):
  OwnW w.heap.size ((wr.setCell ⟨w.heap.size+1+1,0,none⟩ u0).setCell ⟨w.heap.size+1+1,1,none⟩ u1) (.slice An N.length cn) (.slice Al L.length cl) N L/\
  Below w.heap.size w ((wr.setCell ⟨w.heap.size+1+1,0,none⟩ u0).setCell ⟨w.heap.size+1+1,1,none⟩ u1):=
 ⟨((h.own.setLow (p:=⟨w.heap.size+1+1,0,none⟩) (show w.heap.size+1+1<w.heap.size+1+1+1 by omega) u0).setLow (p:=⟨w.heap.size+1+1,1,none⟩) (show w.heap.size+1+1<w.heap.size+1+1+1 by omega) u1).mono o_,
  (h.blw.setCell (p:=⟨w.heap.size+1+1,0,none⟩) (show w.heap.size<=w.heap.size+1+1 by omega) u0).setCell (p:=⟨w.heap.size+1+1,1,none⟩) (show w.heap.size<=w.heap.size+1+1 by omega) u1⟩
end
theorem z7R (a b c:Pr) (x:Bool) (w:World) (h:jh a b c=x):
  Calls Tryz.prog 240 #[.agg #[.int .i64 a.1,.int .i64 a.2],.agg #[.int .i64 b.1,.int .i64 b.2],.agg #[.int .i64 c.1,.int .i64 c.2]] w
   fun e w'=>e= .returned (.bool x)/\Below w.heap.size w w':=by
 subst h;exact vA _ _ _ _ _ _ w
end Go.Proofs.YtnjcpljhmhdhkaaGreat
