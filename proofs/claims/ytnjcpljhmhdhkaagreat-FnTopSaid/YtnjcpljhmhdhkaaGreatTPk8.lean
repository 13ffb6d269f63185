/- part 8 -/
import Derived.Test.YtnjcpljhmhdhkaaGreatTPk7
import Derived.Deep.RegionHeld3
import Derived.StillTailTactics
set_option linter.unusedSimpArgs false
set_option linter.unusedVariables false
set_option maxRecDepth 100000
set_option maxHeartbeats 8000000
namespace Go.Proofs.YtnjcpljhmhdhkaaGreat
open Go.RowKit
attribute [local go_sem ↓] zU zT
def xn (a b x:Int):Int:=if x=mx2 a b then mn2 a b else x
def mgK (a b:Int) (g:List Int) (j:Nat):List Int:=(g.take j).map (xn a b)++g.drop j
theorem z6R (a b:Int) (g:List Int):mgK a b g 0=g:=by simp[mgK]
theorem z8y (a b:Int) (g:List Int):mgK a b g g.length=g.map (xn a b):=by simp[mgK]
theorem z4D (a b:Int) (g:List Int) (j:Nat):(mgK a b g j).length =g.length:=by
 simp[mgK];omega
theorem z4F (a b:Int) (g:List Int) (j:Nat) (h:j<g.length):(mgK a b g j).getD j 0=g.getD j 0:=by
 unfold mgK;rw[List.getD,abb (by simp;omega)];simp[List.getD,show min j g.length=j by omega]
theorem z2s (a b:Int) (g:List Int) (j:Nat) (h:j<g.length):mgK a b g (j+1)=(mgK a b g j).set j (xn a b (g.getD j 0)):=by
 unfold mgK;rw[aan,aaq (by simp;omega),aax h,aas h];have e:((g.take j).map (xn a b)).length =j:=by simp;omega
 rw[e,aae,aal,aaz,aaS,aaT,aay,List.singleton_append,show g.getD j 0=g[j] by simp[List.getD,h]]
theorem z8w {a b:Int} {g:List Int} {j:Nat} (h:j<g.length) (he:g.getD j 0=mx2 a b):mgK a b g (j+1)=(mgK a b g j).set j (mn2 a b):=by
 rw[z2s a b g j h,xn,aao he]
theorem z2O:∀(l:List Int) (j:Nat) (h:j<l.length),l.set j (l.getD j 0)=l
 |x::l,0,_=>rfl
 |x::l,j+1,h=>by
  have:=z2O l j (by simpa using h);simp only[List.getD_cons_succ,aap,this]
theorem z9P {a b:Int} {g:List Int} {j:Nat} (h:j<g.length) (he:¬g.getD j 0=mx2 a b):mgK a b g (j+1)=mgK a b g j:=by
 rw[z2s a b g j h,xn,aaq he,<-z4F a b g j h];exact z2O _ _ (by rw[z4D];exact h)
def pstep (g:List Int) (l:Pr):List Int:=g.map (xn (g.getD l.1.toNat 0) (g.getD l.2.toNat 0))
def zl (n:Nat) (ls:List Pr) (k:Nat):List Int:=(ls.take k).foldl pstep (natI (List.range n))
theorem xo:∀(l:List Pr) (g:List Int),(l.foldl pstep g).length =g.length
 | [],g=>rfl
 |p::l,g=>by rw[List.foldl_cons,xo l];simp[pstep]
theorem jg (n:Nat) (ls:List Pr) (k:Nat):(zl n ls k).length =n:=by
 unfold zl;rw[xo];simp[natI]
theorem J5 (n:Nat) (ls:List Pr):zl n ls 0=natI (List.range n):=rfl
theorem km (n:Nat) (ls:List Pr) (k:Nat) (h:k<ls.length) (p q:Nat) (hp:(ndI ls k).1=p) (hq:(ndI ls k).2=q):
  zl n ls (k+1)=(zl n ls k).map (xn ((zl n ls k).getD p 0) ((zl n ls k).getD q 0)):=by
 unfold zl;rw[aax h,List.foldl_append,List.foldl_cons,List.foldl_nil,pstep];have e:ls[k]=ndI ls k:=(qd ls k h).symm;rw[e,hp,hq,aa5,aa5]
theorem z5H (k:Nat):natI (List.range (k+1))=natI (List.range k)++[(k:Int)]:=by simp[natI,abe]
theorem X4 (vn vl:Value) (ns ls:List Pr) (w:World) (hn:RP w vn ns) (hl:RP w vl ls) (hm:ls.length<=20) (FG:ns.length<=12) (fX:0<ns.length) (Hr:∀j:Nat,j<ls.length->zt ns (ndI ls j)=true):
  Calls Tryz.prog 119 #[.agg #[vn,vl]] w (RetI (zl ns.length ls ls.length) w):=by
 obtain⟨An,cn,rfl,FQ,GW,_⟩:=hn.formI;obtain⟨Al,cl,rfl,Hz,GM,hcell⟩:=hl.formI;unfold maxLen at GW GM;obtain⟨i0,hi,iz0,iz1,iz2⟩:=info_parts qq;have Bg:=h_ Hr;have nH:=h_ hcell;clear Hr hcell
 go_enter Tryz.func119,Tryz.ntmps119
 go_wp2
 go_loopw [3,4] (fun v i wr=>∃k:Nat,k<=ns.length/\i= .int .i64 k/\OwnI (w.heap.size+1) wr v (natI (List.range k))/\Blk wr w.heap.size 27 #[.slice An ns.length cn,.slice Al ls.length cl]/\Below w.heap.size w wr) (fun _ i _=>ns.length -(intOf i).toNat)
 case atStart=>exact⟨0,aab _,rfl,OwnI.made (by simp) (by simp),(Blk.newAt rfl).alloc _,by exact bel_⟩
 case round=>
  obtain⟨k,hk,rfl,ho,hW,Hd⟩:=hrel;have gI:=hW.lt;obtain⟨a_0,a_1⟩:=hW.c2;obtain⟨A1,c1,Bi⟩:=ho.form;rw[za,abq] at Bi;subst Bi
  by_cases Hf:k<ns.length
  ·have HS:=h_ (z5H k)
   have Cg:Hid ((natI (List.range k)).length =k):=h_ (by simp[natI]);generalize natI (List.range k)=G at*
   go_wp2_with (at_builtin;refine wpList_append_own _ rfl _ _ 31 rfl (w.heap.size+1) 3 i0 (.int .i64 0) 1 8 Tryz.underlying31 hi iz0 iz1 iz2 rfl (by decide) _ _ _ rfl (World.ownsRow.alloc ho _) ⟨wr.heap.size,0,none⟩ 1 1 [.int .i64 _] rfl rfl (cell_one_new _ _ _) (by intro u hu;simp at hu;subst hu;rfl) (by rw[Cg.out];unfold maxLen;omega) (by rw[Cg.out];omega) (by simp;omega) ?_)
   intro v2 w2 fe gu Gr;have Hh:=(Hd.alloc (show w.heap.size<=wr.heap.size by omega) (.cells #[.int .i64 (k:Int)] 3)).grown gu (by simp;omega) (fun k hk=>by have:=(ho.lt k hk).1;omega);have gX:Blk w2 w.heap.size 27 #[.slice An ns.length cn,.slice Al ls.length cl]:=(gu.block _ (by simp;omega) (fun e=>by have:=(ho.lt _ e.symm).1;omega)).trans (hW.alloc _);have Hn:=h_ (OwnI.snoc fe);clear gu Gr fe ho hW Hd a_0 a_1;go_wp2;go_roundw
   case rel=>exact⟨k+1,by omega,by go_num,by rw[HS.out];exact Hn.out,gX,Hh⟩
   case measure=>simp[intOf];omega
  ·have gn:k=ns.length:=o_
   subst gn
   rcases F4:ho.2 with ⟨e0,e1⟩|⟨gb,cap,cur,e0,mo,Fs⟩
   ·rw[za,abq] at e1;omega
   clear F4 Fs
   injection e0 with e0 e1 e2
   subst e0 e2;clear e1;have Bj:=(ho.lt gb rfl).2;have Hv:¬gb=w.heap.size:=o_
   have FF:=h_ (show OwnI (w.heap.size+1) wr (.slice (some ⟨gb,0,none⟩) ns.length c1) (zl ns.length ls 0) from ho);clear ho Hf hk;go_wp2
   go_loopw [5] (fun i wr=>∃k:Nat,k<=ls.length/\i= .int .i64 k/\OwnI (w.heap.size+1) wr (.slice (some ⟨gb,0,none⟩) ns.length c1) (zl ns.length ls k)/\Blk wr w.heap.size 27 #[.slice An ns.length cn,.slice Al ls.length cl]/\Below w.heap.size w wr/\gb<wr.heap.size) (fun i _=>ls.length -(intOf i).toNat)
   case atStart=>exact⟨0,aab _,rfl,FF.out,hW,Hd,Bj⟩
   case round=>
    clear FF hW Hd Bj gI a_0 a_1;obtain⟨k,hk,rfl,ho,hW,Hd,Bj⟩:=hrel;obtain⟨a_0,a_1⟩:=hW.c2
    by_cases Hf:k<ls.length
    ·obtain⟨b,off,rfl,hb,Hz⟩:=nH.out o_
     obtain⟨k0,k1⟩:=Hz k Hf;have q0:=(Hd.cell (p:=⟨b,off+k*2,none⟩) hb).trans k0;have q1:=(Hd.cell (p:=⟨b,off+k*2+1,none⟩) hb).trans k1;obtain⟨h1,h2,h3,_⟩:=zZ.1 (Bg.out k Hf);obtain⟨p,hp⟩:∃p:Nat,(ndI ls k).1=p:=⟨(ndI ls k).1.toNat,by omega⟩;obtain⟨q,hq⟩:∃q:Nat,(ndI ls k).2=q:=⟨(ndI ls k).2.toNat,by omega⟩;have HS:=h_ (km ns.length ls k Hf p q hp hq);have Cg:=h_ (jg ns.length ls k);rw[hp] at q0 h1 h2;rw[hq] at q1 h2 h3;have hpn:p<ns.length:=o_
     have hqn:q<ns.length:=o_
     generalize zl ns.length ls k=G at*;have x0:=ho.cell (q:=p) (by rw[Cg.out];exact hpn);have x1:=ho.cell (q:=q) (by rw[Cg.out];exact hqn);obtain⟨a,ha⟩:∃a,G.getD p 0=a:=⟨_,rfl⟩;obtain⟨c,hc⟩:∃c,G.getD q 0=c:=⟨_,rfl⟩;rw[ha] at x0 HS;rw[hc] at x1 HS;have ip1:(0:Int)<=(p:Int):=o_
     have ip2:(p:Int)<(ns.length:Int):=o_
     have iq1:(0:Int)<=(q:Int):=o_
     have iq2:(q:Int)<(ns.length:Int):=o_
     have FF:=h_ (show OwnI (w.heap.size+1) wr (.slice (some ⟨gb,0,none⟩) ns.length c1) (mgK a c G 0) by rw[z6R];exact ho);clear Hz k0 k1 hp hq ha hc ho h1 h2 h3;go_wp2
     go_loopw [8] (fun x wr=>∃j:Nat,j<=ns.length/\x= .int .i64 j/\OwnI (w.heap.size+1) wr (.slice (some ⟨gb,0,none⟩) ns.length c1) (mgK a c G j)/\Blk wr w.heap.size 27 #[.slice An ns.length cn,.slice (some ⟨b,off,none⟩) ls.length cl]/\Below w.heap.size w wr/\gb<wr.heap.size) (fun x _=>ns.length -(intOf x).toNat)
     case atStart=>exact⟨0,aab _,rfl,FF.out,hW,Hd,Bj⟩
     case round=>
      clear FF hW Hd Bj a_0 a_1 q0 q1 x0 x1;obtain⟨j,hj,rfl,ho,hW,Hd,Bj⟩:=hrel;obtain⟨a_0,a_1⟩:=hW.c2
      by_cases hlj:j<ns.length
      ·have hjg:j<G.length:=by rw[Cg.out];exact hlj
       have x0:=ho.cell (q:=j) (by rw[z4D];exact hjg);rw[z4F a c G j hjg] at x0;have HY:=h_ (fun he=>z8w (a:=a) (b:=c) hjg he);have HN:=h_ (fun he=>z9P (a:=a) (b:=c) hjg he);generalize G.getD j 0=x at*
       by_cases he:x=mx2 a c
       ·have e1:(x==mx2 a c)=true:=beq_iff_eq.2 he
        have fp:=ho.frz j;have HO:=h_ (show OwnI (w.heap.size+1) (wr.setCell ⟨gb,j,none⟩ (.int .i64 (mn2 a c))) (.slice (some ⟨gb,0,none⟩) ns.length c1) (mgK a c G (j+1)) by rw[HY.out he];exact ho.set_ j _);have CT:=h_ (Hd.setCell (p:=⟨gb,j,none⟩) (show w.heap.size<=gb by omega) (.int .i64 (mn2 a c)));have C0:=h_ (hW.far (p:=⟨gb,j,none⟩) (Ne.symm Hv) (.int .i64 (mn2 a c)));clear ho hW Hd he a_0 a_1;go_wp2;go_roundw
        case rel=>exact⟨j+1,by omega,by go_num,HO.out,C0.out,CT.out,by simpa using Bj⟩
        case measure=>simp[intOf];omega
       ·have e1:(x==mx2 a c)=false:=beq_eq_false_iff_ne.2 he
        have HO:=h_ (show OwnI (w.heap.size+1) wr (.slice (some ⟨gb,0,none⟩) ns.length c1) (mgK a c G (j+1)) by rw[HN.out he];exact ho);clear ho he;go_wp2;go_roundw
        case rel=>exact⟨j+1,by omega,by go_num,HO.out,hW,Hd,Bj⟩
        case measure=>simp[intOf];omega
      ·have GS:j=ns.length:=o_
       subst GS
       have HO:=h_ (show OwnI (w.heap.size+1) wr (.slice (some ⟨gb,0,none⟩) ns.length c1) (zl ns.length ls (k+1)) by
        rw[HS.out,<-z8y];rw[Cg.out];exact ho)
       clear ho;go_wp2;go_roundw
       case rel=>exact⟨k+1,by omega,by go_num,HO.out,hW,Hd,Bj⟩
       case measure=>simp[intOf];omega
    ·have gn:k=ls.length:=o_
     subst gn;have HO:=h_ ho;clear ho;go_wp2;go_ret
     exact⟨_,rfl,HO.out.mono o_,Hd⟩
noncomputable def zf (ns ls:List Pr):Bool:=winB ns ls&&(decide (0<ls.length)&&(zl ns.length ls ls.length).all (· ==0))
theorem zL {ns ls:List Pr} (h:zf ns ls=true):zC ns ls/\0<ls.length:=by
 unfold zf at h;rw[aaG,aaG] at h;exact⟨zu.1 h.1,by simpa using h.2.1⟩
theorem z3F (vn vl:Value) (ns ls:List Pr) (w:World) (hn:RP w vn ns) (hl:RP w vl ls):
  CB_ 45 #[.agg #[vn,vl]] w (.bool (zf ns ls)):=by
 obtain⟨An,cn,rfl,FQ,GW,_⟩:=hn.formI;obtain⟨Al,cl,rfl,Hz,GM,_⟩:=hl.formI;unfold maxLen at GW GM;have Hi:Below w.heap.size w (w.alloc (.cells #[.slice An ns.length cn,.slice Al ls.length cl] 27)):=bel_
 cases hw:winB ns ls
 ·have HR:Hid (zf ns ls=false):=h_ (by simp[zf,hw])
  go_enter Tryz.func45,Tryz.ntmps45
  go_wp2_with fail
  refine(zH _ _ ns ls _ _ (hn.below Hi) (hl.below Hi) hw).mono ?_
  rintro e w1 ⟨rfl,Hb⟩;go_wp2;go_ret
  exact⟨z8 HR.out.symm,by exact bel_⟩
 ·by_cases h0:ls.length=0
  ·have HR:Hid (zf ns ls=false):=h_ (by simp[zf,hw,h0])
   have e1:((ls.length:Int)==0)=true:=by simp[h0]
   clear h0
   go_enter Tryz.func45,Tryz.ntmps45
   go_wp2_with fail
   refine(zH _ _ ns ls _ _ (hn.below Hi) (hl.below Hi) hw).mono ?_
   rintro e w1 ⟨rfl,Hb⟩;(have gl:=bcC Hb)
   go_wp2;go_ret
   exact⟨z8 HR.out.symm,by exact bel_⟩
  ·have Gn:=zu.1 hw
   have HR:Hid (zf ns ls=(zl ns.length ls ls.length).all (· ==0)):=h_ (by simp[zf,hw];omega);have e1:((ls.length:Int)==0)=false:=by simp[h0]
   have Fq:=h_ Gn;clear Gn h0
   go_enter Tryz.func45,Tryz.ntmps45
   go_wp2_with fail
   refine(zH _ _ ns ls _ _ (hn.below Hi) (hl.below Hi) hw).mono ?_
   rintro e w1 ⟨rfl,Hb⟩;have Ha:Below w.heap.size w w1:=bel_
   have gc:Blk w1 w.heap.size 27 #[.slice An ns.length cn,.slice Al ls.length cl]:=(Blk.newAt rfl).below Hb (by simp);obtain⟨a_0,a_1⟩:=gc.c2;clear Hb
   go_wp2_with fail
   refine(X4 _ _ ns ls _ (hn.below Ha) (hl.below Ha) Fq.out.2.2.1 Fq.out.2.1 Fq.out.1 (fun j hj=>(Fq.out.2.2.2.2.2 j hj).1)).mono ?_
   rintro e w2 ⟨v,rfl,Hn,Hh⟩;have Hc:=Ha.trans (Hh.mono Ha.size);obtain⟨A,c,rfl,hc,hm,hcell⟩:=Hn.reads.form;generalize zl ns.length ls ls.length=G at*;unfold maxLen at hm;clear Hh Hn gc a_0 a_1 Ha hw;go_wp2
   go_loop [4] (fun i=>∃k:Nat,k<=G.length/\i= .int .i64 k/\(G.take k).all (· ==0)=true) (fun i=>G.length -(intOf i).toNat)
   case atStart=>exact⟨0,aab _,rfl,by simp⟩
   case round=>
    obtain⟨k,hk,rfl,GU⟩:=hrel
    by_cases Hf:k<G.length
    ·obtain⟨b,off,rfl,hb,Hz⟩:=hcell o_
     have fM:=Hz k Hf;clear Hz hcell
     have hts:(G.take (k+1)).all (· ==0)=(G.getD k 0==0):=by
      rw[aax Hf,List.all_append,GU];simp[List.getD,aac Hf]
     have hex:(G.getD k 0==0)=false->G.all (· ==0)=false:=by
      intro h0;rw[List.all_eq_false];exact⟨G[k],abg Hf,by simpa[List.getD,aac Hf] using h0⟩
     generalize hx:G.getD k 0=x at*;have Rs:=h_ hts;have HEX:=h_ hex;clear hts hex GU hx
     by_cases hq:x=0
     ·have HQ:Hid ((x==0)=true):=h_ (by simp[hq])
      have e2:(x != 0)=false:=by simp[hq]
      clear hq;go_wp2;go_round
      case rel=>exact⟨k+1,by omega,by go_num,by rw[Rs.out];exact HQ.out⟩
      case measure=>simp[intOf];omega
     ·have HQ:Hid ((x==0)=false):=h_ (by simp[hq])
      have e2:(x != 0)=true:=by simp[hq]
      clear hq;go_wp2;go_ret
      exact⟨z8 (by rw[HR.out];exact(HEX.out HQ.out).symm),Hc⟩
    ·have gn:G.length<=k:=o_
     rw[aaK gn] at GU;have HA:=h_ GU;clear GU hcell;go_wp2;go_ret
     exact⟨z8 (by rw[HR.out];exact HA.out.symm),Hc⟩
theorem qU (vn vl:Value) (ns ls:List Pr) (b:Bool) (w:World) (hn:RP w vn ns) (hl:RP w vl ls) (hb:zf ns ls=b):
  CB_ 45 #[.agg #[vn,vl]] w (.bool b):=by
 subst hb;exact z3F vn vl ns ls w hn hl
def addS (s:Nat) (l:Pr):Nat:=if s.testBit l.1.toNat ||s.testBit l.2.toNat then s ||| (2^l.1.toNat ||| 2^l.2.toNat) else s
def qk (s:Nat) (ls:List Pr):Nat:=ls.foldl addS s
def zJ (s:Nat) (ls:List Pr):Nat->Nat
 |0=>s
 |k+1=>qk (zJ s ls k) ls
theorem z2A (s:Nat) (l:Pr) {i:Nat} (h:s.testBit i=true):(addS s l).testBit i=true:=by
 unfold addS
 split
 ·rw[aa1,h];rfl
 ·exact h
theorem vX:∀(ls:List Pr) (s:Nat) {i:Nat},s.testBit i=true->(qk s ls).testBit i=true
 | [],s,i,h=>h
 |l::ls,s,i,h=>by
  show(qk (addS s l) ls).testBit i=true
  exact vX ls _ (z2A s l h)
theorem ks (s:Nat) (a b:List Pr):qk s (a++b)=qk (qk s a) b:=by simp[qk]
theorem z8A {s m:Nat} {l:Pr} (hs:s<2^m) (h1:l.1.toNat <m) (h2:l.2.toNat <m):addS s l<2^m:=by
 unfold addS
 split
 ·exact Nat.or_lt_two_pow hs (Nat.or_lt_two_pow (aa3 o_ h1) (aa3 o_ h2))
 ·exact hs
theorem Q5 {m:Nat}:∀(ls:List Pr) (s:Nat),s<2^m->(∀l∈ls,l.1.toNat <m/\l.2.toNat <m)->qk s ls<2^m
 | [],s,h,_=>h
 |l::ls,s,h,hl=>by
  show qk (addS s l) ls<2^m
  exact Q5 ls _ (z8A h (hl l (by simp)).1 (hl l (by simp)).2) (fun x hx=>hl x (by simp[hx]))
theorem kV {m:Nat} {ls:List Pr} {s:Nat} (h:s<2^m) (hl:∀l∈ls,l.1.toNat <m/\l.2.toNat <m):∀k,zJ s ls k<2^m
 |0=>h
 |k+1=>Q5 ls _ (kV h hl k) hl
theorem XS {s:Nat} {ls:List Pr} (h:qk s ls=s):∀l∈ls,(s.testBit l.1.toNat =true↔s.testBit l.2.toNat =true):=by
 have key:∀(ls:List Pr) (t:Nat),(∀i,s.testBit i=true->t.testBit i=true)->(∀i,(qk t ls).testBit i=true->s.testBit i=true)->∀l∈ls,(s.testBit l.1.toNat =true↔s.testBit l.2.toNat =true):=by
  intro ls
  induction ls with
  |nil=>intro t _ _ l hl;cases hl
  |cons x ls ih=>
   intro t h1 h2 l hl;have h3:∀i,(addS t x).testBit i=true->s.testBit i=true:=fun i hi=>h2 i (vX ls _ hi)
   rcases List.mem_cons.1 hl with rfl|hl
   ·have h4:s.testBit l.1.toNat =true∨s.testBit l.2.toNat =true->s.testBit l.1.toNat =true/\s.testBit l.2.toNat =true:=by
     intro Cj
     have ht:(t.testBit l.1.toNat ||t.testBit l.2.toNat)=true:=by
      rcases Cj with h5|h5
      ·rw[h1 _ h5];rfl
      ·rw[h1 _ h5,Bool.or_true]
     have e:addS t l=t ||| (2^l.1.toNat ||| 2^l.2.toNat):=by unfold addS;rw[aao ht]
     constructor
     ·exact h3 _ (by rw[e];simp[aa1,aby])
     ·exact h3 _ (by rw[e];simp[aa1,aby])
    exact⟨fun h5=>(h4 (.inl h5)).2,fun h5=>(h4 (.inr h5)).1⟩
   ·exact ih (addS t x) (fun i hi=>z2A t x (h1 i hi)) h2 l hl
 exact key ls s (fun _ h=>h) (fun i hi=>by rw[h] at hi;exact hi)
theorem z5x {s t m:Nat} (h:∀i,s.testBit i=true->t.testBit i=true):(memS s m).length <=(memS t m).length :=by
 induction m with
 |zero=>simp[memS]
 |succ m ih=>
  cases hs:s.testBit m
  ·rw[jx hs]
   cases ht:t.testBit m
   ·rw[jx ht];exact ih
   ·rw[qS ht];simp;omega
  ·rw[qS hs,qS (h m hs)];simp;exact ih
theorem J9 {s t m:Nat} (h:∀i,s.testBit i=true->t.testBit i=true) (hs:s<2^m) (ht:t<2^m) (Hv:s≠t):(memS s m).length <(memS t m).length :=by
 have hi:∃i,i<m/\s.testBit i=false/\t.testBit i=true:=by
  apply abk
  intro hc
  apply Hv
  apply Nat.eq_of_testBit_eq
  intro i
  cases h1:s.testBit i
  ·cases h2:t.testBit i
   ·rfl
   ·have hm:i<m:=by
     apply abk
     intro hm;rw[Nat.testBit_lt_two_pow (aaD ht (aaE o_ o_))] at h2
     cases h2
    exact absurd ⟨i,hm,h1,h2⟩ hc
  ·exact(h i h1).symm
 obtain⟨i,him,h1,h2⟩:=hi;clear hs ht Hv
 induction m with
 |zero=>omega
 |succ m ih=>
  by_cases he:i=m
  ·subst he
   rw[jx h1,qS h2];have:=z5x (m:=i) h;simp;omega
  ·have:=ih o_
   cases hs:s.testBit m
   ·rw[jx hs]
    cases ht:t.testBit m
    ·rw[jx ht];exact this
    ·rw[qS ht];simp;omega
   ·rw[qS hs,qS (h m hs)];simp;exact this
theorem JJ {s m:Nat} {ls:List Pr} (hs:s<2^m) (h0:0<(memS s m).length) (hl:∀l∈ls,l.1.toNat <m/\l.2.toNat <m):qk (zJ s ls m) ls=zJ s ls m:=by
 apply abk
 intro hc
 have stay:∀k j,qk (zJ s ls k) ls=zJ s ls k->zJ s ls (k+j)=zJ s ls k:=by
  intro k j hk
  induction j with
  |zero=>rfl
  |succ j ih=>show qk (zJ s ls (k+j)) ls=_;rw[ih,hk]
 have Hv:∀k,k<=m->qk (zJ s ls k) ls≠zJ s ls k:=by
  intro k hk he;have:=stay k (m -k) he;rw[show k+(m -k)=m by omega] at this;rw[this] at hc;exact hc he
 have grow:∀k,k<=m->k<(memS (zJ s ls k) m).length :=by
  intro k
  induction k with
  |zero=>intro _;exact h0
  |succ k ih=>
   intro hk;have h1:=ih o_;have h2:=J9 (s:=zJ s ls k) (t:=qk (zJ s ls k) ls) (m:=m) (fun i hi=>vX ls _ hi) (kV hs hl k) (Q5 ls _ (kV hs hl k) hl) (fun e=>Hv k o_ e.symm)
   show k+1<(memS (qk (zJ s ls k) ls) m).length
   omega
 have h1:=grow m (aaa _);have h2:=z1C (zJ s ls m) m;omega
theorem J7 (a b x:Int):xn a b x=x∨(x=mx2 a b/\xn a b x=mn2 a b):=by
 unfold xn;split
 ·rename_i h;exact .inr ⟨h,rfl⟩
 ·exact .inl rfl
theorem mxmn (a b:Int):(mx2 a b=a/\mn2 a b=b)∨(mx2 a b=b/\mn2 a b=a):=by
 rw[vW,Qw];omega
theorem Qh {g:List Int} {f:Int->Int} {i:Nat} (h:i<g.length):(g.map f).getD i 0=f (g.getD i 0):=by
 simp[List.getD,h]
def QA (n:Nat) (ls:List Pr):Prop:=∀j:Nat,j<ls.length->∃p q:Nat,(ndI ls j).1=p/\(ndI ls j).2=q/\p<n/\q<n
theorem Zl {n:Nat} {ls:List Pr} (hl:QA n ls):∀k,k<=ls.length->∀i,i<n->0<=(zl n ls k).getD i 0/\(zl n ls k).getD i 0<=i
 |0,_,i,hi=>by
  rw[J5];have:(natI (List.range n)).getD i 0=(i:Int):=by simp[natI,List.getD,hi]
  rw[this];omega
 |k+1,hk,i,hi=>by
  obtain⟨p,q,h1,h2,h3,h4⟩:=hl k o_;rw[km n ls k o_ p q h1 h2,Qh (by rw[jg];exact hi)];have hb:=Zl hl k o_;have hp:=hb p h3;have hq:=hb q h4;have h0:=hb i hi
  rcases J7 ((zl n ls k).getD p 0) ((zl n ls k).getD q 0) ((zl n ls k).getD i 0) with h|⟨h,h'⟩
  ·rw[h];exact h0
  ·rw[h']
   rw[vW] at h;rw[Qw];omega
theorem vE {n:Nat} {ls:List Pr} (hl:QA n ls) (C:Nat->Prop) (hC:∀j:Nat,j<ls.length->∀p q:Nat,(ndI ls j).1=p->(ndI ls j).2=q->(C p↔C q)):∀k,k<=ls.length->∀i,i<n->(C i↔C ((zl n ls k).getD i 0).toNat)
 |0,_,i,hi=>by
  rw[J5];have:(natI (List.range n)).getD i 0=(i:Int):=by simp[natI,List.getD,hi]
  rw[this,aa5]
 |k+1,hk,i,hi=>by
  obtain⟨p,q,h1,h2,h3,h4⟩:=hl k o_;rw[km n ls k o_ p q h1 h2,Qh (by rw[jg];exact hi)];have ih:=vE hl C hC k o_;have hp:=ih p h3;have hq:=ih q h4;have h0:=ih i hi;have Ft:=hC k o_ p q h1 h2;generalize (zl n ls k).getD p 0=a at*;generalize (zl n ls k).getD q 0=b at*;generalize (zl n ls k).getD i 0=x at*
  rcases J7 a b x with h|⟨h,h'⟩
  ·rw[h];exact h0
  ·rw[h',h0,h]
   rcases mxmn a b with ⟨e1,e2⟩|⟨e1,e2⟩<;>rw[e1,e2]
   ·rw[<-hp,<-hq,Ft]
   ·rw[<-hp,<-hq,Ft]
theorem QJ {n:Nat} {ls:List Pr} (hl:QA n ls):∀k,k<=ls.length->∀j,j<k->∀p q:Nat,(ndI ls j).1=p->(ndI ls j).2=q->(zl n ls k).getD p 0=(zl n ls k).getD q 0
 |0,_,j,hj,_,_,_,_=>absurd hj o_
 |k+1,hk,j,hj,p,q,hp,hq=>by
  obtain⟨p',q',h1,h2,h3,h4⟩:=hl k o_;obtain⟨p2,q2,g1,g2,g3,g4⟩:=hl j o_;have e1:p2=p:=by rw[hp] at g1;omega
  have e2:q2=q:=by rw[hq] at g2;omega
  subst e1 e2;rw[km n ls k o_ p' q' h1 h2,Qh (by rw[jg];exact g3),Qh (by rw[jg];exact g4)]
  by_cases he:j=k
  ·subst he
   have e3:p'=p2:=by rw[hp] at h1;omega
   have e4:q'=q2:=by rw[hq] at h2;omega
   subst e3 e4;generalize (zl n ls j).getD p' 0=a;generalize (zl n ls j).getD q' 0=b;unfold xn
   rcases mxmn a b with ⟨x1,x2⟩|⟨x1,x2⟩<;>rw[x1,x2]<;>split<;>split<;>simp_all
  ·rw[QJ hl k o_ j o_ p2 q2 hp hq]
theorem z6l {n:Nat} {ls:List Pr} (hl:QA n ls) (hn:0<n):
  (memS (zJ 1 ls n) n).length =n↔(zl n ls ls.length).all (· ==0)=true:=by
 have Gq:∀l∈ls,l.1.toNat <n/\l.2.toNat <n:=by
  intro l hm;obtain⟨j,hj,e⟩:=aba hm;obtain⟨p,q,h1,h2,h3,h4⟩:=hl j hj;rw[qd ls j hj,e] at h1 h2;rw[h1,h2,aa5,aa5];exact⟨h3,h4⟩
 have h1:(1:Nat)<2^n:=Nat.one_lt_two_pow o_;have bH:0<(memS 1 n).length :=abh (a:=0) (by simp[memS,hn]);have hf:=XS (JJ h1 bH Gq)
 have FT:∀k,(zJ 1 ls k).testBit 0=true:=by
  intro k
  induction k with
  |zero=>show(1:Nat).testBit 0=true;decide
  |succ k ih=>exact vX ls _ ih
 generalize hS:zJ 1 ls n=S at*;rw[z7J,aaL]
 constructor
 ·intro GU x hx
  obtain⟨i,hi,e⟩:=aba hx;have Gg:i<n:=by rw[jg] at hi;exact hi
  have lab:∀k,∀i,i<n->(zJ 1 ls k).testBit i=true->(zl n ls ls.length).getD i 0=(zl n ls ls.length).getD 0 0:=by
   have step:∀(m:Nat),m<=ls.length->∀s:Nat,(∀i,i<n->s.testBit i=true->(zl n ls ls.length).getD i 0=(zl n ls ls.length).getD 0 0)->∀i,i<n->(qk s (ls.take m)).testBit i=true->(zl n ls ls.length).getD i 0=(zl n ls ls.length).getD 0 0:=by
    intro m
    induction m with
    |zero=>intro _ s h i hi hb;exact h i hi (by simpa[qk] using hb)
    |succ m ih=>
     intro hm s h i hi hb;have ih':=ih o_ s h;rw[aax o_,ks] at hb;generalize qk s (ls.take m)=t at*;obtain⟨p,q,g1,g2,g3,g4⟩:=hl m o_;have Ft:=QJ hl ls.length (aaa _) m o_ p q g1 g2;rw[qd ls m o_] at g1 g2;have gH:(addS t ls[m]).testBit i=true:=hb;unfold addS at gH;rw[g1,g2,aa5,aa5] at gH
     split at gH
     ·rename_i Cj
      rw[aa1,aa1,aaH,aaH] at gH
      have bk:(zl n ls ls.length).getD p 0=(zl n ls ls.length).getD 0 0:=by
       rw[aaH] at Cj
       rcases Cj with h5|h5
       ·exact ih' p g3 h5
       ·rw[Ft];exact ih' q g4 h5
      rcases gH with h5|h5|h5
      ·exact ih' i hi h5
      ·rw[aa2] at h5
       have:p=i:=by simpa using h5
       rw[<-this];exact bk
      ·rw[aa2] at h5
       have:q=i:=by simpa using h5
       rw[<-this,<-Ft];exact bk
     ·exact ih' i hi gH
   intro k
   induction k with
   |zero=>
    intro i hi hb
    have:i=0:=by
     apply abk
     intro h;rw[show zJ 1 ls 0=2^0 from rfl,aa2] at hb;have:0=i:=by simpa using hb
     omega
    rw[this]
   |succ k ih=>
    intro i hi hb;have:=step ls.length (aaa _) (zJ 1 ls k) ih i hi;rw[aaA] at this;exact this hb
  have h2:=lab n i Gg (by rw[hS];exact GU i Gg);have h3:=Zl hl ls.length (aaa _) 0 hn;have h4:(zl n ls ls.length).getD i 0=x:=by simp[List.getD,hi,e]
  rw[h4] at h2;have:x=0:=o_
  simp[this]
 ·intro GU i hi
  have hc:=vE hl (fun i=>S.testBit i=true) (fun j hj p q hp hq=>by
   have:=hf ls[j] (abg hj);rw[qd ls j hj] at hp hq;rw[hp,hq,aa5,aa5] at this;exact this) ls.length (aaa _) i hi
  rw[hc];have Hm:i<(zl n ls ls.length).length :=by rw[jg];exact hi
  have h2:=GU (zl n ls ls.length)[i] (abg Hm);have h3:(zl n ls ls.length).getD i 0=0:=by simpa[List.getD,Hm] using h2
  rw[h3];have:=FT n;rw[hS] at this;exact this
attribute [local go_sem ↓] zr zq zU zT
def nwo (ns:List Pr) (k:Int):Nat->List Pr
 |0=> []
 |j+1=>if (j:Int)=k then nwo ns k j else nwo ns k j++[ndI ns j]
def dnI (k i:Int):Int:=if i>k then i -1 else i
def lwo (ls:List Pr) (k:Int):Nat->List Pr
 |0=> []
 |j+1=>if (ndI ls j).1≠k/\(ndI ls j).2≠k then lwo ls k j++[(dnI k (ndI ls j).1,dnI k (ndI ls j).2)] else lwo ls k j
theorem z0T (ns:List Pr) (k:Int):∀j,(nwo ns k j).length <=j
 |0=>by simp[nwo]
 |j+1=>by
  have:=z0T ns k j;unfold nwo
  split<;>simp<;>omega
theorem z4S (ls:List Pr) (k:Int):∀j,(lwo ls k j).length <=j
 |0=>by simp[lwo]
 |j+1=>by
  have:=z4S ls k j;unfold lwo
  split<;>simp<;>omega
theorem z1X (i k:Int) (g:Nat) (w:World) (hc:w.cell? ⟨g,0,none⟩=some (.int .i64 k)) (hb: -1000000<=i/\i<=1000000):
  Calls Tryz.prog 251 #[.int .i64 i,.pointer (some ⟨g,0,none⟩)] w fun e w'=>e= .returned (.int .i64 (dnI k i))/\w=w':=by
 obtain⟨Hb,Hh⟩:=hb
 by_cases h:k<i
 ·have HR:Hid (dnI k i=i -1):=h_ (by simp[dnI,h])
  go_enter Tryz.func251,Tryz.ntmps251
  go_wp2;go_ret
  exact⟨zi HR.out.symm,rfl⟩
 ·have HR:Hid (dnI k i=i):=h_ (by simp[dnI,h])
  go_enter Tryz.func251,Tryz.ntmps251
  go_wp2;go_ret
  exact⟨zi HR.out.symm,rfl⟩
theorem z13 (vn vl:Value) (ns ls:List Pr) (k:Int) (w:World) (hn:RP w vn ns) (hl:RP w vl ls) (h1:ns.length<=1048576) (h2:ls.length<=1048576)
  (GB:∀j:Nat,j<ls.length->(-1000000<=(ndI ls j).1/\(ndI ls j).1<=1000000)/\(-1000000<=(ndI ls j).2/\(ndI ls j).2<=1000000)):
  Calls Tryz.prog 219 #[.agg #[vn,vl],.int .i64 k] w (RetW (nwo ns k ns.length) (lwo ls k ls.length) w):=by
 obtain⟨An,cn,rfl,FQ,GW,Hp⟩:=hn.formI;obtain⟨Al,cl,rfl,Hz,GM,gg⟩:=hl.formI;obtain⟨i0,hi,iz0,iz1,iz2⟩:=info_parts kB;obtain⟨j0,hj,jz0,jz1,jz2⟩:=info_parts jd;unfold maxLen at GW GM
 go_enter Tryz.func219,Tryz.ntmps219
 go_wp2
 go_loopw [15] (fun i wr=>∃j:Nat,j<=ns.length/\i= .int .i64 j/\∃A c,OwnP 106 (w.heap.size+1+1+1+1) wr (.slice A (nwo ns k j).length c) (nwo ns k j)/\
   Blk wr w.heap.size 27 #[.slice An ns.length cn,.slice Al ls.length cl]/\Blk wr (w.heap.size+1) 3 #[.int .i64 k]/\Blk wr (w.heap.size+1+1) 27 #[.slice none 0 0,.slice none 0 0]/\
   Blk wr (w.heap.size+1+1+1) 27 #[.slice A (nwo ns k j).length c,.slice none 0 0]/\Below w.heap.size w wr) (fun i _=>ns.length -(intOf i).toNat)
 case atStart=>exact⟨0,aab _,rfl,none,0,OwnP.nil _ _ _,(((Blk.newAt rfl).alloc _).alloc _).alloc _,((Blk.newAt (by simp)).alloc _).alloc _,(Blk.newAt (by simp)).alloc _,Blk.newAt (by simp),by exact bel_⟩
 case round=>
  obtain⟨j,Fb,rfl,A,c,ho,hA,hK,hR,hO,Hd⟩:=hrel;have gI:=hO.lt;obtain⟨a_0,a_1⟩:=hA.c2
  (have kk:=hK.cell 0);simp only[abd,aag] at kk
  obtain⟨o_0,o_1,o_f0,o_f1⟩:=hO.b2;have hG:=z0T ns k j
  by_cases Hf:j<ns.length
  ·obtain⟨b,off,rfl,hb,Gj⟩:=Hp o_
   obtain⟨k0,k1⟩:=Gj j Hf;have q0:=(Hd.cell (p:=⟨b,off+j*2,none⟩) hb).trans k0;have q1:=(Hd.cell (p:=⟨b,off+j*2+1,none⟩) hb).trans k1;have Cz:(0:Int)<=(j:Int):=o_
   have CS:(j:Int)<(ns.length:Int):=o_
   have p1:w.heap.size+1<wr.heap.size:=o_
   clear k0 k1 Gj Hp
   by_cases cm:(j:Int)=k
   ·have HS:Hid (nwo ns k (j+1)=nwo ns k j):=h_ (by simp[nwo,cm])
    have e1:((j:Int) != k)=false:=by simp[cm]
    clear cm;have HB:Hid (Below w.heap.size w (wr.alloc (.cells #[.int .i64 (ndI ns j).1,.int .i64 (ndI ns j).2] 106))):=h_ bel_;go_wp2;go_roundw
    case rel=>exact⟨j+1,by omega,by go_num,A,c,by rw[HS.out];exact ho.alloc _,hA.alloc _,hK.alloc _,hR.alloc _,by rw[HS.out];exact hO.alloc _,HB.out⟩
    case measure=>simp[intOf];omega
   ·have HS:Hid (nwo ns k (j+1)=nwo ns k j++[((ndI ns j).1,(ndI ns j).2)]):=h_ (by simp[nwo,cm])
    have e1:((j:Int) != k)=true:=by simp[cm]
    clear cm;generalize nwo ns k j=G at*;generalize (ndI ns j).1=X at*;generalize (ndI ns j).2=Y at*;have Hw:∀b,(Value.slice A G.length c).ownBlock =some b->w.heap.size+1+1+1+1<=b/\b<wr.heap.size:=fun b hb=>ho.lt b hb
    go_wp2_with (at_builtin;refine zj rfl _ _ _ rfl (w.heap.size+1+1+1+1) 106 i0 Tryz.underlying24 hi iz0 iz1 iz2 (.slice A G.length c) _ G [(X,Y)] rfl rfl ((ho.alloc _).alloc _) (j6 (by simp) rfl rfl rfl (by simp[maxLen])) (by simp;omega) (by simp;omega) ?_)
    intro A3 c3 w3 Hq gq _;have F0:=((hA.alloc (.cells #[.int .i64 X,.int .i64 Y] 106)).alloc _).grownR gq (fun b hb=>by have:=(Hw b hb).1;omega);have rz:=((hK.alloc (.cells #[.int .i64 X,.int .i64 Y] 106)).alloc _).grownR gq (fun b hb=>by have:=(Hw b hb).1;omega);have Ga:=((hR.alloc (.cells #[.int .i64 X,.int .i64 Y] 106)).alloc _).grownR gq (fun b hb=>by have:=(Hw b hb).1;omega);have GI:=((hO.alloc (.cells #[.int .i64 X,.int .i64 Y] 106)).alloc _).grownR gq (fun b hb=>by have:=(Hw b hb).1;omega);have gy:Below w.heap.size w w3:=((Hd.alloc o_ _).alloc sz_ _).grown gq sz_ (fun b hb=>by have:=(Hw b hb).1;omega);clear ho hA hK hR hO Hd gq a_0 a_1 kk o_0 o_1 o_f0 o_f1 q0 q1;obtain⟨o_0,o_1,o_f0,o_f1⟩:=GI.b2;have F6:Hid (OwnP 106 (w.heap.size+1+1+1+1) (w3.setCell ⟨w.heap.size+1+1+1,0,none⟩ (.slice A3 (G.length+1) c3)) (.slice A3 (G++[(X,Y)]).length c3) (G++[(X,Y)])):=h_ (OwnP.setLow (by simpa using Hq) (show w.heap.size+1+1+1<w.heap.size+1+1+1+1 by omega) _);have HA4:=h_ (F0.far (p:=⟨w.heap.size+1+1+1,0,none⟩) (show ¬w.heap.size=w.heap.size+1+1+1 by omega) (.slice A3 (G.length+1) c3));have HK4:=h_ (rz.far (p:=⟨w.heap.size+1+1+1,0,none⟩) (show ¬w.heap.size+1=w.heap.size+1+1+1 by omega) (.slice A3 (G.length+1) c3));have rA:=h_ (Ga.far (p:=⟨w.heap.size+1+1+1,0,none⟩) (show ¬w.heap.size+1+1=w.heap.size+1+1+1 by omega) (.slice A3 (G.length+1) c3))
    have C7:Hid (Blk (w3.setCell ⟨w.heap.size+1+1+1,0,none⟩ (.slice A3 (G.length+1) c3)) (w.heap.size+1+1+1) 27 #[.slice A3 (G++[(X,Y)]).length c3,.slice none 0 0]):=h_ (by
     rw[show(G++[(X,Y)]).length =G.length+1 by simp];exact GI.set_ 0 _)
    have mK:=h_ (gy.setCell (p:=⟨w.heap.size+1+1+1,0,none⟩) (show w.heap.size<=w.heap.size+1+1+1 by omega) (.slice A3 (G.length+1) c3));clear Hq F0 rz Ga GI gy;go_wp2;go_roundw
    case rel=>exact⟨j+1,by omega,by go_num,A3,c3,by rw[HS.out];exact F6.out,HA4.out,HK4.out,rA.out,by rw[HS.out];exact C7.out,mK.out⟩
    case measure=>simp[intOf];omega
  ·have GS:j=ns.length:=o_
   subst GS;generalize nwo ns k ns.length=NN at*;have MY:=ho;have hA0:=hA;have hK0:=hK;have FS:=hR;have C8:=hO;have fO:=Hd;clear ho hA hK hR hO Hd Hp hG;go_wp2
   go_loopw [33] (fun i wr=>∃j:Nat,j<=ls.length/\i= .int .i64 j/\∃A' c',OwnP 108 (w.heap.size+1+1+1+1) wr (.slice A' (lwo ls k j).length c') (lwo ls k j)/\OwnP 106 (w.heap.size+1+1+1+1) wr (.slice A NN.length c) NN/\
     (∀b,(Value.slice A NN.length c).ownBlock =some b->(Value.slice A' (lwo ls k j).length c').ownBlock =some b->False)/\
     Blk wr w.heap.size 27 #[.slice An ns.length cn,.slice Al ls.length cl]/\Blk wr (w.heap.size+1) 3 #[.int .i64 k]/\Blk wr (w.heap.size+1+1) 27 #[.slice none 0 0,.slice none 0 0]/\
     Blk wr (w.heap.size+1+1+1) 27 #[.slice A NN.length c,.slice A' (lwo ls k j).length c']/\Below w.heap.size w wr) (fun i _=>ls.length -(intOf i).toNat)
   case atStart=>exact⟨0,aab _,rfl,none,0,OwnP.nil _ _ _,MY,(by intro b h1 h2;cases h2),hA0,hK0,FS,C8,fO⟩
   case round=>
    obtain⟨j,Fb,rfl,A',c',ho,Ct,mF,hA,hK,hR,hO,Hd⟩:=hrel;clear MY hA0 hK0 FS C8 fO a_0 a_1 kk o_0 o_1 o_f0 o_f1;have gI:=hO.lt;obtain⟨a_0,a_1⟩:=hA.c2
    (have kk:=hK.cell 0);simp only[abd,aag] at kk
    obtain⟨o_0,o_1,o_f0,o_f1⟩:=hO.b2;have hG:=z4S ls k j
    by_cases Hf:j<ls.length
    ·obtain⟨b,off,rfl,hb,Gj⟩:=gg o_
     obtain⟨k0,k1⟩:=Gj j Hf;obtain⟨b1,b2⟩:=GB j Hf;have q0:=(Hd.cell (p:=⟨b,off+j*2,none⟩) hb).trans k0;have q1:=(Hd.cell (p:=⟨b,off+j*2+1,none⟩) hb).trans k1;have Cz:(0:Int)<=(j:Int):=o_
     have CS:(j:Int)<(ls.length:Int):=o_
     have p1:w.heap.size+1<wr.heap.size:=o_
     clear k0 k1 Gj gg;have HS:Hid (lwo ls k (j+1)=if (ndI ls j).1≠k/\(ndI ls j).2≠k then lwo ls k j++[(dnI k (ndI ls j).1,dnI k (ndI ls j).2)] else lwo ls k j):=h_ rfl;generalize lwo ls k j=G at*;generalize (ndI ls j).1=X at*;generalize (ndI ls j).2=Y at*
     by_cases hx:X=k
     ·have GZ:Hid (lwo ls k (j+1)=G):=h_ (by rw[HS.out,aaq (fun h=>h.1 hx)])
      have e1:(X != k)=false:=by simp[hx]
      clear hx HS;have HB:Hid (Below w.heap.size w (wr.alloc (.cells #[.int .i64 X,.int .i64 Y] 108))):=h_ bel_;go_wp2;go_roundw
      case rel=>exact⟨j+1,by omega,by go_num,A',c',by rw[GZ.out];exact ho.alloc _,Ct.alloc _,by rw[GZ.out];exact mF,hA.alloc _,hK.alloc _,hR.alloc _,by rw[GZ.out];exact hO.alloc _,HB.out⟩
      case measure=>simp[intOf];omega
     ·have e1:(X != k)=true:=by simp[hx]
      by_cases hy:Y=k
      ·have GZ:Hid (lwo ls k (j+1)=G):=h_ (by rw[HS.out,aaq (fun h=>h.2 hy)])
       have e2:(Y != k)=false:=by simp[hy]
       clear hx hy HS;have HB:Hid (Below w.heap.size w (wr.alloc (.cells #[.int .i64 X,.int .i64 Y] 108))):=h_ bel_;go_wp2;go_roundw
       case rel=>exact⟨j+1,by omega,by go_num,A',c',by rw[GZ.out];exact ho.alloc _,Ct.alloc _,by rw[GZ.out];exact mF,hA.alloc _,hK.alloc _,hR.alloc _,by rw[GZ.out];exact hO.alloc _,HB.out⟩
       case measure=>simp[intOf];omega
      ·have GZ:Hid (lwo ls k (j+1)=G++[(dnI k X,dnI k Y)]):=h_ (by rw[HS.out,aao ⟨hx,hy⟩])
       have e2:(Y != k)=true:=by simp[hy]
       clear hx hy HS
       go_wp2_with fail
       have Hw:∀b,(Value.slice A' G.length c').ownBlock =some b->w.heap.size+1+1+1+1<=b/\b<wr.heap.size:=fun b hb=>ho.lt b hb
       have HKC:=h_ (fun (u:World) (h:u.cell? ⟨w.heap.size+1,0,none⟩=some (.int .i64 k))=>z1X X k (w.heap.size+1) u h b1);have HKD:=h_ (fun (u:World) (h:u.cell? ⟨w.heap.size+1,0,none⟩=some (.int .i64 k))=>z1X Y k (w.heap.size+1) u h b2);have HO':=h_ ho;have HKB:=h_ hK;have HOB:=h_ hO;generalize hdx:dnI k X=DX at*;generalize hdy:dnI k Y=DY at*;clear ho hK hO hdx hdy;refine vO (n:=14) (S:=fun w'=>w'.cell? ⟨wr.heap.size,0,none⟩=some (.int .i64 X)/\w'.cell? ⟨wr.heap.size,1,none⟩=some (.int .i64 Y)/\w'.cell? ⟨w.heap.size+1,0,none⟩=some (.int .i64 k)/\w'.cell? ⟨w.heap.size+1+1+1,1,none⟩=some (.slice A' G.length c')) k_ ⟨by simp,by simp,((HKB.out.alloc _).drew).cell 0,((HOB.out.alloc _).drew).cell 1⟩ (fun hS=>?_)
       (refine zv (i:=0) (v:=?_) rfl rfl k_ k_ k_ k_ (fun _ _ _ h=>h) (Or.inl ⟨by rfl,?_⟩) (by assumption) ?_);rotate_left;(focus (intro w' gm;(try dsimp only at gm);go_simp;(try with_reducible rfl)));(try simp only[lp_])
       (refine zv (i:=1) (v:=?_) rfl rfl k_ k_ k_ k_ (fun _ _ _ h=>h) (Or.inl ⟨by rfl,?_⟩) (by assumption) ?_);rotate_left;(focus (intro w' gm;(try dsimp only at gm);go_simp;(try with_reducible rfl)));(try simp only[lp_])
       (refine zv (i:=2) (v:=?_) rfl rfl k_ k_ k_ k_ (fun _ _ _ h=>h) (Or.inl ⟨by rfl,?_⟩) (by assumption) ?_);rotate_left;(focus (intro w' gm;(try dsimp only at gm);go_simp;(try with_reducible rfl)));(try simp only[lp_])
       (refine zv (i:=3) (v:=?_) rfl rfl k_ k_ k_ k_ (fun _ _ _ h=>h) (Or.inl ⟨by rfl,?_⟩) (by assumption) ?_);rotate_left;(focus (intro w' gm;(try dsimp only at gm);go_simp;(try with_reducible rfl)));(try simp only[lp_])
       (refine zv (i:=4) (v:=?_) rfl rfl k_ k_ k_ k_ (fun _ _ _ h=>h) (Or.inl ⟨by rfl,?_⟩) (by assumption) ?_);rotate_left;(focus (intro w' gm;(try dsimp only at gm);go_simp;(try with_reducible rfl)));(try simp only[lp_])
       (refine zv (i:=6) (v:=?_) rfl rfl k_ k_ k_ k_ (fun _ _ _ h=>h) (Or.inl ⟨by rfl,?_⟩) (by assumption) ?_);rotate_left;(focus (intro w' gm;(try dsimp only at gm);go_simp;(try with_reducible rfl)));(try simp only[lp_])
       (refine zv (i:=7) (v:=?_) rfl rfl k_ k_ k_ k_ (fun _ _ _ h=>h) (Or.inl ⟨by rfl,?_⟩) (by assumption) ?_);rotate_left;(focus (intro w' gm;(try dsimp only at gm);go_simp;(try with_reducible rfl)));(try simp only[lp_])
       (refine zv (i:=8) (v:=?_) rfl rfl k_ k_ k_ k_ (fun _ _ _ h=>h) (Or.inl ⟨by rfl,?_⟩) (by assumption) ?_);rotate_left;(focus (intro w' gm;(try dsimp only at gm);go_simp;(try with_reducible rfl)));(try simp only[lp_])
       (refine qP (i:=5) rfl k_ (fun K hK=>?_));(rw[aao (by rfl)])
       go_simp
       go_at_call 251
       refine(HKC.out _ hS.2.2.1).mono ?_
       rintro e w5 ⟨rfl,rfl⟩
       go_wp2_with fail
       refine hK _ _ (fun _=>hS) (fun _=>?_)
       clear hK K
       (try simp only[lp_])
       (refine qP (i:=9) rfl k_ (fun K hK=>?_));(rw[aao (by rfl)])
       go_simp
       go_at_call 251
       refine(HKD.out _ hS.2.2.1).mono ?_
       rintro e w5 ⟨rfl,rfl⟩
       go_wp2_with fail
       refine hK _ _ (fun _=>hS) (fun _=>?_)
       clear hK K
       (try simp only[lp_])
       (refine zv (i:=10) (v:=?_) rfl rfl k_ k_ k_ k_ (fun _ _ _ h=>h) (Or.inl ⟨by rfl,?_⟩) (by assumption) ?_);rotate_left;(focus (intro w' gm;(try dsimp only at gm);go_simp;(try with_reducible rfl)));(try simp only[lp_])
       (refine qP (i:=11) rfl k_ (fun K hK=>?_));(rw[aao (by rfl)])
       go_simp;have HLB:=h_ (Blk.newAt (w:=wr) (g:=wr.heap.size) (t:=108) (cs:= #[.int .i64 X,.int .i64 Y]) rfl);refine hK _ _ (fun _=>⟨(HLB.out.alloc _).cell 0,(HLB.out.alloc _).cell 1,((HKB.out.alloc _).alloc _).cell 0,((HOB.out.alloc _).alloc _).cell 1⟩) (fun gh=>?_)
       clear hK K hS gh
       (try simp only[lp_])
       (refine qP (i:=12) rfl k_ (fun K hK=>?_))
       refine zk rfl _ _ _ rfl (w.heap.size+1+1+1+1) 108 j0 Tryz.underlying25 hj jz0 jz1 jz2 (.slice A' G.length c') _ G [(DX,DY)] rfl rfl (((HO'.out.alloc _).alloc _).drew) (z1b (by simp) rfl rfl rfl (by simp[maxLen])) (by simp;omega) (by simp;omega) ?_
       intro A3 c3 w3 Hq gq f8;have ur:=((HLB.out.alloc (.cells #[.int .i64 DX,.int .i64 DY] 108)).drew).grownR gq (fun b hb=>by have:=(Hw b hb).2;omega);have F0:=(((hA.alloc (.cells #[.int .i64 X,.int .i64 Y] 108)).alloc (.cells #[.int .i64 DX,.int .i64 DY] 108)).drew).grownR gq (fun b hb=>by have:=(Hw b hb).1;omega);have rz:=(((HKB.out.alloc (.cells #[.int .i64 X,.int .i64 Y] 108)).alloc (.cells #[.int .i64 DX,.int .i64 DY] 108)).drew).grownR gq (fun b hb=>by have:=(Hw b hb).1;omega);have Ga:=(((hR.alloc (.cells #[.int .i64 X,.int .i64 Y] 108)).alloc (.cells #[.int .i64 DX,.int .i64 DY] 108)).drew).grownR gq (fun b hb=>by have:=(Hw b hb).1;omega);have GI:=(((HOB.out.alloc (.cells #[.int .i64 X,.int .i64 Y] 108)).alloc (.cells #[.int .i64 DX,.int .i64 DY] 108)).drew).grownR gq (fun b hb=>by have:=(Hw b hb).1;omega);have gy:Below w.heap.size w w3:=(((Hd.alloc o_ _).alloc sz_ _).drew).grown gq sz_ (fun b hb=>by have:=(Hw b hb).1;omega);have My:=(((Ct.alloc (.cells #[.int .i64 X,.int .i64 Y] 108)).alloc (.cells #[.int .i64 DX,.int .i64 DY] 108)).drew).apart gq (fun b h1 h2=>mF b h1 h2)
       have WM:∀b,(Value.slice A NN.length c).ownBlock =some b->(Value.slice A3 (G++[(DX,DY)]).length c3).ownBlock =some b->False:=fun b h1 h2=>by
        have h3:=(Ct.lt b h1).2
        rcases f8 with h|h
        ·rw[h] at h2;exact mF b h1 h2
        ·rw[h] at h2;cases h2;simp at h3;omega
       clear f8 gq;refine hK _ _ (fun _=>⟨ur.cell 0,ur.cell 1,rz.cell 0,GI.cell 1⟩) (fun gh=>?_)
       have F5:=gh (by decide);clear hK K gh
       (try simp only[lp_])
       (refine zv (i:=13) (v:=?_) rfl rfl k_ k_ k_ k_ (fun _ _ _ h=>h) (Or.inl ⟨by rfl,?_⟩) (by assumption) ?_);rotate_left;(focus (intro w' gm;(try dsimp only at gm);go_simp;(try with_reducible rfl)));(try simp only[lp_])
       clear a_0 a_1 kk o_0 o_1 o_f0 o_f1 q0 q1;obtain⟨o_0,o_1,o_f0,o_f1⟩:=GI.b2;have F6:Hid (OwnP 108 (w.heap.size+1+1+1+1) (w3.setCell ⟨w.heap.size+1+1+1,1,none⟩ (.slice A3 (G.length+1) c3)) (.slice A3 (G++[(DX,DY)]).length c3) (G++[(DX,DY)])):=h_ (OwnP.setLow (by simpa using Hq) (show w.heap.size+1+1+1<w.heap.size+1+1+1+1 by omega) _);have HN4:Hid (OwnP 106 (w.heap.size+1+1+1+1) (w3.setCell ⟨w.heap.size+1+1+1,1,none⟩ (.slice A3 (G.length+1) c3)) (.slice A NN.length c) NN):=h_ (OwnP.setLow My (show w.heap.size+1+1+1<w.heap.size+1+1+1+1 by omega) _);have HA4:=h_ (F0.far (p:=⟨w.heap.size+1+1+1,1,none⟩) (show ¬w.heap.size=w.heap.size+1+1+1 by omega) (.slice A3 (G.length+1) c3));have HK4:=h_ (rz.far (p:=⟨w.heap.size+1+1+1,1,none⟩) (show ¬w.heap.size+1=w.heap.size+1+1+1 by omega) (.slice A3 (G.length+1) c3));have rA:=h_ (Ga.far (p:=⟨w.heap.size+1+1+1,1,none⟩) (show ¬w.heap.size+1+1=w.heap.size+1+1+1 by omega) (.slice A3 (G.length+1) c3))
       have C7:Hid (Blk (w3.setCell ⟨w.heap.size+1+1+1,1,none⟩ (.slice A3 (G.length+1) c3)) (w.heap.size+1+1+1) 27 #[.slice A NN.length c,.slice A3 (G++[(DX,DY)]).length c3]):=h_ (by
        rw[show(G++[(DX,DY)]).length =G.length+1 by simp];exact GI.set_ 1 _)
       have mK:=h_ (gy.setCell (p:=⟨w.heap.size+1+1+1,1,none⟩) (show w.heap.size<=w.heap.size+1+1+1 by omega) (.slice A3 (G.length+1) c3));have HAP:=h_ WM;clear Hq F0 rz Ga GI gy ur My WM mF hA hR Hd Ct
       (refine qP (i:=14) rfl k_ (fun K hK=>?_));(rw[aao (by rfl)])
       go_simp;refine hK _ _ (fun h=>absurd rfl h) (fun _=>?_)
       clear hK K F5
       (try simp only[lp_])
       refine xC k_ ?_ _
       go_wp2;go_roundw
       case rel=>exact⟨j+1,by omega,by go_num,A3,c3,by rw[GZ.out];exact F6.out,HN4.out,by rw[GZ.out];exact HAP.out,HA4.out,HK4.out,rA.out,by rw[GZ.out];exact C7.out,mK.out⟩
       case measure=>simp[intOf];omega
    ·have GS:j=ls.length:=o_
     subst GS;have F6:=h_ ho;have HN4:=h_ Ct;have HAP:=h_ mF;have HB:=h_ Hd;generalize lwo ls k ls.length=LL at*;clear ho Ct mF Hd gg hG hn hl;obtain⟨r_0,r_1,r_f0,r_f1⟩:=hR.b2;have H7:w.heap.size<=w.heap.size+1+1:=o_
     go_wp2;exact bodyPost_ret (v:= .agg #[.slice A NN.length c,.slice A' LL.length c']) (by simp[results,Tryz.results219,go_sem, *]) rfl ⟨_,_,_,_,rfl,⟨((HN4.out.setLow (p:=⟨w.heap.size+1+1,0,none⟩) sz_ _).setLow (p:=⟨w.heap.size+1+1,1,none⟩) sz_ _).mono o_,((F6.out.setLow (p:=⟨w.heap.size+1+1,0,none⟩) sz_ _).setLow (p:=⟨w.heap.size+1+1,1,none⟩) sz_ _).mono o_,HAP.out⟩,(HB.out.setCell (by simp;omega) _).setCell (by simp;omega) _⟩
attribute [local go_sem ↓] zr zq zU zT
def othI (l:Pr) (k:Int):Int:=if k=l.1 then l.2 else if k=l.2 then l.1 else -1
theorem z4k (a b k:Int) (w:World):
  CB_ 249 #[.agg #[.int .i64 a,.int .i64 b],.int .i64 k] w (.int .i64 (othI (a,b) k)):=by
 go_enter Tryz.func249,Tryz.ntmps249
 go_wp2
 all_goals go_ret
 all_goals refine⟨zi ?_,by exact bel_⟩
 all_goals (unfold othI;simp_all)
theorem z3y (a b k:Int) (w:World):
  CB_ 188 #[.agg #[.int .i64 a,.int .i64 b],.int .i64 k] w (.int .i64 (othI (a,b) k)):=by
 go_enter Tryz.func188,Tryz.ntmps188
 go_wp2
 all_goals go_ret
 all_goals refine⟨zi ?_,by exact bel_⟩
 all_goals (unfold othI;simp_all)
theorem xH {ns ls:List Pr} {k:Int} (h:hasN ns ls k=true):winB ns ls=true/\∃m:Nat,k=(m:Int)/\m<ns.length:=by
 unfold hasN at h;rw[aaG] at h;have:=zc.1 h.2;exact⟨h.1,k.toNat,by omega,by omega⟩
theorem z17 (ls:List Pr) (k:Int):∀m,∀i∈atN ls k m,i<m/\jR ls k i=true
 |0,i,h=>by simp[atN] at h
 |m+1,i,h=>by
  cases ht:jR ls k m
  ·rw[z1w ht] at h
   have:=z17 ls k m i h;exact⟨by omega,this.2⟩
  ·rw[JC ht,aaI,aa9] at h
   rcases h with h|h
   ·have:=z17 ls k m i h
    exact⟨by omega,this.2⟩
   ·subst h;exact⟨by omega,ht⟩
def vm (ls:List Pr) (k:Int) (G:List Nat):List Int:=G.map fun (i:Nat)=>othI (ndI ls i) k
theorem z1H (ls:List Pr) (k:Int) (G:List Nat):(vm ls k G).length =G.length:=by simp[vm]
theorem z0b (vn vl:Value) (ns ls:List Pr) (k:Int) (w:World) (hn:RP w vn ns) (hl:RP w vl ls) (hk:hasN ns ls k=true):
  Calls Tryz.prog 217 #[.agg #[vn,vl],.int .i64 k] w (RetI (vm ls k (atN ls k ls.length)) w):=by
 have GN:ls.length<=20:=(zu.1 (xH hk).1).2.2.1;obtain⟨Al,cl,rfl,Hz,GM,gg⟩:=hl.formI;obtain⟨i0,hi,iz0,iz1,iz2⟩:=info_parts qq;unfold maxLen at GM
 go_enter Tryz.func217,Tryz.ntmps217
 go_wp2_with fail
 refine(xe _ _ ns ls _ _ (hn.below bel_) (hl.below bel_) hk).mono ?_
 rintro e w1 ⟨v1,rfl,Hj,Hb⟩;have us:=Hb.size;simp at us
 obtain⟨A1,c1,rfl⟩:=Hj.form;have gc:Blk w1 w.heap.size 27 #[vn,.slice Al ls.length cl]:=Blk.below (Blk.newAt rfl) Hb sz_;have Ha:Below w.heap.size w w1:=bel_
 have Mk:=Hj.reads;have hglen:=Jr ls k ls.length;have Cf:=h_ (z17 ls k ls.length);have fQ:=za (atN ls k ls.length);obtain⟨A1',c1',e1,gl,hmG,nE⟩:=Mk.form
 cases e1
 generalize atN ls k ls.length=G at*;rw[fQ] at nE;have nF:=h_ fQ;obtain⟨a_0,a_1⟩:=gc.c2;have Wc:((natI G).length :Int)=(G.length:Int):=by rw[nF.out]
 go_wp2
 go_loopw [5,12] (fun v i wr=>∃j:Nat,j<=G.length/\i= .int .i64 j/\OwnI w1.heap.size wr v (vm ls k (G.take j))/\Blk wr w.heap.size 27 #[vn,.slice Al ls.length cl]/\Below w1.heap.size w1 wr) (fun _ i _=>G.length -(intOf i).toNat)
 case atStart=>exact⟨0,aab _,rfl,OwnI.nil _ _,gc,aaj _ _⟩
 case round=>
  obtain⟨j,hj,rfl,ho,hW,Hd⟩:=hrel;have gI:=hW.lt;have uf:=Hd.size;obtain⟨a_0,a_1⟩:=hW.c2
  by_cases Hf:j<G.length
  ·obtain⟨bg,og,rfl,mo,hcg⟩:=nE o_
   have q:=(Hd.cell (p:=⟨bg,og+j,none⟩) mo).trans (hcg j Hf);have e2:(natI G).getD j 0=((G[j]:Nat):Int):=by simp[natI,List.getD,Hf]
   rw[e2] at q;have hgj:=(Cf.out G[j] (abg Hf)).1
   have HS:Hid (vm ls k (G.take (j+1))=vm ls k (G.take j)++[othI (ndI ls (G[j]:Nat)) k]):=h_ (by
    unfold vm;rw[aax Hf,aaz];rfl)
   have HL:Hid ((vm ls k (G.take j)).length =j):=h_ (by rw[z1H];simp;omega);generalize G[j]=p at*;obtain⟨b,off,rfl,hb,Gj⟩:=gg o_;obtain⟨k0,k1⟩:=Gj p hgj;have gi:Below w.heap.size w wr:=Ha.trans (Hd.mono Ha.size);have q0:=(gi.cell (p:=⟨b,off+p*2,none⟩) hb).trans k0;have q1:=(gi.cell (p:=⟨b,off+p*2+1,none⟩) hb).trans k1;have Cz:(0:Int)<=(j:Int):=o_
   have CS:(j:Int)<(G.length:Int):=o_
   have NO:(0:Int)<=(p:Int):=o_
   have hi4:(p:Int)<(ls.length:Int):=o_
   generalize ndI ls (p:Int)=L at*;obtain⟨l1,l2⟩:=L;simp only at q0 q1
   go_wp2_with fail
   refine(z4k _ _ _ _).mono ?_
   rintro e w2 ⟨rfl,Hh⟩;have Gp:=Hh.size;have Hn:=ho.kept Hh;have gX:=hW.below Hh gI;have Ge:Below w1.heap.size w1 w2:=Hd.trans (Hh.mono uf);obtain⟨A2,c2,rfl⟩:=Hn.form;generalize othI (l1,l2) k=x at*
   go_wp2_with (at_builtin;refine wpList_append_own _ rfl _ _ 31 rfl w1.heap.size 3 i0 (.int .i64 0) 1 8 Tryz.underlying31 hi iz0 iz1 iz2 rfl (by decide) _ _ _ rfl (World.ownsRow.alloc Hn _) ⟨w2.heap.size,0,none⟩ 1 1 [.int .i64 _] rfl rfl (ju (by simp)) (by intro u hu;simp at hu;subst hu;rfl) (by rw[HL.out];unfold maxLen;omega) (by rw[HL.out];omega) (by simp;omega) ?_)
   intro v3 w3 CF gq _;have Hw:∀b,(Value.slice A2 (vm ls k (G.take j)).length c2).ownBlock =some b->w1.heap.size<=b:=fun b hb=>(Hn.lt b hb).1
   have Gz:=(gX.alloc (.cells #[.int .i64 x] 3)).grownR gq (fun b hb=>by have:=Hw b hb;omega);have HO:OwnI w1.heap.size w3 v3 (vm ls k (G.take j)++[x]):=OwnI.snoc CF;have gy:Below w1.heap.size w1 w3:=(Below.alloc Ge o_ _).grown gq sz_ (fun b hb=>Hw b hb);go_wp2;go_roundw
   case rel=>exact⟨j+1,by omega,by go_num,by rw[HS.out];exact HO,Gz,gy⟩
   case measure=>simp[intOf];omega
  ·have GS:j=G.length:=o_
   subst GS;rw[aaA] at ho;go_wp2;go_ret
   exact⟨_,rfl,ho.mono (show w.heap.size<=w1.heap.size by omega),Ha.trans (Hd.mono Ha.size)⟩
noncomputable def zW (ns ls:List Pr) (k:Int):Bool:=
 decide (degI ns ls k=2)&&jh (ndI ns ((vm ls k (atN ls k ls.length)).getD 0 0)) (ndI ns ((vm ls k (atN ls k ls.length)).getD 1 0)) (ndI ns k)
theorem deg2 {ns ls:List Pr} {k:Int} (h:degI ns ls k=2):hasN ns ls k=true/\(atN ls k ls.length).length =2:=by
 unfold degI at h
 cases hk:hasN ns ls k
 ·rw[hk] at h;simp at h
 ·rw[hk] at h
  simp at h
  exact⟨rfl,by omega⟩
theorem z4I {ns ls:List Pr} {k:Int} (hw:zC ns ls) {i:Nat} (hi:i<ls.length) (ht:jR ls k i=true):∃t:Nat,othI (ndI ls i) k=(t:Int)/\t<ns.length/\(t:Int)≠k:=by
 obtain⟨h1,h2,h3,_⟩:=zZ.1 ((hw.2.2.2.2.2 i hi).1);unfold othI
 by_cases e1:k=(ndI ls i).1
 ·rw[aao e1]
  exact⟨(ndI ls i).2.toNat,by omega,by omega,by omega⟩
 ·rw[aaq e1]
  have e2:=Zr ht (fun h=>e1 h.symm);rw[aao e2.symm];exact⟨(ndI ls i).1.toNat,by omega,by omega,by omega⟩
theorem Xa {ns ls:List Pr} {k:Int} (hw:zC ns ls) (h2:(atN ls k ls.length).length =2):
  ∃p q t u:Nat,atN ls k ls.length=[p,q]/\p<ls.length/\q<ls.length/\vm ls k (atN ls k ls.length)=[(t:Int),(u:Int)]/\t<ns.length/\u<ns.length/\(t:Int)≠k/\(u:Int)≠k/\
   othI (ndI ls p) k=(t:Int)/\othI (ndI ls q) k=(u:Int):=by
 have Hf:=z17 ls k ls.length;generalize atN ls k ls.length=G at*
 obtain⟨p,q,rfl⟩:∃p q,G=[p,q]:=by
  match G,h2 with
  | [p,q],_=>exact⟨p,q,rfl⟩
 obtain⟨hp,tp⟩:=Hf p (by simp);obtain⟨hq,tq⟩:=Hf q (by simp);obtain⟨t,e1,ht,MW⟩:=z4I hw hp tp;obtain⟨u,e2,hu,Be⟩:=z4I hw hq tq;exact⟨p,q,t,u,rfl,hp,hq,by simp[vm,e1,e2],ht,hu,MW,Be,e1,e2⟩
theorem Xu (vn vl:Value) (ns ls:List Pr) (k:Int) (w:World) (hn:RP w vn ns) (hl:RP w vl ls):
  CB_ 216 #[.agg #[vn,vl],.int .i64 k] w (.bool (zW ns ls k)):=by
 by_cases hd:degI ns ls k=2
 case neg=>
  have HR:Hid (zW ns ls k=false):=h_ (by simp[zW,hd]);obtain⟨d,C1⟩:∃d,degI ns ls k=d:=⟨_,rfl⟩;have ut:(d != 2)=true:=by rw[<-C1];simpa using hd
  have HD:=h_ C1
  go_enter Tryz.func216,Tryz.ntmps216
  go_wp2_with fail
  refine(ZY _ _ ns ls _ _ (hn.below bel_) (hl.below bel_)).mono ?_
  rw[HD.out];rintro e w1 ⟨rfl,Hb⟩;go_wp2;go_ret
  exact⟨z8 HR.out.symm,by exact bel_⟩
 obtain⟨hk,h2⟩:=deg2 hd;obtain⟨hw,m,rfl,hm⟩:=xH hk;have Hk:=zu.1 hw;obtain⟨p,q,t,u,eG,hp,hq,eE,ht,hu,_,_,_,_⟩:=Xa Hk h2
 have HR:Hid (zW ns ls m=yI (ndI ns t).1 (ndI ns t).2 (ndI ns u).1 (ndI ns u).2 (ndI ns m).1 (ndI ns m).2):=h_ (by
  unfold zW;rw[hd,eE];simp[jh])
 have HD:=h_ hd;have FG:=Hk.2.1;obtain⟨An,cn,rfl,FQ,GW,Hp⟩:=hn.formI;unfold maxLen at GW;obtain⟨bn,offn,rfl,Gh,Gj⟩:=Hp o_;obtain⟨t0,t1⟩:=Gj t ht;obtain⟨u0,u1⟩:=Gj u hu;obtain⟨m0,m1⟩:=Gj m hm;have it1:(0:Int)<=(t:Int):=o_
 have it2:(t:Int)<(ns.length:Int):=o_
 have iu1:(0:Int)<=(u:Int):=o_
 have iu2:(u:Int)<(ns.length:Int):=o_
 have im1:(0:Int)<=(m:Int):=o_
 have im2:(m:Int)<(ns.length:Int):=o_
 have HE:=h_ eE
 go_enter Tryz.func216,Tryz.ntmps216
 go_wp2_with fail
 refine(ZY _ _ ns ls _ _ (hn.below bel_) (hl.below bel_)).mono ?_
 rw[HD.out];rintro e w1 ⟨rfl,Hb⟩;have gc:Blk w1 w.heap.size 27 #[.slice (some ⟨bn,offn,none⟩) ns.length cn,vl]:=Blk.below (Blk.newAt rfl) Hb sz_;have Ha:Below w.heap.size w w1:=bel_
 obtain⟨a_0,a_1⟩:=gc.c2
 go_wp2_with fail
 refine(z0b _ _ ns ls _ _ (hn.below Ha) (hl.below Ha) hk).mono ?_
 rw[HE.out];rintro e w2 ⟨v2,rfl,Hn,Hh⟩;have gX:=gc.below Hh gc.lt;have Hc:Below w.heap.size w w2:=Ha.trans (Hh.mono Ha.size);obtain⟨A2,c2,e2,gV,_,GO⟩:=Hn.reads.form;subst e2;obtain⟨b2,o2,rfl,nG,GD⟩:=GO (by simp);have x0:=GD 0 (by simp);have x1:=GD 1 (by simp);simp only[List.getD_cons_zero,List.getD_cons_succ,aaf] at x0 x1
 have c0:=(Hc.cell (p:=⟨bn,offn+t*2,none⟩) Gh).trans t0;have c1':=(Hc.cell (p:=⟨bn,offn+t*2+1,none⟩) Gh).trans t1;have c3:=(Hc.cell (p:=⟨bn,offn+u*2,none⟩) Gh).trans u0;have c4:=(Hc.cell (p:=⟨bn,offn+u*2+1,none⟩) Gh).trans u1;have c5:=(Hc.cell (p:=⟨bn,offn+m*2,none⟩) Gh).trans m0;have c6:=(Hc.cell (p:=⟨bn,offn+m*2+1,none⟩) Gh).trans m1;have z1:w.heap.size<w2.heap.size:=gX.lt;have z2:bn<w2.heap.size:=o_
 obtain⟨a_0,a_1⟩:=gX.c2;simp only[aaU,List.length_nil,aaF] at gV
 go_wp2_with fail
 (refine z7 k_ k_ (fun hG=>?_))
 repeat (go_big_quiet_step ((go_at_call 213;exact zE (kO _ _ _ _ _ _ _))))
 (refine wpQuiet_nil ?_);(clear hG);(rintro w3 ⟨⟨_,Hg⟩,rfl⟩);(try dsimp only)
 go_wp2;go_ret
 exact⟨z8 HR.out.symm,by exact bel_⟩
end Go.Proofs.YtnjcpljhmhdhkaaGreat
