/- part 6 -/
import Derived.Test.YtnjcpljhmhdhkaaGreatEPk5
import Derived.Test.YtnjcpljhmhdhkaaGreatRows
import Derived.ProofKit
import Derived.OpenShut
import Derived.Lib.SmallJoins
import Derived.Carry
import Derived.Deep.RegionHeld3
set_option linter.unusedSimpArgs false
set_option linter.unusedVariables false
set_option maxRecDepth 100000
set_option maxHeartbeats 8000000
namespace Go.Proofs.YtnjcpljhmhdhkaaGreat
open Go.RowKit
attribute [local go_sem ↓] zR zQ
def kS (a b x:Int):Int:=if x=mx2 a b then mn2 a b else x
def mgK (a b:Int) (g:List Int) (j:Nat):List Int:=(g.take j).map (kS a b)++g.drop j
theorem z7e (a b:Int) (g:List Int):mgK a b g 0=g:=by simp[mgK]
theorem z8q (a b:Int) (g:List Int):mgK a b g g.length=g.map (kS a b):=by simp[mgK]
theorem z3X (a b:Int) (g:List Int) (j:Nat):(mgK a b g j).length =g.length:=by
 simp[mgK];omega
theorem z47 (a b:Int) (g:List Int) (j:Nat) (h:j<g.length):(mgK a b g j).getD j 0=g.getD j 0:=by
 unfold mgK;rw[List.getD,abb (by simp;omega)];simp[List.getD,show min j g.length=j by omega]
theorem z2z (a b:Int) (g:List Int) (j:Nat) (h:j<g.length):mgK a b g (j+1)=(mgK a b g j).set j (kS a b (g.getD j 0)):=by
 unfold mgK;rw[aan,aaq (by simp;omega),aax h,aas h];have e:((g.take j).map (kS a b)).length =j:=by simp;omega
 rw[e,aae,aal,aaz,aaS,aaT,aay,List.singleton_append,show g.getD j 0=g[j] by simp[List.getD,h]]
theorem z8e {a b:Int} {g:List Int} {j:Nat} (h:j<g.length) (he:g.getD j 0=mx2 a b):mgK a b g (j+1)=(mgK a b g j).set j (mn2 a b):=by
 rw[z2z a b g j h,kS,aao he]
theorem z2f:∀(l:List Int) (j:Nat) (h:j<l.length),l.set j (l.getD j 0)=l
 |x::l,0,_=>rfl
 |x::l,j+1,h=>by
  have:=z2f l j (by simpa using h);simp only[List.getD_cons_succ,aap,this]
theorem z8M {a b:Int} {g:List Int} {j:Nat} (h:j<g.length) (he:¬g.getD j 0=mx2 a b):mgK a b g (j+1)=mgK a b g j:=by
 rw[z2z a b g j h,kS,aaq he,<-z47 a b g j h];exact z2f _ _ (by rw[z3X];exact h)
def pstep (g:List Int) (l:Pr):List Int:=g.map (kS (g.getD l.1.toNat 0) (g.getD l.2.toNat 0))
def zm (n:Nat) (ls:List Pr) (k:Nat):List Int:=(ls.take k).foldl pstep (natI (List.range n))
theorem kU:∀(l:List Pr) (g:List Int),(l.foldl pstep g).length =g.length
 | [],g=>rfl
 |p::l,g=>by rw[List.foldl_cons,kU l];simp[pstep]
theorem jc (n:Nat) (ls:List Pr) (k:Nat):(zm n ls k).length =n:=by
 unfold zm;rw[kU];simp[natI]
theorem ZT (n:Nat) (ls:List Pr):zm n ls 0=natI (List.range n):=rfl
theorem vK (n:Nat) (ls:List Pr) (k:Nat) (h:k<ls.length) (p q:Nat) (hp:(ndI ls k).1=p) (hq:(ndI ls k).2=q):
  zm n ls (k+1)=(zm n ls k).map (kS ((zm n ls k).getD p 0) ((zm n ls k).getD q 0)):=by
 unfold zm;rw[aax h,List.foldl_append,List.foldl_cons,List.foldl_nil,pstep];have e:ls[k]=ndI ls k:=(qd ls k h).symm;rw[e,hp,hq,aa5,aa5]
theorem z4x (k:Nat):natI (List.range (k+1))=natI (List.range k)++[(k:Int)]:=by simp[natI,abe]
theorem Jx (vn vl:Value) (ns ls:List Pr) (w:World) (hn:RP w vn ns) (hl:RP w vl ls) (hm:ls.length<=20) (f8:ns.length<=12) (Fn:0<ns.length) (Ho:∀j:Nat,j<ls.length->zv ns (ndI ls j)=true):
  Calls Tryz.prog 119 #[.agg #[vn,vl]] w (RetI (zm ns.length ls ls.length) w):=by
 obtain⟨An,cn,rfl,Fk,GL,_⟩:=hn.formI;obtain⟨Al,cl,rfl,Hy,Gz,hcell⟩:=hl.formI;unfold maxLen at GL Gz;obtain⟨i0,hi,iz0,iz1,iz2⟩:=info_parts qu;have CU:=h_ Ho;have Cu:=h_ hcell;clear Ho hcell
 go_enter Tryz.func119,Tryz.ntmps119
 go_wp2
 go_loopw [3,4] (fun v i wr=>∃k:Nat,k<=ns.length/\i= .int .i64 k/\OwnI (w.heap.size+1) wr v (natI (List.range k))/\Blk wr w.heap.size 27 #[.slice An ns.length cn,.slice Al ls.length cl]/\Below w.heap.size w wr) (fun _ i _=>ns.length -(intOf i).toNat)
 case atStart=>exact⟨0,aab _,rfl,OwnI.made (by simp) (by simp),(Blk.newAt rfl).alloc _,by exact bel_⟩
 case round=>
  obtain⟨k,hk,rfl,ho,hW,Hb⟩:=hrel;have gx:=hW.lt;obtain⟨a_0,a_1⟩:=hW.c2;obtain⟨A1,c1,mE⟩:=ho.form;rw[za,List.length_range] at mE;subst mE
  by_cases Hf:k<ns.length
  ·have HS:=h_ (z4x k)
   have F0:Hid ((natI (List.range k)).length =k):=h_ (by simp[natI]);generalize natI (List.range k)=G at*
   go_wp2_with (at_builtin;refine wpList_append_own _ rfl _ _ 31 rfl (w.heap.size+1) 3 i0 (.int .i64 0) 1 8 Tryz.underlying31 hi iz0 iz1 iz2 rfl (by decide) _ _ _ rfl (World.ownsRow.alloc ho _) ⟨wr.heap.size,0,none⟩ 1 1 [.int .i64 _] rfl rfl (cell_one_new _ _ _) (by intro u hu;simp at hu;subst hu;rfl) (by rw[F0.out];unfold maxLen;omega) (by rw[F0.out];omega) (by simp;omega) ?_)
   intro v2 w2 GU gm Gs;have Hd:=(Hb.alloc (show w.heap.size<=wr.heap.size by omega) (.cells #[.int .i64 (k:Int)] 3)).grown gm (by simp;omega) (fun k hk=>by have:=(ho.lt k hk).1;omega);have gM:Blk w2 w.heap.size 27 #[.slice An ns.length cn,.slice Al ls.length cl]:=(gm.block _ (by simp;omega) (fun e=>by have:=(ho.lt _ e.symm).1;omega)).trans (hW.alloc _);have Hk:=h_ (OwnI.snoc GU);clear gm Gs GU ho hW Hb a_0 a_1;go_wp2;go_roundw
   case rel=>exact⟨k+1,by omega,by go_num,by rw[HS.out];exact Hk.out,gM,Hd⟩
   case measure=>simp[intOf];omega
  ·have gi:k=ns.length:=o_
   subst gi
   rcases FB:ho.2 with ⟨e0,e1⟩|⟨gb,cap,cur,e0,Ce,fN⟩
   ·rw[za,List.length_range] at e1;omega
   clear FB fN
   injection e0 with e0 e1 e2
   subst e0 e2;clear e1;have CW:=(ho.lt gb rfl).2;have gd:¬gb=w.heap.size:=o_
   have FA:=h_ (show OwnI (w.heap.size+1) wr (.slice (some ⟨gb,0,none⟩) ns.length c1) (zm ns.length ls 0) from ho);clear ho Hf hk;go_wp2
   go_loopw [5] (fun i wr=>∃k:Nat,k<=ls.length/\i= .int .i64 k/\OwnI (w.heap.size+1) wr (.slice (some ⟨gb,0,none⟩) ns.length c1) (zm ns.length ls k)/\Blk wr w.heap.size 27 #[.slice An ns.length cn,.slice Al ls.length cl]/\Below w.heap.size w wr/\gb<wr.heap.size) (fun i _=>ls.length -(intOf i).toNat)
   case atStart=>exact⟨0,aab _,rfl,FA.out,hW,Hb,CW⟩
   case round=>
    clear FA hW Hb CW gx a_0 a_1;obtain⟨k,hk,rfl,ho,hW,Hb,CW⟩:=hrel;obtain⟨a_0,a_1⟩:=hW.c2
    by_cases Hf:k<ls.length
    ·obtain⟨b,off,rfl,hb,Hy⟩:=Cu.out o_
     obtain⟨k0,k1⟩:=Hy k Hf;have q0:=(Hb.cell (p:=⟨b,off+k*2,none⟩) hb).trans k0;have q1:=(Hb.cell (p:=⟨b,off+k*2+1,none⟩) hb).trans k1;obtain⟨h1,h2,h3,_⟩:=zZ.1 (CU.out k Hf);obtain⟨p,hp⟩:∃p:Nat,(ndI ls k).1=p:=⟨(ndI ls k).1.toNat,by omega⟩;obtain⟨q,hq⟩:∃q:Nat,(ndI ls k).2=q:=⟨(ndI ls k).2.toNat,by omega⟩;have HS:=h_ (vK ns.length ls k Hf p q hp hq);have F0:=h_ (jc ns.length ls k);rw[hp] at q0 h1 h2;rw[hq] at q1 h2 h3;have hpn:p<ns.length:=o_
     have hqn:q<ns.length:=o_
     generalize zm ns.length ls k=G at*;have x0:=ho.cell (q:=p) (by rw[F0.out];exact hpn);have x1:=ho.cell (q:=q) (by rw[F0.out];exact hqn);obtain⟨a,ha⟩:∃a,G.getD p 0=a:=⟨_,rfl⟩;obtain⟨c,hc⟩:∃c,G.getD q 0=c:=⟨_,rfl⟩;rw[ha] at x0 HS;rw[hc] at x1 HS;have ip1:(0:Int)<=(p:Int):=o_
     have ip2:(p:Int)<(ns.length:Int):=o_
     have iq1:(0:Int)<=(q:Int):=o_
     have iq2:(q:Int)<(ns.length:Int):=o_
     have FA:=h_ (show OwnI (w.heap.size+1) wr (.slice (some ⟨gb,0,none⟩) ns.length c1) (mgK a c G 0) by rw[z7e];exact ho);clear Hy k0 k1 hp hq ha hc ho h1 h2 h3;go_wp2
     go_loopw [8] (fun x wr=>∃j:Nat,j<=ns.length/\x= .int .i64 j/\OwnI (w.heap.size+1) wr (.slice (some ⟨gb,0,none⟩) ns.length c1) (mgK a c G j)/\Blk wr w.heap.size 27 #[.slice An ns.length cn,.slice (some ⟨b,off,none⟩) ls.length cl]/\Below w.heap.size w wr/\gb<wr.heap.size) (fun x _=>ns.length -(intOf x).toNat)
     case atStart=>exact⟨0,aab _,rfl,FA.out,hW,Hb,CW⟩
     case round=>
      clear FA hW Hb CW a_0 a_1 q0 q1 x0 x1;obtain⟨j,hj,rfl,ho,hW,Hb,CW⟩:=hrel;obtain⟨a_0,a_1⟩:=hW.c2
      by_cases hlj:j<ns.length
      ·have Yx:j<G.length:=by rw[F0.out];exact hlj
       have x0:=ho.cell (q:=j) (by rw[z3X];exact Yx);rw[z47 a c G j Yx] at x0;have HY:=h_ (fun he=>z8e (a:=a) (b:=c) Yx he);have HN:=h_ (fun he=>z8M (a:=a) (b:=c) Yx he);generalize G.getD j 0=x at*
       by_cases he:x=mx2 a c
       ·have e1:(x==mx2 a c)=true:=beq_iff_eq.2 he
        have fp:=ho.frz j;have HO:=h_ (show OwnI (w.heap.size+1) (wr.setCell ⟨gb,j,none⟩ (.int .i64 (mn2 a c))) (.slice (some ⟨gb,0,none⟩) ns.length c1) (mgK a c G (j+1)) by rw[HY.out he];exact ho.set_ j _);have cV:=h_ (Hb.setCell (p:=⟨gb,j,none⟩) (show w.heap.size<=gb by omega) (.int .i64 (mn2 a c)));have CX:=h_ (hW.far (p:=⟨gb,j,none⟩) (Ne.symm gd) (.int .i64 (mn2 a c)));clear ho hW Hb he a_0 a_1;go_wp2;go_roundw
        case rel=>exact⟨j+1,by omega,by go_num,HO.out,CX.out,cV.out,by simpa using CW⟩
        case measure=>simp[intOf];omega
       ·have e1:(x==mx2 a c)=false:=beq_eq_false_iff_ne.2 he
        have HO:=h_ (show OwnI (w.heap.size+1) wr (.slice (some ⟨gb,0,none⟩) ns.length c1) (mgK a c G (j+1)) by rw[HN.out he];exact ho);clear ho he;go_wp2;go_roundw
        case rel=>exact⟨j+1,by omega,by go_num,HO.out,hW,Hb,CW⟩
        case measure=>simp[intOf];omega
      ·have GP:j=ns.length:=o_
       subst GP
       have HO:=h_ (show OwnI (w.heap.size+1) wr (.slice (some ⟨gb,0,none⟩) ns.length c1) (zm ns.length ls (k+1)) by
        rw[HS.out,<-z8q];rw[F0.out];exact ho)
       clear ho;go_wp2;go_roundw
       case rel=>exact⟨k+1,by omega,by go_num,HO.out,hW,Hb,CW⟩
       case measure=>simp[intOf];omega
    ·have gi:k=ls.length:=o_
     subst gi;have HO:=h_ ho;clear ho;go_wp2;go_ret
     exact⟨_,rfl,HO.out.mono o_,Hb⟩
noncomputable def ze (ns ls:List Pr):Bool:=winB ns ls&&(decide (0<ls.length)&&(zm ns.length ls ls.length).all (· ==0))
theorem zM {ns ls:List Pr} (h:ze ns ls=true):zC ns ls/\0<ls.length:=by
 unfold ze at h;rw[aaG,aaG] at h;exact⟨zq.1 h.1,by simpa using h.2.1⟩
theorem z2Z (vn vl:Value) (ns ls:List Pr) (w:World) (hn:RP w vn ns) (hl:RP w vl ls):
  CB_ 45 #[.agg #[vn,vl]] w (.bool (ze ns ls)):=by
 obtain⟨An,cn,rfl,Fk,GL,_⟩:=hn.formI;obtain⟨Al,cl,rfl,Hy,Gz,_⟩:=hl.formI;unfold maxLen at GL Gz;have Hg:Below w.heap.size w (w.alloc (.cells #[.slice An ns.length cn,.slice Al ls.length cl] 27)):=bel_
 cases hw:winB ns ls
 ·have HR:Hid (ze ns ls=false):=h_ (by simp[ze,hw])
  go_enter Tryz.func45,Tryz.ntmps45
  go_wp2_with fail
  refine(zF _ _ ns ls _ _ (hn.below Hg) (hl.below Hg) hw).mono ?_
  rintro e w1 ⟨rfl,h9⟩;go_wp2;go_ret
  exact⟨z8 HR.out.symm,by exact bel_⟩
 ·by_cases h0:ls.length=0
  ·have HR:Hid (ze ns ls=false):=h_ (by simp[ze,hw,h0])
   have e1:((ls.length:Int)==0)=true:=by simp[h0]
   clear h0
   go_enter Tryz.func45,Tryz.ntmps45
   go_wp2_with fail
   refine(zF _ _ ns ls _ _ (hn.below Hg) (hl.below Hg) hw).mono ?_
   rintro e w1 ⟨rfl,h9⟩;(have gc:=bcC h9)
   go_wp2;go_ret
   exact⟨z8 HR.out.symm,by exact bel_⟩
  ·have gV:=zq.1 hw
   have HR:Hid (ze ns ls=(zm ns.length ls ls.length).all (· ==0)):=h_ (by simp[ze,hw];omega);have e1:((ls.length:Int)==0)=false:=by simp[h0]
   have Fc:=h_ gV;clear gV h0
   go_enter Tryz.func45,Tryz.ntmps45
   go_wp2_with fail
   refine(zF _ _ ns ls _ _ (hn.below Hg) (hl.below Hg) hw).mono ?_
   rintro e w1 ⟨rfl,h9⟩;have h8:Below w.heap.size w w1:=bel_
   have Hz:Blk w1 w.heap.size 27 #[.slice An ns.length cn,.slice Al ls.length cl]:=(Blk.newAt rfl).below h9 (by simp);obtain⟨a_0,a_1⟩:=Hz.c2;clear h9
   go_wp2_with fail
   refine(Jx _ _ ns ls _ (hn.below h8) (hl.below h8) Fc.out.2.2.1 Fc.out.2.1 Fc.out.1 (fun j hj=>(Fc.out.2.2.2.2.2 j hj).1)).mono ?_
   rintro e w2 ⟨v,rfl,Hk,Hd⟩;have Ha:=h8.trans (Hd.mono h8.size);obtain⟨A,c,rfl,hc,hm,hcell⟩:=Hk.reads.form;generalize zm ns.length ls ls.length=G at*;unfold maxLen at hm;clear Hd Hk Hz a_0 a_1 h8 hw;go_wp2
   go_loop [4] (fun i=>∃k:Nat,k<=G.length/\i= .int .i64 k/\(G.take k).all (· ==0)=true) (fun i=>G.length -(intOf i).toNat)
   case atStart=>exact⟨0,aab _,rfl,by simp⟩
   case round=>
    obtain⟨k,hk,rfl,GJ⟩:=hrel
    by_cases Hf:k<G.length
    ·obtain⟨b,off,rfl,hb,Hy⟩:=hcell o_
     have G8:=Hy k Hf;clear Hy hcell
     have hts:(G.take (k+1)).all (· ==0)=(G.getD k 0==0):=by
      rw[aax Hf,List.all_append,GJ];simp[List.getD,aac Hf]
     have Yp:(G.getD k 0==0)=false->G.all (· ==0)=false:=by
      intro h0;rw[List.all_eq_false];exact⟨G[k],abg Hf,by simpa[List.getD,aac Hf] using h0⟩
     generalize hx:G.getD k 0=x at*;have rp:=h_ hts;have HEX:=h_ Yp;clear hts Yp GJ hx
     by_cases hq:x=0
     ·have HQ:Hid ((x==0)=true):=h_ (by simp[hq])
      have e2:(x != 0)=false:=by simp[hq]
      clear hq;go_wp2;go_round
      case rel=>exact⟨k+1,by omega,by go_num,by rw[rp.out];exact HQ.out⟩
      case measure=>simp[intOf];omega
     ·have HQ:Hid ((x==0)=false):=h_ (by simp[hq])
      have e2:(x != 0)=true:=by simp[hq]
      clear hq;go_wp2;go_ret
      exact⟨z8 (by rw[HR.out];exact(HEX.out HQ.out).symm),Ha⟩
    ·have gi:G.length<=k:=o_
     rw[aaK gi] at GJ;have HA:=h_ GJ;clear GJ hcell;go_wp2;go_ret
     exact⟨z8 (by rw[HR.out];exact HA.out.symm),Ha⟩
theorem qR (vn vl:Value) (ns ls:List Pr) (b:Bool) (w:World) (hn:RP w vn ns) (hl:RP w vl ls) (hb:ze ns ls=b):
  CB_ 45 #[.agg #[vn,vl]] w (.bool b):=by
 subst hb;exact z2Z vn vl ns ls w hn hl
def addS (s:Nat) (l:Pr):Nat:=if s.testBit l.1.toNat ||s.testBit l.2.toNat then s ||| (2^l.1.toNat ||| 2^l.2.toNat) else s
def qi (s:Nat) (ls:List Pr):Nat:=ls.foldl addS s
def zH (s:Nat) (ls:List Pr):Nat->Nat
 |0=>s
 |k+1=>qi (zH s ls k) ls
theorem z1J (s:Nat) (l:Pr) {i:Nat} (h:s.testBit i=true):(addS s l).testBit i=true:=by
 unfold addS
 split
 ·rw[aa1,h];rfl
 ·exact h
theorem vD:∀(ls:List Pr) (s:Nat) {i:Nat},s.testBit i=true->(qi s ls).testBit i=true
 | [],s,i,h=>h
 |l::ls,s,i,h=>by
  show(qi (addS s l) ls).testBit i=true
  exact vD ls _ (z1J s l h)
theorem k8 (s:Nat) (a b:List Pr):qi s (a++b)=qi (qi s a) b:=by simp[qi]
theorem z8i {s m:Nat} {l:Pr} (hs:s<2^m) (h1:l.1.toNat <m) (h2:l.2.toNat <m):addS s l<2^m:=by
 unfold addS
 split
 ·exact Nat.or_lt_two_pow hs (Nat.or_lt_two_pow (aa3 o_ h1) (aa3 o_ h2))
 ·exact hs
theorem xG {m:Nat}:∀(ls:List Pr) (s:Nat),s<2^m->(∀l∈ls,l.1.toNat <m/\l.2.toNat <m)->qi s ls<2^m
 | [],s,h,_=>h
 |l::ls,s,h,hl=>by
  show qi (addS s l) ls<2^m
  exact xG ls _ (z8i h (hl l (by simp)).1 (hl l (by simp)).2) (fun x hx=>hl x (by simp[hx]))
theorem kw {m:Nat} {ls:List Pr} {s:Nat} (h:s<2^m) (hl:∀l∈ls,l.1.toNat <m/\l.2.toNat <m):∀k,zH s ls k<2^m
 |0=>h
 |k+1=>xG ls _ (kw h hl k) hl
theorem XX {s:Nat} {ls:List Pr} (h:qi s ls=s):∀l∈ls,(s.testBit l.1.toNat =true↔s.testBit l.2.toNat =true):=by
 have key:∀(ls:List Pr) (t:Nat),(∀i,s.testBit i=true->t.testBit i=true)->(∀i,(qi t ls).testBit i=true->s.testBit i=true)->∀l∈ls,(s.testBit l.1.toNat =true↔s.testBit l.2.toNat =true):=by
  intro ls
  induction ls with
  |nil=>intro t _ _ l hl;cases hl
  |cons x ls ih=>
   intro t h1 h2 l hl;have h3:∀i,(addS t x).testBit i=true->s.testBit i=true:=fun i hi=>h2 i (vD ls _ hi)
   rcases List.mem_cons.1 hl with rfl|hl
   ·have h4:s.testBit l.1.toNat =true∨s.testBit l.2.toNat =true->s.testBit l.1.toNat =true/\s.testBit l.2.toNat =true:=by
     intro Ci
     have ht:(t.testBit l.1.toNat ||t.testBit l.2.toNat)=true:=by
      rcases Ci with h5|h5
      ·rw[h1 _ h5];rfl
      ·rw[h1 _ h5,Bool.or_true]
     have e:addS t l=t ||| (2^l.1.toNat ||| 2^l.2.toNat):=by unfold addS;rw[aao ht]
     constructor
     ·exact h3 _ (by rw[e];simp[aa1,aby])
     ·exact h3 _ (by rw[e];simp[aa1,aby])
    exact⟨fun h5=>(h4 (.inl h5)).2,fun h5=>(h4 (.inr h5)).1⟩
   ·exact ih (addS t x) (fun i hi=>z1J t x (h1 i hi)) h2 l hl
 exact key ls s (fun _ h=>h) (fun i hi=>by rw[h] at hi;exact hi)
theorem z4F {s t m:Nat} (h:∀i,s.testBit i=true->t.testBit i=true):(memS s m).length <=(memS t m).length :=by
 induction m with
 |zero=>simp[memS]
 |succ m ih=>
  cases hs:s.testBit m
  ·rw[jv hs]
   cases ht:t.testBit m
   ·rw[jv ht];exact ih
   ·rw[qP ht];simp;omega
  ·rw[qP hs,qP (h m hs)];simp;exact ih
theorem ZB {s t m:Nat} (h:∀i,s.testBit i=true->t.testBit i=true) (hs:s<2^m) (ht:t<2^m) (gd:s≠t):(memS s m).length <(memS t m).length :=by
 have hi:∃i,i<m/\s.testBit i=false/\t.testBit i=true:=by
  apply abk
  intro hc
  apply gd
  apply Nat.eq_of_testBit_eq
  intro i
  cases h1:s.testBit i
  ·cases h2:t.testBit i
   ·rfl
   ·have hm:i<m:=by
     apply abk
     intro hm;rw[Nat.testBit_lt_two_pow (aaD ht (aaE o_ o_))] at h2
     cases h2
    exact absurd ⟨i,hm,h1,h2⟩ hc
  ·exact(h i h1).symm
 obtain⟨i,him,h1,h2⟩:=hi;clear hs ht gd
 induction m with
 |zero=>omega
 |succ m ih=>
  by_cases he:i=m
  ·subst he
   rw[jv h1,qP h2];have:=z4F (m:=i) h;simp;omega
  ·have:=ih o_
   cases hs:s.testBit m
   ·rw[jv hs]
    cases ht:t.testBit m
    ·rw[jv ht];exact this
    ·rw[qP ht];simp;omega
   ·rw[qP hs,qP (h m hs)];simp;exact this
theorem Jy {s m:Nat} {ls:List Pr} (hs:s<2^m) (h0:0<(memS s m).length) (hl:∀l∈ls,l.1.toNat <m/\l.2.toNat <m):qi (zH s ls m) ls=zH s ls m:=by
 apply abk
 intro hc
 have stay:∀k j,qi (zH s ls k) ls=zH s ls k->zH s ls (k+j)=zH s ls k:=by
  intro k j hk
  induction j with
  |zero=>rfl
  |succ j ih=>show qi (zH s ls (k+j)) ls=_;rw[ih,hk]
 have gd:∀k,k<=m->qi (zH s ls k) ls≠zH s ls k:=by
  intro k hk he;have:=stay k (m -k) he;rw[show k+(m -k)=m by omega] at this;rw[this] at hc;exact hc he
 have grow:∀k,k<=m->k<(memS (zH s ls k) m).length :=by
  intro k
  induction k with
  |zero=>intro _;exact h0
  |succ k ih=>
   intro hk;have h1:=ih o_;have h2:=ZB (s:=zH s ls k) (t:=qi (zH s ls k) ls) (m:=m) (fun i hi=>vD ls _ hi) (kw hs hl k) (xG ls _ (kw hs hl k) hl) (fun e=>gd k o_ e.symm)
   show k+1<(memS (qi (zH s ls k) ls) m).length
   omega
 have h1:=grow m (aaa _);have h2:=z0g (zH s ls m) m;omega
theorem ZQ (a b x:Int):kS a b x=x∨(x=mx2 a b/\kS a b x=mn2 a b):=by
 unfold kS;split
 ·rename_i h;exact .inr ⟨h,rfl⟩
 ·exact .inl rfl
theorem mxmn (a b:Int):(mx2 a b=a/\mn2 a b=b)∨(mx2 a b=b/\mn2 a b=a):=by
 rw[vr,Qe];omega
theorem xU {g:List Int} {f:Int->Int} {i:Nat} (h:i<g.length):(g.map f).getD i 0=f (g.getD i 0):=by
 simp[List.getD,h]
def Qq (n:Nat) (ls:List Pr):Prop:=∀j:Nat,j<ls.length->∃p q:Nat,(ndI ls j).1=p/\(ndI ls j).2=q/\p<n/\q<n
theorem QR {n:Nat} {ls:List Pr} (hl:Qq n ls):∀k,k<=ls.length->∀i,i<n->0<=(zm n ls k).getD i 0/\(zm n ls k).getD i 0<=i
 |0,_,i,hi=>by
  rw[ZT];have:(natI (List.range n)).getD i 0=(i:Int):=by simp[natI,List.getD,hi]
  rw[this];omega
 |k+1,hk,i,hi=>by
  obtain⟨p,q,h1,h2,h3,h4⟩:=hl k o_;rw[vK n ls k o_ p q h1 h2,xU (by rw[jc];exact hi)];have hb:=QR hl k o_;have hp:=hb p h3;have hq:=hb q h4;have h0:=hb i hi
  rcases ZQ ((zm n ls k).getD p 0) ((zm n ls k).getD q 0) ((zm n ls k).getD i 0) with h|⟨h,h'⟩
  ·rw[h];exact h0
  ·rw[h']
   rw[vr] at h;rw[Qe];omega
theorem vi {n:Nat} {ls:List Pr} (hl:Qq n ls) (C:Nat->Prop) (hC:∀j:Nat,j<ls.length->∀p q:Nat,(ndI ls j).1=p->(ndI ls j).2=q->(C p↔C q)):∀k,k<=ls.length->∀i,i<n->(C i↔C ((zm n ls k).getD i 0).toNat)
 |0,_,i,hi=>by
  rw[ZT];have:(natI (List.range n)).getD i 0=(i:Int):=by simp[natI,List.getD,hi]
  rw[this,aa5]
 |k+1,hk,i,hi=>by
  obtain⟨p,q,h1,h2,h3,h4⟩:=hl k o_;rw[vK n ls k o_ p q h1 h2,xU (by rw[jc];exact hi)];have ih:=vi hl C hC k o_;have hp:=ih p h3;have hq:=ih q h4;have h0:=ih i hi;have fZ:=hC k o_ p q h1 h2;generalize (zm n ls k).getD p 0=a at*;generalize (zm n ls k).getD q 0=b at*;generalize (zm n ls k).getD i 0=x at*
  rcases ZQ a b x with h|⟨h,h'⟩
  ·rw[h];exact h0
  ·rw[h',h0,h]
   rcases mxmn a b with ⟨e1,e2⟩|⟨e1,e2⟩<;>rw[e1,e2]
   ·rw[<-hp,<-hq,fZ]
   ·rw[<-hp,<-hq,fZ]
theorem Qf {n:Nat} {ls:List Pr} (hl:Qq n ls):∀k,k<=ls.length->∀j,j<k->∀p q:Nat,(ndI ls j).1=p->(ndI ls j).2=q->(zm n ls k).getD p 0=(zm n ls k).getD q 0
 |0,_,j,hj,_,_,_,_=>absurd hj o_
 |k+1,hk,j,hj,p,q,hp,hq=>by
  obtain⟨p',q',h1,h2,h3,h4⟩:=hl k o_;obtain⟨p2,q2,g1,g2,g3,g4⟩:=hl j o_;have e1:p2=p:=by rw[hp] at g1;omega
  have e2:q2=q:=by rw[hq] at g2;omega
  subst e1 e2;rw[vK n ls k o_ p' q' h1 h2,xU (by rw[jc];exact g3),xU (by rw[jc];exact g4)]
  by_cases he:j=k
  ·subst he
   have e3:p'=p2:=by rw[hp] at h1;omega
   have e4:q'=q2:=by rw[hq] at h2;omega
   subst e3 e4;generalize (zm n ls j).getD p' 0=a;generalize (zm n ls j).getD q' 0=b;unfold kS
   rcases mxmn a b with ⟨x1,x2⟩|⟨x1,x2⟩<;>rw[x1,x2]<;>split<;>split<;>simp_all
  ·rw[Qf hl k o_ j o_ p2 q2 hp hq]
theorem z4Q {n:Nat} {ls:List Pr} (hl:Qq n ls) (hn:0<n):
  (memS (zH 1 ls n) n).length =n↔(zm n ls ls.length).all (· ==0)=true:=by
 have Gm:∀l∈ls,l.1.toNat <n/\l.2.toNat <n:=by
  intro l hm;obtain⟨j,hj,e⟩:=aba hm;obtain⟨p,q,h1,h2,h3,h4⟩:=hl j hj;rw[qd ls j hj,e] at h1 h2;rw[h1,h2,aa5,aa5];exact⟨h3,h4⟩
 have h1:(1:Nat)<2^n:=Nat.one_lt_two_pow o_;have Cv:0<(memS 1 n).length :=abh (a:=0) (by simp[memS,hn]);have hf:=XX (Jy h1 Cv Gm)
 have FO:∀k,(zH 1 ls k).testBit 0=true:=by
  intro k
  induction k with
  |zero=>show(1:Nat).testBit 0=true;decide
  |succ k ih=>exact vD ls _ ih
 generalize hS:zH 1 ls n=S at*;rw[z5Q,aaL]
 constructor
 ·intro GJ x hx
  obtain⟨i,hi,e⟩:=aba hx;have Gi:i<n:=by rw[jc] at hi;exact hi
  have lab:∀k,∀i,i<n->(zH 1 ls k).testBit i=true->(zm n ls ls.length).getD i 0=(zm n ls ls.length).getD 0 0:=by
   have step:∀(m:Nat),m<=ls.length->∀s:Nat,(∀i,i<n->s.testBit i=true->(zm n ls ls.length).getD i 0=(zm n ls ls.length).getD 0 0)->∀i,i<n->(qi s (ls.take m)).testBit i=true->(zm n ls ls.length).getD i 0=(zm n ls ls.length).getD 0 0:=by
    intro m
    induction m with
    |zero=>intro _ s h i hi hb;exact h i hi (by simpa[qi] using hb)
    |succ m ih=>
     intro hm s h i hi hb;have ih':=ih o_ s h;rw[aax o_,k8] at hb;generalize qi s (ls.take m)=t at*;obtain⟨p,q,g1,g2,g3,g4⟩:=hl m o_;have fZ:=Qf hl ls.length (aaa _) m o_ p q g1 g2;rw[qd ls m o_] at g1 g2;have gS:(addS t ls[m]).testBit i=true:=hb;unfold addS at gS;rw[g1,g2,aa5,aa5] at gS
     split at gS
     ·rename_i Ci
      rw[aa1,aa1,aaH,aaH] at gS
      have bE:(zm n ls ls.length).getD p 0=(zm n ls ls.length).getD 0 0:=by
       rw[aaH] at Ci
       rcases Ci with h5|h5
       ·exact ih' p g3 h5
       ·rw[fZ];exact ih' q g4 h5
      rcases gS with h5|h5|h5
      ·exact ih' i hi h5
      ·rw[aa2] at h5
       have:p=i:=by simpa using h5
       rw[<-this];exact bE
      ·rw[aa2] at h5
       have:q=i:=by simpa using h5
       rw[<-this,<-fZ];exact bE
     ·exact ih' i hi gS
   intro k
   induction k with
   |zero=>
    intro i hi hb
    have:i=0:=by
     apply abk
     intro h;rw[show zH 1 ls 0=2^0 from rfl,aa2] at hb;have:0=i:=by simpa using hb
     omega
    rw[this]
   |succ k ih=>
    intro i hi hb;have:=step ls.length (aaa _) (zH 1 ls k) ih i hi;rw[aaA] at this;exact this hb
  have h2:=lab n i Gi (by rw[hS];exact GJ i Gi);have h3:=QR hl ls.length (aaa _) 0 hn;have h4:(zm n ls ls.length).getD i 0=x:=by simp[List.getD,hi,e]
  rw[h4] at h2;have:x=0:=o_
  simp[this]
 ·intro GJ i hi
  have hc:=vi hl (fun i=>S.testBit i=true) (fun j hj p q hp hq=>by
   have:=hf ls[j] (abg hj);rw[qd ls j hj] at hp hq;rw[hp,hq,aa5,aa5] at this;exact this) ls.length (aaa _) i hi
  rw[hc];have Hj:i<(zm n ls ls.length).length :=by rw[jc];exact hi
  have h2:=GJ (zm n ls ls.length)[i] (abg Hj);have h3:(zm n ls ls.length).getD i 0=0:=by simpa[List.getD,Hj] using h2
  rw[h3];have:=FO n;rw[hS] at this;exact this
def isoK (lt:Nat->Nat->Bool) (G:List Nat) (i:Nat):List Nat:=(G.take i).foldl (fun S d=>insN (lt d) d S) []
theorem z04 (lt:Nat->Nat->Bool) (G:List Nat):isoK lt G 0=[]:=rfl
theorem Z4 (lt:Nat->Nat->Bool) (G:List Nat) (i:Nat) (h:i<G.length):isoK lt G (i+1)=insN (lt G[i]) G[i] (isoK lt G i):=by
 unfold isoK;rw[aax h,List.foldl_append];rfl
theorem jx (lt:Nat->Nat->Bool) (G:List Nat):∀i,i<=G.length->(isoK lt G i).length =i
 |0,_=>rfl
 |i+1,h=>by rw[Z4 lt G i o_,ZL,jx lt G i o_]
def isoR (lt:Nat->Nat->Bool) (G:List Nat) (i p:Nat):List Int:=gapI (isoK lt G i) p ((G.getD i 0:Nat):Int)++natI (G.drop (i+1))
def isoH (lt:Nat->Nat->Bool) (G:List Nat) (i:Nat):List Int:=natI (isoK lt G i)++natI (G.drop i)
theorem Z8 (lt:Nat->Nat->Bool) (G:List Nat):isoH lt G 0=natI G:=by simp[isoH,z04,natI]
theorem z1W (lt:Nat->Nat->Bool) (G:List Nat):isoH lt G G.length=natI (isoK lt G G.length):=by simp[isoH,natI]
theorem z2j (lt:Nat->Nat->Bool) (G:List Nat) (i p:Nat) (h:i<G.length) (hp:p<=i):(isoR lt G i p).length =G.length:=by
 unfold isoR;rw[aaW,jq _ _ _ (by rw[jx lt G i o_];exact hp),jx lt G i o_,za,List.length_drop];omega
theorem Qo (lt:Nat->Nat->Bool) (G:List Nat) (i:Nat) (h:i<G.length):isoR lt G i i=isoH lt G i:=by
 unfold isoR isoH;have hl:=jx lt G i o_
 have e:gapI (isoK lt G i) i ((G.getD i 0:Nat):Int)=natI (isoK lt G i)++[((G.getD i 0:Nat):Int)]:=by
  have:=Zf (isoK lt G i) ((G.getD i 0:Nat):Int);rw[hl] at this;exact this
 rw[e,aay,aas h,show G.getD i 0=G[i] by simp[List.getD,h]];rfl
theorem XI (lt:Nat->Nat->Bool) (G:List Nat) (i p:Nat) (h:i<G.length) (hp:p<=i):(isoR lt G i p).getD p 0=((G.getD i 0:Nat):Int):=by
 have hl:=jx lt G i o_;unfold isoR gapI natI;have e:(List.map (fun (d:Nat)=>(d:Int)) ((isoK lt G i).take p)).length =p:=by simp;omega
 rw[List.getD,aay,abb o_,e,aae];rfl
theorem Vu (lt:Nat->Nat->Bool) (G:List Nat) (i p:Nat) (h:i<G.length) (hp:p<i):(isoR lt G i (p+1)).getD p 0=(((isoK lt G i).getD p 0:Nat):Int):=by
 have hl:=jx lt G i o_;have h1:=zaj (isoK lt G i) p ((G.getD i 0:Nat):Int) o_;have h2:=jq (isoK lt G i) (p+1) ((G.getD i 0:Nat):Int) o_;unfold isoR;rw[List.getD,abc o_];exact h1
theorem Xq (lt:Nat->Nat->Bool) (G:List Nat) (i p:Nat) (h:i<G.length) (hp:p<i):
  ((isoR lt G i (p+1)).set (p+1) (((isoK lt G i).getD p 0:Nat):Int)).set p ((G.getD i 0:Nat):Int)=isoR lt G i p:=by
 have hl:=jx lt G i o_;have h1:=Z9 (isoK lt G i) p ((G.getD i 0:Nat):Int) o_;have h2:=jq (isoK lt G i) (p+1) ((G.getD i 0:Nat):Int) o_;have h3:=jq (isoK lt G i) p (((isoK lt G i).getD p 0:Nat):Int) o_;have h4:=xB (isoK lt G i) p (((isoK lt G i).getD p 0:Nat):Int) (G.getD i 0) o_;unfold isoR;rw[aan,aao o_,h1,aan,aao o_,h4]
 congr 1
 simp[gapI,natI]
theorem Vb (lt:Nat->Nat->Bool) (G:List Nat) (i:Nat) (h:i<G.length):isoR lt G i (posN (lt G[i]) (isoK lt G i) i)=isoH lt G (i+1):=by
 have hl:=jx lt G i o_;unfold isoR isoH;rw[Z4 lt G i h];unfold insN gapI natI;rw[hl];simp[List.getD,h]
def frD (ls:List Pr) (k:Nat):Nat->List Nat
 |0=> []
 |d+1=>if zc ls d=k then frD ls k d++[d] else frD ls k d
theorem z0W {ls:List Pr} {k d:Nat} (h:¬zc ls d=k):frD ls k (d+1)=frD ls k d:=by simp[frD,h]
theorem J6 {ls:List Pr} {k d:Nat} (h:zc ls d=k):frD ls k (d+1)=frD ls k d++[d]:=by simp[frD,h]
theorem z70 (lt:Nat->Nat->Bool) (G:List Nat) (d:Nat):isoK lt (G++[d]) (G++[d]).length =insN (lt d) d (isoK lt G G.length):=by
 unfold isoK;rw[aaA,aaA,List.foldl_append];rfl
theorem Jc (ns ls:List Pr) (k:Nat):∀m,isoK (bfD ns ls k) (frD ls k m) (frD ls k m).length =ardS ns ls k m
 |0=>rfl
 |m+1=>by
  by_cases h:zc ls m=k
  ·rw[J6 h,z70,Jc ns ls k m,kt h]
  ·rw[z0W h,Jc ns ls k m,xQ h]
theorem Vz (ls:List Pr) (k:Nat):∀m e,e∈frD ls k m->e<m/\zc ls e=k
 |0,e,h=>by simp[frD] at h
 |m+1,e,h=>by
  by_cases hf:zc ls m=k
  ·rw[J6 hf,aaI,aa9] at h
   rcases h with h|rfl
   ·have:=Vz ls k m e h;exact⟨by omega,this.2⟩
   ·exact⟨by omega,hf⟩
  ·rw[z0W hf] at h
   have:=Vz ls k m e h;exact⟨by omega,this.2⟩
open Go.ChangeShapes Go.WideShapes Go.ChangeAt Go.RowKit
theorem ownK:ownKnob Tryz.prog.godebug=none:=by kernel_rfl
theorem z9g:laidOutB Tryz.prog=true:=by kernel_rfl
theorem z8W:mapsRowed Tryz.prog=true:=by kernel_rfl
def xh:Char:=Char.ofNat 32
def z42:List (List Char)->List Char
 | []=> []
 | [w]=>w
 |w::v::r=>w++xh::z42 (v::r)
theorem XW:∀(w:List Char),(w.all fun c=>c != xh)=true->wordsSigns w=[w]
 | [],_=>rfl
 |c::w,h=>by
  simp only[List.all_cons,aaG] at h
  have ih:=XW w h.2;have hc:c≠xh:=by simpa using h.1
  unfold wordsSigns
  split
  ·rename_i Fz;cases Fz
  ·rename_i Fz;injection Fz with h1 _;exact absurd h1 hc
  ·rename_i Fz;injection Fz with h1 h2;subst h1 h2;rw[ih]
theorem VH:∀(w r:List Char),(w.all fun c=>c != xh)=true->wordsSigns (w++xh::r)=w::wordsSigns r
 | [],r,_=>rfl
 |c::w,r,h=>by
  simp only[List.all_cons,aaG] at h
  have ih:=VH w r h.2;have hc:c≠xh:=by simpa using h.1
  rw[List.cons_append,wordsSigns.eq_def]
  split
  ·rename_i Fz;cases Fz
  ·rename_i Fz;injection Fz with h1 _;exact absurd h1 hc
  ·rename_i Fz;injection Fz with h1 h2;subst h1 h2;rw[ih]
theorem JI:∀(ws:List (List Char)),ws≠ []->(ws.all fun w=>w.all fun c=>c != xh)=true->wordsSigns (z42 ws)=ws
 | [],h,_=>absurd rfl h
 | [w],_,h=>by
  simp only[List.all_cons,List.all_nil,Bool.and_true] at h
  exact XW w h
 |w::v::r,_,h=>by
  rw[List.all_cons,aaG] at h
  show wordsSigns (w++xh::z42 (v::r))=_
  rw[VH w _ h.1,JI (v::r) (by simp) h.2]
def QK:List (List Char):=
 [[104,97,114,110,101,115,115],
  [98,54,97,101,99,48,57,97,48,57,100,99,50,51,56,54,52,102,52,57,99,99,52,54,49,97,56,52,51,48,50,57,98,100,102,99,48,49,48,51,56,49,54,57,48,50,99,50,49,56,101,49,101,55,55,49,98,48,57,55,51,50,97,52],
  [99,117,116],
  [97,116],
  [108,111,111,112,46,101,120,97,109,112,108,101,47,103,48,51,51,48,51,47,108,97,119,115,46,70,110,84,111,112],
  [108,111,111,112,46,101,120,97,109,112,108,101,47,103,48,51,51,48,51,47,108,97,119,115,46,70,110,69,120,97,99,116,83,119,97,112,67,111,108,111,114,115],
  [108,111,111,112,46,101,120,97,109,112,108,101,47,103,48,51,51,48,51,47,108,97,119,115,46,70,110,69,120,97,99,116,67,111,108,111,114,65,108,108],
  [108,111,111,112,46,101,120,97,109,112,108,101,47,103,48,51,51,48,51,47,108,97,119,115,46,70,110,83,116,117,100,105,111,115],
  [108,111,111,112,46,101,120,97,109,112,108,101,47,103,48,51,51,48,51,47,108,97,119,115,46,70,110,69,120,97,99,116,83,116,111,114,101,80,97,110,101],
  [108,111,111,112,46,101,120,97,109,112,108,101,47,103,48,51,51,48,51,47,108,97,119,115,46,70,110,82,101,112,108,97,121,115],
  [108,111,111,112,46,101,120,97,109,112,108,101,47,103,48,51,51,48,51,47,108,97,119,115,46,70,110,83,99,101,110,97,114,105,111,115],
  [108,111,111,112,46,101,120,97,109,112,108,101,47,103,48,51,51,48,51,47,108,97,119,115,46,70,110,69,120,97,99,116,73,115,82,101,112,108,97,121],
  [108,111,111,112,46,101,120,97,109,112,108,101,47,103,48,51,51,48,51,47,108,97,119,115,46,70,110,69,120,97,99,116,68,111,65,99,116],
  [108,111,111,112,46,101,120,97,109,112,108,101,47,103,48,51,51,48,51,47,108,97,119,115,46,70,110,69,120,97,99,116,82,117,110,65,99,116,115]].map fun w=>w.map Char.ofNat
theorem z9m:wordsSigns Tryz.prog.initOrder.toList=QK:=by
 have h:Tryz.prog.initOrder=String.ofList (z42 QK):=by kernel_rfl
 rw[h,String.toList_ofList];exact JI QK (by decide) k_
theorem z5g:behindMainWord (wordsSigns Tryz.prog.initOrder.toList)=behindMainWord QK:=by rw[z9m]
theorem cutW:behindMainWord QK="cut".toList ::QK.drop 3:=by kernel_rfl
theorem z8b {P:Program} {r:List (List Char)} (h:behindMainWord (wordsSigns P.initOrder.toList)="cut".toList ::r):P.make=some .cut :=by
 unfold Program.make;rw[h]
 show(if _ then _ else _)=_
 rw[aaq (by decide),aao (by simp)]
theorem z5A {P:Program} {r:List (List Char)} (h:behindMainWord (wordsSigns P.initOrder.toList)="cut".toList ::r) (hs:stripLifts liftWords ("cut".toList ::r)=([],"cut".toList ::r))
  (hd:P.doorFits []=true) (hl:P.laysLater=false) (hb:P.bearsReflect=false):P.mayEnter=true:=by
 unfold Program.mayEnter;rw[h]
 show(_||_||_)=true
 rw[hs,hd,hl,hb];simp only[aaH]
 exact .inr (by simp)
theorem z5D {P:Program} {r:List (List Char)} (h:behindMainWord (wordsSigns P.initOrder.toList)="cut".toList ::r) (hs:stripLifts liftWords ("cut".toList ::r)=([],"cut".toList ::r)):P.liftsFinal=false:=by
 unfold Program.liftsFinal Program.headLifts;rw[h,hs];have e:("cut".toList =="carried".toList)=false:=by decide
 simp[e]
theorem cutK:behindMainWord (wordsSigns Tryz.prog.initOrder.toList)="cut".toList ::QK.drop 3:=z5g.trans cutW
theorem z6E:stripLifts liftWords ("cut".toList ::QK.drop 3)=([],"cut".toList ::QK.drop 3):=by kernel_rfl
theorem z9f:Tryz.prog.doorFits []=true:=by kernel_rfl
theorem z8H:Tryz.prog.laysLater=false:=by kernel_rfl
theorem z5M:Tryz.prog.bearsReflect=false:=by kernel_rfl
theorem z9b:Tryz.prog.mayEnter=true:=z5A cutK z6E z9f z8H z5M
theorem z9d:Tryz.prog.make=some .cut :=z8b cutK
theorem z95:Tryz.prog.liftsFinal=false:=z5D cutK z6E
theorem z9o {c:OpenClaim} (h:c.lifted=false):(c.lifted==Tryz.prog.liftsFinal)=true:=by rw[h,z95];rfl
theorem z9n {c:OpenClaim} (h:c.make= .cut):(Tryz.prog.make==some c.make)=true:=by rw[z9d,h];rfl
section
variable {H:Type} {enc:TypeId×Value->H} {P:Program}
theorem VY {ts:List TypeId} (hl:laidOutB P=true) {W W':World} (hb:Below W.heap.size W W') {sp:Nat->Bool}:
  ∀ {vs:List Value} {ds:List (DataW H)} {ps:List MemPlace},(∀t∈ts,P.readableRec t=true/\t<P.types.size)->
   DataW.TrodAll enc P W 0 (fun _=>true) true ts vs ds ps->(∀x∈ps,x.block<W.heap.size)->(∀x∈ps,sp x.block=true)->DataW.TrodAll enc P W' 0 sp true ts vs ds ps:=by
 induction ts with
 |nil=>
  intro vs ds ps _ h _ _;obtain⟨rfl,rfl,rfl⟩:=trodAll_nil h;exact trodAll_mk0
 |cons t ts ih=>
  intro vs ds ps hr h Hf Yy;obtain⟨v,vs',d,ds',p,q,mu,rfl,rfl,hd,fN⟩:=trodAll_cons h;subst mu;obtain⟨h1,h2⟩:=hr t (by simp);refine trodAll_cons_mk ?_ (ih (fun t' nL=>hr t' (by simp[nL])) fN (fun x hx=>Hf x (by simp[hx])) (fun x hx=>Yy x (by simp[hx])))
  exact WideElems.Trod_stays hl h1 h2 hd (fun x hx=>hb.same (Hf x (by simp[hx]))) (fun x hx=>Yy x (by simp[hx]))
theorem X8 {f:Func} {s:ChangeSpec} {apart fresh CL again:Bool} {W W':World} {args:Array Value} {v:Value} {ds gs:List (DataW H)} {before pa pv:List MemPlace}
  (hW:DataW.Whole enc P f.params.toList s.vars apart W args.toList ds gs before)
  (F2:∀(b:Nat) (sp:Nat->Bool) (hd:Bool),DataW.TrodAll enc P W' b sp hd f.resultTypes.toList (v.resultList f.resultTypes.size) (s.fn H (ds++gs)).results [])
  (mu:∀sp:Nat->Bool,(∀p∈before,sp p.block=true)->DataW.TrodAll enc P W' 0 sp true f.params.toList args.toList (s.fn H (ds++gs)).args pa)
  (rq:∀sp:Nat->Bool,(∀p∈before,sp p.block=true)->DataW.TrodVars enc P W' sp s.vars (s.fn H (ds++gs)).vars pv)
  (Yz:before=pa++pv) (hb:Below W.heap.size W W')
  (gV:∀(j:Nat) (t:TypeId) (r:Value),f.resultTypes[j]? =some t->(v.resultList f.resultTypes.size)[j]? =some r->Value.okWide P W' .any 0 t r):
  s.post enc P f apart fresh CL again W args v W':=by
 have Hf:∀p∈before,p.block<W.heap.size:=fun p hp=>hW.lt p hp
 have U2:∀p∈before,(fun b=>decide (b<W.heap.size)) p.block=true:=fun p hp=>by simpa using Hf p hp
 refine⟨ds,gs,before,[],pa,pv,hW,F2 _ _ _,mu _ U2,rq _ U2,World.keptBut_mono (fun p hp=>⟨hp,?_⟩) (hb.frame (· ∈before)),fun _=>?_⟩
 ·rw[Yz,aaI] at hp
  exact Or.inr hp
 ·obtain⟨_,_,_,_,_,hz,hn⟩:=hW
  refine⟨gV,_,_,([]++pa)++pv,⟨[]++pa,pv,trodAll_append (mu _ (fun _ _=>rfl)) (F2 _ _ _),rq _ (fun _ _=>rfl),rfl,?_,?_⟩,?_⟩
  ·intro b off hp
   have Gi:MemPlace.cell b off∈before:=by rw[Yz];simpa using hp
   rw[hb.frozen (Hf _ Gi)];exact hz b off Gi
  ·intro ha
   have:=hn ha;rw[Yz] at this
   simpa using this
  ·intro p hp _
   rw[Yz]
   simpa using hp
theorem z9e {f:Func} {s:ChangeSpec} {apart fresh CL again:Bool} {W W':World} {args:Array Value} {ds gs:List (DataW H)} {before:List MemPlace} {tb:TypeId}
  (hl:laidOutB P=true) (ht:P.underlying tb=some .bool) (hrt:f.resultTypes= #[tb]) (hv:s.vars=[])
  (Uv:∀ds:List (DataW H),ds.length=f.params.size->s.fn H (ds++[])= { results:=[.lit (.bool true)],args:=ds })
  (hp:∀t∈f.params.toList,P.readableRec t=true/\t<P.types.size)
  (hW:DataW.Whole enc P f.params.toList s.vars apart W args.toList ds gs before) (Hj:ds.length=f.params.size) (hb:Below W.heap.size W W'):s.post enc P f apart fresh CL again W args (.bool true) W':=by
 have hW':=hW;obtain⟨p,q,hA,hV,rfl,hfz,hnd⟩:=hW;rw[hv] at hV;obtain⟨rfl,rfl⟩:=trodVars_none hV;have Hf:∀x∈p,x.block<W.heap.size:=fun x hx=>hW'.lt x (by simp[hx])
 refine X8 (pa:=p) (pv:=[]) hW' ?_ ?_ ?_ rfl hb ?_
 ·intro b sp hd
  rw[Uv ds Hj,hrt];exact trodAll_mk1 (shut_bool ht true)
 ·intro sp Yy
  rw[Uv ds Hj];exact VY hl hb hp hA Hf (fun x hx=>Yy x (by simp[hx]))
 ·intro sp _
  rw[Uv ds Hj,hv];exact rfl
 ·exact ok_one hrt rfl (okWide_bool_mk ht true)
end
attribute [local go_sem ↓] zr Qg zt Ql
theorem ZZ (vn vl un ul:Value) (ns ls ns' ls':List (Int×Int)) (w:World) (hn:RP w vn ns) (hl:RP w vl ls) (Bi:RP w un ns') (Gm:RP w ul ls'):
  CB_ 19 #[.agg #[vn,vl],.agg #[un,ul]] w (.bool (qO ns ls ns' ls')):=by
 obtain⟨A1,c1,rfl,gc,Cv,fC⟩:=hn.form;obtain⟨A2,c2,rfl,gE,YA,GE⟩:=hl.form;obtain⟨A3,c3,rfl,Gy,hm3,fR⟩:=Bi.form;obtain⟨A4,c4,rfl,FG,hm4,Gf⟩:=Gm.form;unfold maxLen at Cv YA hm3 hm4;clear hn hl Bi Gm
 by_cases h1:ns.length=ns'.length
 ·have e1:((ns.length:Int) != (ns'.length:Int))=false:=by simp[h1]
  by_cases h2:ls.length=ls'.length
  ·have e2:((ls.length:Int) != (ls'.length:Int))=false:=by simp[h2]
   have H1:=h_ h1;have H2:=h_ h2;clear h1 h2
   go_enter Tryz.func19,Tryz.ntmps19
   go_wp2;generalize bF:(w.alloc _).alloc _=w0;have Hg:Below w.heap.size w w0:=by rw[<-bF];exact bel_
   have hv0:w0.cell? ⟨w.heap.size,0,none⟩=some (.slice A1 ns.length c1):=by rw[<-bF];simp[go_sem]
   have mE:w0.cell? ⟨w.heap.size,1,none⟩=some (.slice A2 ls.length c2):=by rw[<-bF];simp[go_sem]
   have hu0:w0.cell? ⟨w.heap.size+1,0,none⟩=some (.slice A3 ns'.length c3):=by rw[<-bF];simp[go_sem]
   have nM:w0.cell? ⟨w.heap.size+1,1,none⟩=some (.slice A4 ls'.length c4):=by rw[<-bF];simp[go_sem]
   clear bF
   go_loopw [5] (fun i wr=>∃k:Nat,∃n:Nat,k<=ns.length/\i= .int .i64 k/\Hid (ns.take k=ns'.take k)/\wr=w0.drewN n) (fun i _=>ns.length -(intOf i).toNat)
   case atStart=>exact⟨0,0,aab _,rfl,h_ (by simp),rfl⟩
   case round=>
    obtain⟨k,n,hk,rfl,HT,rfl⟩:=hrel
    by_cases Hf:k<ns.length
    ·obtain⟨b,off,rfl,hb,Hy⟩:=fC o_
     have Fj:k<ns'.length:=by rw[<-H1.out];exact Hf
     obtain⟨b',off',rfl,gS,FY⟩:=fR o_;obtain⟨k0,k1⟩:=Hy k Hf;obtain⟨j0,j1⟩:=FY k Fj;have q0:=(Hg.cell (p:=⟨b,off+k*2,none⟩) hb).trans k0;have q1:=(Hg.cell (p:=⟨b,off+k*2+1,none⟩) hb).trans k1;have p0:=(Hg.cell (p:=⟨b',off'+k*2,none⟩) gS).trans j0;have p1:=(Hg.cell (p:=⟨b',off'+k*2+1,none⟩) gS).trans j1;have ct:(0:Int)<=(k:Int):=o_
     have Cq:(k:Int)<(ns.length:Int):=o_
     have Mq:(k:Int)<(ns'.length:Int):=o_
     clear Hy fC FY fR GE Gf k0 k1 j0 j1
     cases fu:prB ns[k].1 ns[k].2 ns'[k].1 ns'[k].2
     ·have HF:Hid (qO ns ls ns' ls'=false):=h_ (by
       unfold qO;rw[Bool.and_eq_false_iff];left
       rw[aaJ];intro h;have:ns[k]=ns'[k]:=by simp[h]
       rw[this,kZ] at fu;cases fu)
      go_wp2
      go_quiet (fail)
      go_wp2;go_ret
      exact⟨z8 HF.out.symm,by exact bel_⟩
     ·have HE:Hid (ns[k]=ns'[k]):=h_ (vX.1 fu)
      go_wp2
      go_quiet (fail)
      go_wp2;go_roundw
      case rel=>exact⟨k+1,_,by omega,by go_num,h_ (vj HT.out Hf Fj HE.out),rfl⟩
      case measure=>simp[intOf];omega
    ·have gi:ns.length<=k:=o_
     have m7:ns=ns':=by
      have h:=HT.out;rw[aaK gi,aaK (by rw[<-H1.out];exact gi)] at h;exact h
     have HE:=h_ m7;clear m7 fC fR;go_wp2
     go_loopw [6] (fun i wr=>∃k:Nat,∃n:Nat,k<=ls.length/\i= .int .i64 k/\Hid (ls.take k=ls'.take k)/\wr=w0.drewN n) (fun i _=>ls.length -(intOf i).toNat)
     case atStart=>exact⟨0,_,aab _,rfl,h_ (by simp),rfl⟩
     case round=>
      obtain⟨k,n,hk,rfl,HT,rfl⟩:=hrel
      by_cases Hf:k<ls.length
      ·obtain⟨b,off,rfl,hb,Hy⟩:=GE o_
       have Fj:k<ls'.length:=by rw[<-H2.out];exact Hf
       obtain⟨b',off',rfl,gS,FY⟩:=Gf o_;obtain⟨k0,k1⟩:=Hy k Hf;obtain⟨j0,j1⟩:=FY k Fj;have q0:=(Hg.cell (p:=⟨b,off+k*2,none⟩) hb).trans k0;have q1:=(Hg.cell (p:=⟨b,off+k*2+1,none⟩) hb).trans k1;have p0:=(Hg.cell (p:=⟨b',off'+k*2,none⟩) gS).trans j0;have p1:=(Hg.cell (p:=⟨b',off'+k*2+1,none⟩) gS).trans j1;have ct:(0:Int)<=(k:Int):=o_
       have Cq:(k:Int)<(ls.length:Int):=o_
       have Mq:(k:Int)<(ls'.length:Int):=o_
       clear Hy FY GE Gf k0 k1 j0 j1
       cases fu:prB ls[k].1 ls[k].2 ls'[k].1 ls'[k].2
       ·have HF:Hid (qO ns ls ns' ls'=false):=h_ (by
         unfold qO;rw[Bool.and_eq_false_iff];right
         rw[aaJ];intro h;have:ls[k]=ls'[k]:=by simp[h]
         rw[this,kZ] at fu;cases fu)
        go_wp2
        go_quiet (fail)
        go_wp2;go_ret
        exact⟨z8 HF.out.symm,by exact bel_⟩
       ·have HE:Hid (ls[k]=ls'[k]):=h_ (vX.1 fu)
        go_wp2
        go_quiet (fail)
        go_wp2;go_roundw
        case rel=>exact⟨k+1,_,by omega,by go_num,h_ (vj HT.out Hf Fj HE.out),rfl⟩
        case measure=>simp[intOf];omega
      ·have gi:ls.length<=k:=o_
       have m7:ls=ls':=by
        have h:=HT.out;rw[aaK gi,aaK (by rw[<-H2.out];exact gi)] at h;exact h
       have HF:Hid (qO ns ls ns' ls'=true):=h_ (by simp[qO,HE.out,m7]);clear m7 GE Gf;go_wp2;go_ret
       exact⟨z8 HF.out.symm,by exact bel_⟩
  ·have e2:((ls.length:Int) != (ls'.length:Int))=true:=by simp;omega
   have HF:Hid (qO ns ls ns' ls'=false):=h_ (by
    unfold qO;rw[Bool.and_eq_false_iff];right
    rw[aaJ];intro h;exact h2 (by rw[h]))
   clear h1 fC GE fR Gf
   go_enter Tryz.func19,Tryz.ntmps19
   go_wp2;go_ret
   exact⟨z8 HF.out.symm,by exact bel_⟩
 ·have e1:((ns.length:Int) != (ns'.length:Int))=true:=by simp;omega
  have HF:Hid (qO ns ls ns' ls'=false):=h_ (by
   unfold qO;rw[Bool.and_eq_false_iff];left
   rw[aaJ];intro h;exact h1 (by rw[h]))
  clear fC GE fR Gf
  go_enter Tryz.func19,Tryz.ntmps19
  go_wp2;go_ret
  exact⟨z8 HF.out.symm,by exact bel_⟩
theorem xd (vn vl un ul:Value) (ns ls ns' ls':List (Int×Int)) (b:Bool) (w:World) (hn:RP w vn ns) (hl:RP w vl ls) (Bi:RP w un ns') (Gm:RP w ul ls') (hx:Hid (qO ns ls ns' ls'=b)):
  CB_ 19 #[.agg #[vn,vl],.agg #[un,ul]] w (.bool b):=
 (ZZ vn vl un ul ns ls ns' ls' w hn hl Bi Gm).mono fun e w' ⟨he,hw⟩=>⟨he.trans (z8 hx.out),hw⟩
theorem xF (vn vl un ul:Value) (ns ls ns' ls':List (Int×Int)) (b:Bool) (w:World) (hn:RP w vn ns) (hl:RP w vl ls) (Bi:RP w un ns') (Gm:RP w ul ls') (hx:Hid (qO ns ls ns' ls'=b)):
  CB_ 88 #[.agg #[vn,vl],.agg #[un,ul]] w (.bool b):=
 (J1 vn vl un ul ns ls ns' ls' w hn hl Bi Gm).mono fun e w' ⟨he,hw⟩=>⟨he.trans (z8 hx.out),hw⟩
attribute [local go_sem ↓] zr zt zR zQ
theorem kv (vn vl:Value) (ns ls:List Pr) (k:Int) (w:World) (hn:RP w vn ns) (hl:RP w vl ls) (hk:hasN ns ls k=true):
  Calls Tryz.prog 187 #[.agg #[vn,vl],.int .i64 k] w (RetI (natI (atN ls k ls.length)) w):=by
 have hw:winB ns ls=true:=(kW hk).1
 have Gi:inB k 0 ((ns.length:Int) -1)=true:=by
  unfold hasN at hk;rw[aaG] at hk;exact hk.2
 have GD:=(zq.1 hw).2.2.1;obtain⟨An,cn,rfl,Fk,GL,_⟩:=hn.formI;obtain⟨Al,cl,rfl,Hy,Gz,H9⟩:=hl.formI;obtain⟨i0,hi,iz0,iz1,iz2⟩:=info_parts qu;unfold maxLen at Gz GL;clear hk
 go_enter Tryz.func187,Tryz.ntmps187
 go_wp2
 go_loopw [5,6] (fun v i wr=>∃j:Nat,j<=ls.length/\i= .int .i64 j/\OwnI (w.heap.size+1) wr v (natI (atN ls k j))/\Blk wr w.heap.size 27 #[.slice An ns.length cn,.slice Al ls.length cl]/\Below w.heap.size w wr) (fun _ i _=>ls.length -(intOf i).toNat)
 case atStart=>exact⟨0,aab _,rfl,OwnI.made (by simp) (by simp),(Blk.newAt rfl).alloc _,by exact bel_⟩
 case round=>
  obtain⟨j,hj,rfl,Mb,gy,fa⟩:=hrel;have hsz0:=gy.lt;obtain⟨a_0,a_1⟩:=gy.c2
  by_cases Hf:j<ls.length
  ·have Hp:(j:Int)<(ls.length:Int):=o_
   go_wp2_with fail
   refine(zF _ _ ns ls _ _ (hn.below fa) (hl.below fa) hw).mono ?_
   rintro e w2 ⟨rfl,Hd⟩;have ho:=Mb.kept Hd;have hW:=gy.below Hd hsz0;have Hb:Below w.heap.size w w2:=fa.trans (Hd.mono fa.size);have gx:=hW.lt;clear Hd Mb gy fa a_0 a_1;obtain⟨a_0,a_1⟩:=hW.c2
   go_wp2_with fail
   refine(zP _ _ _ _ _ Gi).mono ?_
   rintro e w' ⟨rfl,rfl⟩;obtain⟨b,off,rfl,hb,Gj⟩:=H9 o_;obtain⟨k0,k1⟩:=Gj j Hf;have q0:=(Hb.cell (p:=⟨b,off+j*2,none⟩) hb).trans k0;have q1:=(Hb.cell (p:=⟨b,off+j*2+1,none⟩) hb).trans k1;have ct:(0:Int)<=(j:Int):=o_
   have Hj:=J4 ls k j;have fb:=za (atN ls k j);have HY:=h_ (fun h=>J8 (ls:=ls) (k:=k) (i:=j) h);have HN:=h_ (fun h=>z0F (ls:=ls) (k:=k) (i:=j) h);generalize atN ls k j=G at*;have HL:=h_ fb;clear fb k0 k1 Gj H9;have hG:G.length<=20:=o_
   obtain⟨A2,c2,rfl⟩:=ho.form;have Hq:∀b,(Value.slice A2 (natI G).length c2).ownBlock =some b->w.heap.size+1<=b:=fun b hb=>(ho.lt b hb).1
   cases ht:jN ls k j
   ·have HS:=h_ (HN.out ht)
    obtain⟨e3,e4⟩:=z26 ht;have e1:((ndI ls j).1==k)=false:=beq_eq_false_iff_ne.2 e3;have e2:((ndI ls j).2==k)=false:=beq_eq_false_iff_ne.2 e4;clear ht HY HN;go_wp2;go_roundw
    case rel=>exact⟨j+1,by omega,by go_num,by rw[HS.out];exact ho,hW,Hb⟩
    case measure=>simp[intOf];omega
   ·have HS:=h_ (HY.out ht)
    have r7:=fun h=>Z2 ht h
    clear ht HY HN;generalize (ndI ls j).1=L1 at*;generalize (ndI ls j).2=L2 at*
    by_cases e3:L1=k
    ·subst e3
     clear r7
     go_wp2_with (at_builtin;refine wpList_append_own _ rfl _ _ 31 rfl (w.heap.size+1) 3 i0 (.int .i64 0) 1 8 Tryz.underlying31 hi iz0 iz1 iz2 rfl (by decide) _ _ _ rfl (World.ownsRow.alloc ho _) ⟨w2.heap.size,0,none⟩ 1 1 [.int .i64 _] rfl rfl (jn (by simp)) (by intro u hu;simp at hu;subst hu;rfl) (by rw[HL.out];unfold maxLen;omega) (by rw[HL.out];omega) (by simp;omega) ?_)
     intro v3 w3 cE gn _;have GA:=(hW.alloc (.cells #[.int .i64 (j:Int)] 3)).grownR gn (fun b hb=>by have:=Hq b hb;omega);have gq:Below w.heap.size w w3:=(Below.alloc Hb o_ _).grown gn sz_ (fun b hb=>by have:=Hq b hb;omega)
     have HO:OwnI (w.heap.size+1) w3 v3 (natI (G++[j])):=by
      unfold natI;rw[aaz];exact OwnI.snoc cE
     clear cE gn ho hW Hb;go_wp2;go_roundw
     case rel=>exact⟨j+1,by omega,by go_num,by rw[HS.out];exact HO,GA,gq⟩
     case measure=>simp[intOf];omega
    ·have e4:=r7 e3
     have e1:(L1==k)=false:=beq_eq_false_iff_ne.2 e3;clear r7;subst e4
     go_wp2_with (at_builtin;refine wpList_append_own _ rfl _ _ 31 rfl (w.heap.size+1) 3 i0 (.int .i64 0) 1 8 Tryz.underlying31 hi iz0 iz1 iz2 rfl (by decide) _ _ _ rfl (World.ownsRow.alloc ho _) ⟨w2.heap.size,0,none⟩ 1 1 [.int .i64 _] rfl rfl (jn (by simp)) (by intro u hu;simp at hu;subst hu;rfl) (by rw[HL.out];unfold maxLen;omega) (by rw[HL.out];omega) (by simp;omega) ?_)
     intro v3 w3 cE gn _;have GA:=(hW.alloc (.cells #[.int .i64 (j:Int)] 3)).grownR gn (fun b hb=>by have:=Hq b hb;omega);have gq:Below w.heap.size w w3:=(Below.alloc Hb o_ _).grown gn sz_ (fun b hb=>by have:=Hq b hb;omega)
     have HO:OwnI (w.heap.size+1) w3 v3 (natI (G++[j])):=by
      unfold natI;rw[aaz];exact OwnI.snoc cE
     clear cE gn ho hW Hb;go_wp2;go_roundw
     case rel=>exact⟨j+1,by omega,by go_num,by rw[HS.out];exact HO,GA,gq⟩
     case measure=>simp[intOf];omega
  ·have GP:j=ls.length:=o_
   subst GP;clear H9;go_wp2;go_ret
   exact⟨_,rfl,Mb.mono (show w.heap.size<=w.heap.size+1 by omega),fa⟩
theorem Zy (vn vl:Value) (ns ls:List Pr) (k:Int) (w:World) (hn:RP w vn ns) (hl:RP w vl ls):
  CB_ 239 #[.agg #[vn,vl],.int .i64 k] w (.int .i64 (degI ns ls k)):=by
 obtain⟨An,cn,rfl,Fk,GL,_⟩:=hn.formI;unfold maxLen at GL
 cases hw:winB ns ls
 ·have HR:Hid (degI ns ls k= -1):=h_ (by simp[degI,hasN,hw])
  go_enter Tryz.func239,Tryz.ntmps239
  go_wp2_with fail
  refine(zF _ _ ns ls _ _ (hn.below bel_) (hl.below bel_) hw).mono ?_
  rintro e w1 ⟨rfl,h9⟩;go_wp2;go_ret
  exact⟨zo HR.out.symm,by exact bel_⟩
 cases Gi:inB k 0 ((ns.length:Int) -1)
 ·have HR:Hid (degI ns ls k= -1):=h_ (by simp[degI,hasN,Gi])
  go_enter Tryz.func239,Tryz.ntmps239
  go_wp2_with fail
  refine(zF _ _ ns ls _ _ (hn.below bel_) (hl.below bel_) hw).mono ?_
  rintro e w1 ⟨rfl,h9⟩;(have gc:=bcC h9)
  go_wp2_with fail
  refine(zP _ _ _ _ _ Gi).mono ?_
  rintro e w' ⟨rfl,rfl⟩;go_wp2;go_ret
  exact⟨zo HR.out.symm,by exact bel_⟩
 ·have hk:hasN ns ls k=true:=by simp[hasN,hw,Gi]
  have HR:Hid (degI ns ls k=((natI (atN ls k ls.length)).length :Int)):=h_ (by simp[degI,hk,za])
  go_enter Tryz.func239,Tryz.ntmps239
  go_wp2_with fail
  refine(zF _ _ ns ls _ _ (hn.below bel_) (hl.below bel_) hw).mono ?_
  rintro e w1 ⟨rfl,h9⟩;(have gc:=bcC h9)
  have h8:Below w.heap.size w w1:=bel_
  go_wp2_with fail
  refine(zP _ _ _ _ _ Gi).mono ?_
  rintro e w' ⟨rfl,rfl⟩
  go_wp2_with fail
  refine(kv _ _ ns ls _ _ (hn.below h8) (hl.below h8) hk).mono ?_
  rintro e w2 ⟨v2,rfl,Hk,Hd⟩;obtain⟨A2,c2,rfl⟩:=Hk.form;have Ha:Below w.heap.size w w2:=h8.trans (Hd.mono h8.size);go_wp2;go_ret
  exact⟨zo HR.out.symm,Ha⟩
theorem xV (l:Pr) (k x:Int) (w:World) (h:othI l k=x):
  CB_ 188 #[.agg #[.int .i64 l.1,.int .i64 l.2],.int .i64 k] w (.int .i64 x):=by
 subst h;exact z30 l.1 l.2 k w
theorem VW (vn vl:Value) (ns ls:List Pr) (k:Int) (w:World) (hn:RP w vn ns) (hl:RP w vl ls):
  CB_ 186 #[.agg #[vn,vl],.int .i64 k] w (.bool (zT ns ls k)):=by
 by_cases hd:degI ns ls k=2
 case neg=>
  have HR:Hid (zT ns ls k=false):=h_ (by simp[zT,hd]);obtain⟨d,Cf⟩:∃d,degI ns ls k=d:=⟨_,rfl⟩;have hd2:(d != 2)=true:=by rw[<-Cf];simpa using hd
  have HD:=h_ Cf
  go_enter Tryz.func186,Tryz.ntmps186
  go_wp2_with fail
  refine(Zy _ _ ns ls _ _ (hn.below bel_) (hl.below bel_)).mono ?_
  rw[HD.out];rintro e w1 ⟨rfl,h9⟩;go_wp2;go_ret
  exact⟨z8 HR.out.symm,by exact bel_⟩
 obtain⟨hk,h2⟩:=deg2 hd;obtain⟨hw,m,rfl,hm⟩:=kW hk;have Hh:=zq.1 hw;obtain⟨p,q,t,u,eG,hp,hq,eE,ht,hu,_,_,o1,o2⟩:=Vp Hh h2
 have HR:Hid (zT ns ls m=yy (ndI ns t).1 (ndI ns t).2 (ndI ns u).1 (ndI ns u).2 (ndI ns m).1 (ndI ns m).2):=h_ (by
  unfold zT;rw[hd,eE];simp[jh])
 have HD:=h_ hd;have f8:=Hh.2.1;obtain⟨An,cn,rfl,Fk,GL,Hl⟩:=hn.formI;obtain⟨Al,cl,rfl,Hy,Gz,H9⟩:=hl.formI;unfold maxLen at GL Gz;obtain⟨bn,offn,rfl,Gd,Gj⟩:=Hl o_;obtain⟨bl,offl,rfl,Hb,Gp⟩:=H9 o_;obtain⟨t0,t1⟩:=Gj t ht;obtain⟨u0,u1⟩:=Gj u hu;obtain⟨m0,m1⟩:=Gj m hm;obtain⟨p0,p1⟩:=Gp p hp;obtain⟨q0,q1⟩:=Gp q hq;have it1:(0:Int)<=(t:Int):=o_
 have it2:(t:Int)<(ns.length:Int):=o_
 have iu1:(0:Int)<=(u:Int):=o_
 have iu2:(u:Int)<(ns.length:Int):=o_
 have im1:(0:Int)<=(m:Int):=o_
 have im2:(m:Int)<(ns.length:Int):=o_
 have ip1:(0:Int)<=(p:Int):=o_
 have ip2:(p:Int)<(ls.length:Int):=o_
 have iq1:(0:Int)<=(q:Int):=o_
 have iq2:(q:Int)<(ls.length:Int):=o_
 have HG:=h_ eG;have O1:=h_ o1;have O2:=h_ o2
 go_enter Tryz.func186,Tryz.ntmps186
 go_wp2_with fail
 refine(Zy _ _ ns ls _ _ (hn.below bel_) (hl.below bel_)).mono ?_
 rw[HD.out];rintro e w1 ⟨rfl,h9⟩;have Hz:Blk w1 w.heap.size 27 #[.slice (some ⟨bn,offn,none⟩) ns.length cn,.slice (some ⟨bl,offl,none⟩) ls.length cl]:=Blk.below (Blk.newAt rfl) h9 sz_;have h8:Below w.heap.size w w1:=bel_
 obtain⟨a_0,a_1⟩:=Hz.c2
 go_wp2_with fail
 refine(kv _ _ ns ls _ _ (hn.below h8) (hl.below h8) hk).mono ?_
 rw[HG.out];rintro e w2 ⟨v2,rfl,Hk,Hd⟩;have gM:=Hz.below Hd Hz.lt;have Ha:Below w.heap.size w w2:=h8.trans (Hd.mono h8.size);obtain⟨A2,c2,e2,gE,_,GE⟩:=Hk.reads.form;subst e2;obtain⟨b2,o2,rfl,Mz,Gp⟩:=GE (by simp[natI]);have x0:=Gp 0 (by simp[natI]);have x1:=Gp 1 (by simp[natI]);simp only[natI,aaS,aaT,List.getD_cons_zero,List.getD_cons_succ,aaf] at x0 x1
 have c0:=(Ha.cell (p:=⟨bn,offn+t*2,none⟩) Gd).trans t0;have c1':=(Ha.cell (p:=⟨bn,offn+t*2+1,none⟩) Gd).trans t1;have c3:=(Ha.cell (p:=⟨bn,offn+u*2,none⟩) Gd).trans u0;have c4:=(Ha.cell (p:=⟨bn,offn+u*2+1,none⟩) Gd).trans u1;have c5:=(Ha.cell (p:=⟨bn,offn+m*2,none⟩) Gd).trans m0;have c6:=(Ha.cell (p:=⟨bn,offn+m*2+1,none⟩) Gd).trans m1;have l0:=(Ha.cell (p:=⟨bl,offl+p*2,none⟩) Hb).trans p0;have l1:=(Ha.cell (p:=⟨bl,offl+p*2+1,none⟩) Hb).trans p1;have l2:=(Ha.cell (p:=⟨bl,offl+q*2,none⟩) Hb).trans q0;have l3:=(Ha.cell (p:=⟨bl,offl+q*2+1,none⟩) Hb).trans q1;have z1:w.heap.size<w2.heap.size:=gM.lt;have z2:bn<w2.heap.size:=o_
 have z3:bl<w2.heap.size:=o_
 have z1':w.heap.size<w2.heap.size+1:=o_
 have z2':bn<w2.heap.size+1:=o_
 have z3':bl<w2.heap.size+1:=o_
 have z4':b2<w2.heap.size+1:=o_
 have YB:(natI [p,q]).length =2:=rfl;have ne1:w2.heap.size≠w.heap.size:=o_
 have ne2:w2.heap.size≠bn:=o_
 have ne3:w2.heap.size≠bl:=o_
 have ne4:w2.heap.size≠b2:=o_
 obtain⟨a_0,a_1⟩:=gM.c2;rw[YB]
 go_wp2_with fail
 go_cut [6] (fun s6 wx=>∃x:Nat,s6= .pointer (some ⟨x,0,none⟩)/\Below w2.heap.size w2 wx/\x<wx.heap.size/\(wx.cell? ⟨x,0,none⟩=some (.int .i64 (ndI ns t).1)/\wx.cell? ⟨x,1,none⟩=some (.int .i64 (ndI ns t).2)))
 case first=>
  go_region_held3 (fun w'=>w'.cell? ⟨w.heap.size,0,none⟩=some (.slice (some ⟨bn,offn,none⟩) ns.length cn)/\w'.cell? ⟨w.heap.size,1,none⟩=some (.slice (some ⟨bl,offl,none⟩) ls.length cl)/\w'.cell? ⟨b2,o2,none⟩=some (.int .i64 p)/\w'.cell? ⟨bl,offl+p*2,none⟩=some (.int .i64 (ndI ls p).1)/\w'.cell? ⟨bl,offl+p*2+1,none⟩=some (.int .i64 (ndI ls p).2)/\w'.cell? ⟨bn,offn+t*2,none⟩=some (.int .i64 (ndI ns t).1)/\w'.cell? ⟨bn,offn+t*2+1,none⟩=some (.int .i64 (ndI ns t).2))
   (go_keep)
   (first|(go_at_call 188;refine(xV (ndI ls p) _ _ _ O1.out).mono ?_;rintro e w3 ⟨rfl,He⟩;(have Gy:=bdC He);(have nK:=bdF He);have G5:=He.size;(try simp at G5)))
  all_goals go_wp2
  all_goals go_meet
  all_goals exact⟨_,rfl,by exact bel_,by first|omega|(simp;done)|(simp;omega),by first|(simp;done)|(simp[go_sem,Gy];done),by first|(simp;done)|(simp[go_sem,Gy];done)⟩
 case rest=>
  obtain⟨x,rfl,Gn,hx,f0,f1⟩:=hcut;obtain⟨w4,Bm⟩:∃w4:World,w4=wc:=⟨_,rfl⟩;subst Bm;have bv:=Gn.size;have BL:=gM.below Gn gM.lt;have x1':=(Gn.cell (p:=⟨b2,o2+1,none⟩) Mz).trans x1;have d3:=(Gn.cell (p:=⟨bn,offn+u*2,none⟩) z2).trans c3;have d4:=(Gn.cell (p:=⟨bn,offn+u*2+1,none⟩) z2).trans c4;have d5:=(Gn.cell (p:=⟨bn,offn+m*2,none⟩) z2).trans c5;have d6:=(Gn.cell (p:=⟨bn,offn+m*2+1,none⟩) z2).trans c6;have d7:=(Gn.cell (p:=⟨bl,offl+q*2,none⟩) z3).trans l2;have d8:=(Gn.cell (p:=⟨bl,offl+q*2+1,none⟩) z3).trans l3;have Hn:Below w.heap.size w w4:=Ha.trans (Gn.mono Ha.size);have y1:w.heap.size<w4.heap.size:=BL.lt;have y2:bn<w4.heap.size:=o_
  have y3:bl<w4.heap.size:=o_
  have y4:b2<w4.heap.size:=o_
  have y1':w.heap.size<w4.heap.size+1:=o_
  have y2':bn<w4.heap.size+1:=o_
  have y3':bl<w4.heap.size+1:=o_
  have y4':b2<w4.heap.size+1:=o_
  have me1:w4.heap.size≠w.heap.size:=o_
  have me2:w4.heap.size≠bn:=o_
  have me3:w4.heap.size≠bl:=o_
  have me4:w4.heap.size≠b2:=o_
  obtain⟨a_0,a_1⟩:=BL.c2
  go_wp2_with fail
  go_cut [7] (fun s7 wx=>∃y:Nat,s7= .pointer (some ⟨y,0,none⟩)/\Below w4.heap.size w4 wx/\y<wx.heap.size/\(wx.cell? ⟨y,0,none⟩=some (.int .i64 (ndI ns u).1)/\wx.cell? ⟨y,1,none⟩=some (.int .i64 (ndI ns u).2)))
  case first=>
   go_region_held3 (fun w'=>w'.cell? ⟨w.heap.size,0,none⟩=some (.slice (some ⟨bn,offn,none⟩) ns.length cn)/\w'.cell? ⟨w.heap.size,1,none⟩=some (.slice (some ⟨bl,offl,none⟩) ls.length cl)/\w'.cell? ⟨b2,o2+1,none⟩=some (.int .i64 q)/\w'.cell? ⟨bl,offl+q*2,none⟩=some (.int .i64 (ndI ls q).1)/\w'.cell? ⟨bl,offl+q*2+1,none⟩=some (.int .i64 (ndI ls q).2)/\w'.cell? ⟨bn,offn+u*2,none⟩=some (.int .i64 (ndI ns u).1)/\w'.cell? ⟨bn,offn+u*2+1,none⟩=some (.int .i64 (ndI ns u).2))
    (go_keep)
    (first|(go_at_call 188;refine(xV (ndI ls q) _ _ _ O2.out).mono ?_;rintro e w3 ⟨rfl,He⟩;(have Gy:=bdC He);(have nK:=bdF He);have G5:=He.size;(try simp at G5)))
   all_goals go_wp2
   all_goals go_meet
   all_goals exact⟨_,rfl,by exact bel_,by first|omega|(simp;done)|(simp;omega),by first|(simp;done)|(simp[go_sem,Gy];done),by first|(simp;done)|(simp[go_sem,Gy];done)⟩
  case rest=>
   obtain⟨y,rfl,Gn,hy,f2,f3⟩:=hcut;obtain⟨w5,fe⟩:∃w5:World,w5=wc:=⟨_,rfl⟩;subst fe;have UW:=Gn.size;have rs:=BL.below Gn BL.lt;have g0:=(Gn.cell (p:=⟨x,0,none⟩) hx).trans f0;have g1:=(Gn.cell (p:=⟨x,1,none⟩) hx).trans f1;have g5:=(Gn.cell (p:=⟨bn,offn+m*2,none⟩) y2).trans d5;have g6:=(Gn.cell (p:=⟨bn,offn+m*2+1,none⟩) y2).trans d6;have Hv:Below w.heap.size w w5:=Hn.trans (Gn.mono Hn.size);have e1:w.heap.size<w5.heap.size:=rs.lt;have e2:bn<w5.heap.size:=o_
   have e3:x<w5.heap.size:=o_
   obtain⟨a_0,a_1⟩:=rs.c2
   go_wp2_with fail
   (refine z7 k_ k_ (fun hG=>?_))
   repeat (go_big_quiet_step ((go_at_call 240;exact zI (vk _ _ _ _ _ _ _))))
   (refine wpQuiet_nil ?_);(clear hG);(rintro w6 ⟨⟨_,gz⟩,rfl⟩);(try dsimp only)
   go_wp2;go_ret
   exact⟨z8 HR.out.symm,by exact bel_⟩
def Conn (n:Nat) (T:List (Nat×Nat)):Prop:=∀C:Nat->Prop,(∀e∈T,(C e.1↔C e.2))->∀i,i<n->(C i↔C 0)
def labE:List (Nat×Nat)->Nat->Nat
 | [],i=>i
 |e::T,i=>if labE T i=labE T e.2 then labE T e.1 else labE T i
theorem xW:∀(T:List (Nat×Nat)) (e:Nat×Nat),e∈T->labE T e.1=labE T e.2
 | [],e,h=>by simp at h
 |f::T,e,h=>by
  simp only[labE]
  rcases List.mem_cons.1 h with rfl|h
  ·by_cases h1:labE T e.1=labE T e.2
   ·rw[aao h1,aao rfl]
   ·rw[aaq h1,aao rfl]
  ·rw[xW T e h]
theorem Z3 {p q:Nat->Bool} {z:Nat}:∀n,(∀i,i<n->i≠z->p i=true->q i=true)->((List.range n).filter p).length <=((List.range n).filter q).length +(if z<n then 1 else 0)
 |0,_=>by simp
 |n+1,h=>by
  have ih:=Z3 n (fun i hi=>h i o_);rw[abe,abf,abf,aaW,aaW]
  by_cases hz:n=z
  ·subst hz
   rw[aaq (aaV n)] at ih;rw[aao (aaB n)];have:(List.filter p [n]).length <=1:=List.length_filter_le p [n];omega
  ·have h1:(List.filter p [n]).length <=(List.filter q [n]).length :=by
    cases hp:p n
    ·simp[hp]
    ·simp[hp,h n o_ hz hp]
   split at ih
   ·rw[aao o_];omega
   ·split<;>omega
theorem Vn (n:Nat):∀T:List (Nat×Nat),n<=((List.range n).filter fun i=>labE T i==i).length +T.length
 | []=>by
  have e:(List.range n).filter (fun i=>labE [] i==i)=List.range n:=List.filter_eq_self.2 (fun a _=>by simp[labE]);rw[e];simp
 |e::T=>by
  have ih:=Vn n T
  have h:=Z3 (p:=fun i=>labE T i==i) (q:=fun i=>labE (e::T) i==i) (z:=labE T e.2) n (fun i _ hz hp=>by
   have Uw:labE T i=i:=by simpa using hp
   show(labE (e::T) i==i)=true
   simp only[labE]
   rw[aaq (by rw[Uw];exact hz),Uw];simp)
  have h2:(if labE T e.2<n then 1 else 0)<=1:=by split<;>omega
  rw[aaU];omega
theorem z2Q {n:Nat} {T:List (Nat×Nat)} (h:Conn n T):n<=T.length+1:=by
 have hc:=h (fun i=>labE T i=labE T 0) (fun e he=>by rw[xW T e he]);have h1:=Vn n T
 have h2:=Z3 (p:=fun i=>labE T i==i) (q:=fun _=>false) (z:=labE T 0) n (fun i hi hz hp=>by
  have Uw:labE T i=i:=by simpa using hp
  have:=(hc i hi).2 rfl;omega)
 have e:(List.range n).filter (fun _=>false)=[]:=by simp
 rw[e] at h2;have h3:(if labE T 0<n then 1 else 0)<=1:=by split<;>omega
 simp only[List.length_nil] at h2
 omega
def Vx (n m:Nat) (p q:Nat->Nat) (J:Nat->Bool):Prop:=∀C:Nat->Prop,(∀j,j<m->J j=true->(C (p j)↔C (q j)))->∀i,i<n->(C i↔C 0)
def cntJ (m:Nat) (J:Nat->Bool):Nat:=((List.range m).filter J).length
theorem xZ (m:Nat) (J:Nat->Bool):cntJ (m+1) J=cntJ m J+(if J m=true then 1 else 0):=by
 unfold cntJ;rw[abe,abf,aaW]
 cases h:J m<;>simp[h]
theorem z27:∀(m:Nat) (J:Nat->Bool),cntJ m J+cntJ m (fun j=> !J j)=m
 |0,_=>rfl
 |m+1,J=>by
  have:=z27 m J;rw[xZ,xZ]
  cases J m<;>simp<;>omega
theorem Z6 {J:Nat->Bool} {t:Nat} (ht:J t=true):∀m,cntJ m (fun j=>J j&&j != t)+(if t<m then 1 else 0)=cntJ m J
 |0=>by simp[cntJ]
 |m+1=>by
  have ih:=Z6 ht m;rw[xZ,xZ]
  by_cases h:m=t
  ·subst h
   rw[aaq (aaV m)] at ih;rw[aao (aaB m),aao ht];simp
   omega
  ·have e:(J m&&m != t)=J m:=by simp[h]
   rw[e]
   by_cases h2:t<m
   ·rw[aao h2] at ih;rw[aao (show t<m+1 by omega)];omega
   ·rw[aaq h2] at ih;rw[aaq (show ¬t<m+1 by omega)];omega
theorem XG {n m:Nat} {p q:Nat->Nat}:∀(k:Nat) (J:Nat->Bool),cntJ m J<=k->Vx n m p q J->∃J',Vx n m p q J'/\∀t,t<m->J' t=true->¬Vx n m p q (fun j=>J' j&&j != t)
 |0,J,hk,h=>⟨J,h,fun t ht hJ _=>by
  have:=Z6 hJ m;rw[aao ht] at this;omega⟩
 |k+1,J,hk,h=>by
  by_cases hc:∃t,t<m/\J t=true/\Vx n m p q (fun j=>J j&&j != t)
  ·obtain⟨t,ht,hJ,hC⟩:=hc
   have:=Z6 hJ m;rw[aao ht] at this;exact XG k _ o_ hC
  ·exact⟨J,h,fun t ht hJ hC=>hc ⟨t,ht,hJ,hC⟩⟩
theorem ZA {n m:Nat} {p q:Nat->Nat} {J:Nat->Bool} (h:Vx n m p q J):n<=cntJ m J+1:=by
 have h1:Conn n (((List.range m).filter J).map fun j=>(p j,q j)):=by
  intro C hC i hi;refine h C (fun j hj hJ=>hC (p j,q j) ?_) i hi
  rw[List.mem_map];exact⟨j,List.mem_filter.2 ⟨List.mem_range.2 hj,hJ⟩,rfl⟩
 have:=z2Q h1;rw[List.length_map] at this;exact this
def sumR:Nat->(Nat->Int)->Int
 |0,_=>0
 |n+1,f=>sumR n f+f n
theorem yI {f g:Nat->Int}:∀n,(∀i,i<n->f i=g i)->sumR n f=sumR n g
 |0,_=>rfl
 |n+1,h=>by simp only[sumR];rw[yI n (fun i hi=>h i o_),h n o_]
theorem Zp {f:Nat->Int}:∀n,(∀i,i<n->f i=0)->sumR n f=0
 |0,_=>rfl
 |n+1,h=>by simp only[sumR];rw[Zp n (fun i hi=>h i o_),h n o_];rfl
theorem z1v (f g:Nat->Int):∀n,sumR n (fun i=>f i+g i)=sumR n f+sumR n g
 |0=>rfl
 |n+1=>by simp only[sumR];rw[z1v f g n];omega
theorem XY (f:Nat->Nat->Int) (m:Nat):∀n,sumR n (fun i=>sumR m (fun j=>f i j))=sumR m (fun j=>sumR n (fun i=>f i j))
 |0=>(Zp m (fun _ _=>rfl)).symm
 |n+1=>by
  simp only[sumR]
  rw[XY f m n,<-z1v]
theorem Zd (f:Nat->Int) (k:Nat):∀n,sumR n (fun i=>if i=k then f i else 0)=if k<n then f k else 0
 |0=>by simp[sumR]
 |n+1=>by
  simp only[sumR]
  rw[Zd f k n]
  by_cases h:n=k
  ·subst h
   rw[aaq (aaV n),aao rfl,aao (aaB n)];omega
  ·rw[aaq h]
   by_cases h2:k<n
   ·rw[aao h2,aao o_];omega
   ·rw[aaq h2,aaq o_];omega
theorem z2x (f:Nat->Int):∀m,sumR (2*m) f=sumR m (fun j=>f (2*j)+f (2*j+1))
 |0=>rfl
 |m+1=>by
  rw[show 2*(m+1)=2*m+1+1 by omega];simp only[sumR]
  rw[z2x f m];omega
theorem Qp (f:Nat->Int):∀k,sumR (k+1) f=f 0+sumR k (fun i=>f (i+1))
 |0=>by simp[sumR]
 |k+1=>by
  have:=Qp f k;simp only[sumR] at this⊢
  omega
theorem z60 (f:Nat->Int) (n:Nat):sumR n (fun i=>f ((i+n -1)%n))=sumR n f:=by
 match n with
 |0=>rfl
 |k+1=>
  rw[Qp];have e0:(0+(k+1) -1)%(k+1)=k:=by rw[show 0+(k+1) -1=k by omega];exact abu (aaB k)
  rw[e0]
  have e1:sumR k (fun i=>f ((i+1+(k+1) -1)%(k+1)))=sumR k f:=yI k (fun i hi=>by
   rw[show i+1+(k+1) -1=i+(k+1) by omega,Nat.add_mod_right,abu o_])
  rw[e1];simp only[sumR]
  omega
theorem V8 (f:Nat->Int):∀R:List Nat,(R.map f).sum =sumR R.length (fun i=>f (R.getD i 0))
 | []=>rfl
 |a::R=>by
  rw[aaS,List.sum_cons,V8 f R,aaU,Qp];simp
noncomputable def cn (m:Nat) (p:Nat->Prop):Nat:=((List.range m).filter (fun i=> @decide (p i) (Classical.propDecidable _))).length
structure Swp (m n:Nat) where
 a:Nat->Nat
 b:Nat->Nat
 Bel:Nat->Nat->Prop
 low:Nat->Nat->Prop
 ab:∀j,j<m->a j<b j/\b j<n
 irr:∀j,j<m->¬Bel j j
 tot:∀s i j,i<m->j<m->a i<s->s<=b i->a j<s->s<=b j->i≠j->Bel i j∨Bel j i
 trans:∀s i j k,i<m->j<m->k<m->a i<s->s<=b i->a j<s->s<=b j->a k<s->s<=b k->Bel i j->Bel j k->Bel i k
 lowL:∀s i j,i<m->j<m->a i<s->s<b i->b j=s->(low s i->Bel i j)/\(¬low s i->Bel j i)
 lowR:∀s i j,i<m->j<m->a i<s->s<b i->a j=s->(low s i->Bel i j)/\(¬low s i->Bel j i)
 lowP:∀s i j,i<m->j<m->a i<s->s<b i->a j<s->s<b j->low s i->¬low s j->Bel i j
namespace Swp
variable {m n:Nat} (S:Swp m n)
def Cr (s j:Nat):Prop:=S.a j<s/\s<=S.b j
def Ps (s j:Nat):Prop:=S.a j<s/\s<S.b j
noncomputable def K (s:Nat):Nat:=cn m (S.Cr s)
noncomputable def pos (s j:Nat):Nat:=cn m (fun i=>S.Cr s i/\S.Bel i j)
noncomputable def bb (s:Nat):Nat:=cn m (fun i=>S.Ps s i/\S.low s i)
noncomputable def aa (s:Nat):Nat:=cn m (fun i=>S.Ps s i/\¬S.low s i)
noncomputable def ll (s:Nat):Nat:=cn m (fun i=>S.b i=s)
noncomputable def rr (s:Nat):Nat:=cn m (fun i=>S.a i=s)
noncomputable def off:Nat->Nat
 |0=>0
 |s+1=>off s+S.K s+1
noncomputable def eB (s:Nat):List (Nat×Nat):=(List.range (S.bb s+1)).map (fun i=>(S.off s+i,S.off (s+1)+i))
noncomputable def eA (s k:Nat):List (Nat×Nat):=(List.range k).map (fun i=>(S.off s+(S.bb s+S.ll s)+i,S.off (s+1)+(S.bb s+S.rr s)+i))
noncomputable def eUp:Nat->List (Nat×Nat)
 |0=> []
 |s+1=>eUp s++(S.eB s++S.eA s (S.aa s+1))
noncomputable def eAll (t:Nat):List (Nat×Nat):=S.eUp t++(S.eB t++S.eA t (S.aa t))
end Swp
theorem z20 {zs:List Int} {x:Int} {k:Nat} (hk:k<zs.length) (h:x∉zs.take k) (gd:zs.getD k 0≠x):x∉zs.take (k+1):=by
 rw[aax hk,aaI,aa9];rintro(h2|h2)
 ·exact h h2
 ·exact gd (by rw[h2];simp[List.getD,hk])
theorem z8X {zs:List Int} {k:Nat} (hk:k<zs.length):zs.getD k 0∈zs:=by
 rw[List.getD,aac hk];exact abg hk
theorem z6v (v:Value) (zs:List Int) (x:Int) (w:World) (h:RI w v zs):
  Calls Tryz.prog 190 #[v,.int .i64 x] w fun e w'=>e= .returned (.bool (decide (x∈zs)))/\w=w':=by
 obtain⟨A,c,rfl,hc,hm,hcell⟩:=h.form;unfold maxLen at hm;clear h
 go_enter Tryz.func190,Tryz.ntmps190
 go_wp2
 go_loop [9] (fun i=>∃k:Nat,k<=zs.length/\i= .int .i64 k/\Hid (x∉zs.take k)) (fun i=>zs.length -(intOf i).toNat)
 case atStart=>exact⟨0,aab _,rfl,h_ (by simp)⟩
 case round=>
  obtain⟨k,hk,rfl,HT⟩:=hrel
  by_cases Hf:k<zs.length
  ·obtain⟨b,off,rfl,hb,Hy⟩:=hcell o_
   have G8:=Hy k Hf;have Hp:(k:Int)<(zs.length:Int):=o_
   have ik1:(0:Int)<=(k:Int):=o_
   have HM:=h_ (z8X Hf);have HS:=h_ (fun gd=>z20 Hf HT.out gd);clear Hy hcell;generalize zs.getD k 0=y at*
   by_cases he:y=x
   ·have e1:(y==x)=true:=by simp[he]
    have HX:Hid (decide (x∈zs)=true):=h_ (by rw[<-he];simpa using HM.out);clear he;go_wp2;go_ret
    exact⟨z8 HX.out.symm,rfl⟩
   ·have e1:(y==x)=false:=by simp[he]
    have HX:=h_ (HS.out he);clear he;go_wp2;go_round
    case rel=>exact⟨k+1,by omega,by go_num,HX⟩
    case measure=>simp[intOf];omega
  ·have gi:zs.length<=k:=o_
   have h:=HT.out;rw[aaK gi] at h;have HX:Hid (decide (x∈zs)=false):=h_ (by simpa using h);clear h hcell;go_wp2;go_ret
   exact⟨z8 HX.out.symm,rfl⟩
end Go.Proofs.YtnjcpljhmhdhkaaGreat
