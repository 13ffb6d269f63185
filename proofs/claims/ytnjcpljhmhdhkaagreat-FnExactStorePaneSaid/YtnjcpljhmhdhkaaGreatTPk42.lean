/- part 42 -/
import Derived.Test.YtnjcpljhmhdhkaaGreatTPk41
set_option linter.unusedSimpArgs false
set_option linter.unusedVariables false
set_option linter.unusedSectionVars false
namespace Go.Proofs.YtnjcpljhmhdhkaaGreat
def qJ (F:List (List Nat)) (d:Nat):Nat:=F.findIdx (·.contains d)
theorem yB {F:List (List Nat)} {d:Nat} (h:d∈F.flatten):qJ F d<F.length∧d∈F.getD (qJ F d) []:=by
 rw[List.mem_flatten] at h;obtain⟨f,hf,hd⟩:=h;have h1:qJ F d<F.length:=List.findIdx_lt_length_of_exists ⟨f,hf,by simpa using hd⟩;refine⟨h1,?_⟩
 have h2:(F[qJ F d]'h1).contains d=true:=List.findIdx_getElem (w:=h1);rw[List.getD,List.getElem?_eq_getElem h1]
 simpa using h2
theorem yN:∀ {F:List (List Nat)},F.flatten.Nodup→∀ {i j d:Nat},i<F.length→j<F.length→d∈F.getD i []→d∈F.getD j []→i=j
 | [],_,i,j,d,hi,_,_,_=>absurd hi (by simp)
 |f::F,hn,i,j,d,hi,hj,h1,h2=>by
  rw[List.flatten_cons,List.nodup_append] at hn;obtain⟨_,hn2,hn3⟩:=hn
  have mem:∀k,k<F.length→d∈F.getD k []→d∈F.flatten:=fun k hk hd=>by
   rw[List.mem_flatten];rw[List.getD,List.getElem?_eq_getElem hk] at hd;exact⟨F[k],List.getElem_mem hk,by simpa using hd⟩
  match i,j with
  |0,0=>rfl
  |0,j+1=>exact absurd rfl (hn3 d (by simpa using h1) d (mem j (by simpa using hj) (by simpa using h2)))
  |i+1,0=>exact absurd rfl (hn3 d (by simpa using h2) d (mem i (by simpa using hi) (by simpa using h1)))
  |i+1,j+1=>rw[yN hn2 (show i<F.length by simpa using hi) (show j<F.length by simpa using hj) (by simpa using h1) (by simpa using h2)]
section
variable {ns ls:List Pr} (hld:∀j:Nat,j<ls.length→zj ns (ndI ls j)=true)
include hld
theorem XJ {f d:Nat} (hf:f<(zk ns ls).length) (hd:d∈(zk ns ls).getD f []):qJ (zk ns ls) d=f:=by
 obtain⟨_,h2,_⟩:=j7 hld (2*ls.length) (Nat.le_refl _)
 have hm:d∈(zk ns ls).flatten :=by
  rw[List.mem_flatten];rw[List.getD,List.getElem?_eq_getElem hf] at hd;exact⟨_,List.getElem_mem hf,by simpa using hd⟩
 obtain⟨g1,g2⟩:=yB hm;exact yN h2 g1 hf g2 hd
theorem z1O {d:Nat} (hd:d<2*ls.length):qJ (zk ns ls) (qv ns ls d)=qJ (zk ns ls) d:=by
 obtain⟨h1,h2,h3⟩:=j7 hld (2*ls.length) (Nat.le_refl _);obtain⟨g1,g2⟩:=yB (h1 d hd);refine XJ hld g1 ?_
 have hm:(zo ns ls (2*ls.length)).getD (qJ (zo ns ls (2*ls.length)) d) []∈zo ns ls (2*ls.length):=by
  rw[List.getD,List.getElem?_eq_getElem g1];exact List.getElem_mem g1
 obtain⟨e,he,hw⟩:=h3 _ hm;rw[hw] at g2
 show qv ns ls d∈(zo ns ls (2*ls.length)).getD (qJ (zo ns ls (2*ls.length)) d) []
 rw[hw];obtain⟨i,hi⟩:=(jM hld he d).1 g2;exact(jM hld he _).2 ⟨i+1,by rw[←hi];rfl⟩
theorem XY {f:Nat} (hf:f<(zk ns ls).length):∃d,d<2*ls.length∧qJ (zk ns ls) d=f:=by
 obtain⟨_,_,h3⟩:=j7 hld (2*ls.length) (Nat.le_refl _);obtain⟨e,he,hw⟩:=h3 _ (List.getElem_mem hf);refine⟨e,he,XJ hld hf ?_⟩
 have hw':(zk ns ls)[f]=qe ns ls e:=hw;rw[List.getD,List.getElem?_eq_getElem hf,Option.getD_some,hw'];exact Vf hld he
end
theorem z4Z (g:Nat→Int) (bf:Nat→Bool) (d:Nat) (G:List Nat):((insN bf d G).map g).sum =g d+(G.map g).sum :=by
 unfold insN;have hs:=List.take_append_drop (posN bf G G.length) G;generalize G.take (posN bf G G.length)=a at*;generalize G.drop (posN bf G G.length)=b at*;subst hs;simp only[List.map_append,List.sum_append,List.map_cons,List.sum_cons]
 omega
theorem VQ (ns ls:List Pr) (g:Nat→Int) (k:Nat):∀m,((ardS ns ls k m).map g).sum =sumR m (fun d=>if zd ls d=(k:Int) then g d else 0)
 |0=>by simp[ardS,sumR]
 |m+1=>by
  simp only[sumR]
  by_cases h:zd ls m=k
  ·rw[vm h,z4Z,VQ ns ls g k m,if_pos h];omega
  ·rw[kO h,VQ ns ls g k m,if_neg h];omega
theorem z2p {ns ls:List Pr} {k i:Nat} (hi:i<(ardS ns ls k (2*ls.length)).length):
  ye ns ls ((ardS ns ls k (2*ls.length)).getD i 0)=(ardS ns ls k (2*ls.length)).getD ((i+(ardS ns ls k (2*ls.length)).length -1)%(ardS ns ls k (2*ls.length)).length) 0:=by
 have hm:(ardS ns ls k (2*ls.length)).getD i 0∈ardS ns ls k (2*ls.length):=by
  rw[List.getD,List.getElem?_eq_getElem hi];exact List.getElem_mem hi
 obtain⟨h1,h2⟩:=(jz ns ls k _ _).1 hm
 have hr:qi ns ls ((ardS ns ls k (2*ls.length)).getD i 0)=ardS ns ls k (2*ls.length):=by
  unfold qi;rw[h2,Int.toNat_natCast]
 unfold ye;rw[hr]
 have hx:(ardS ns ls k (2*ls.length)).idxOf ((ardS ns ls k (2*ls.length)).getD i 0)=i:=by
  rw[List.getD,List.getElem?_eq_getElem hi];simp only[Option.getD_some]
  have hlt:=List.idxOf_lt_length_of_mem (List.getElem_mem hi);exact(List.getElem_inj (yA ns ls k (2*ls.length))).1 (List.getElem_idxOf hlt)
 rw[hx]
theorem z4c (ns ls:List Pr) (g:Nat→Int) (k:Nat):((ardS ns ls k (2*ls.length)).map (fun e=>g (ye ns ls e))).sum =((ardS ns ls k (2*ls.length)).map g).sum :=by
 rw[Zh,Zh,←z47 (fun i=>g ((ardS ns ls k (2*ls.length)).getD i 0))];exact jS _ (fun i hi=>by rw[z2p hi])
theorem z2Y {ns ls:List Pr} {g:Nat→Int} (hg:∀d,d<2*ls.length→g (qv ns ls d)=g d) (k:Nat):
  sumR (2*ls.length) (fun d=>if zd ls d=(k:Int) then g d -g (twin d) else 0)=0:=by
 rw[←VQ ns ls (fun d=>g d -g (twin d)) k]
 have h1:((ardS ns ls k (2*ls.length)).map (fun d=>g d -g (twin d))).sum =((ardS ns ls k (2*ls.length)).map g).sum -((ardS ns ls k (2*ls.length)).map (fun d=>g (twin d))).sum :=by
  generalize ardS ns ls k (2*ls.length)=R
  induction R with
  |nil=>rfl
  |cons a R ih=>simp only[List.map_cons,List.sum_cons] at ih⊢;omega
 rw[h1]
 have h2:(ardS ns ls k (2*ls.length)).map (fun d=>g (twin d))=(ardS ns ls k (2*ls.length)).map (fun e=>g (ye ns ls e)):=by
  refine List.map_congr_left (fun e he=>?_)
  have hd:=((jz ns ls k _ _).1 he).1;have:=hg (twin e) (jw hd);unfold qv at this;rw[vp] at this;exact this.symm
 rw[h2,z4c ns ls];omega
section
variable {ns ls:List Pr} (hld:∀j:Nat,j<ls.length→zj ns (ndI ls j)=true)
include hld
theorem z3G {g:Nat→Int} (hg:∀d,d<2*ls.length→g (qv ns ls d)=g d) (X:Nat→Int):
  sumR ls.length (fun j=>(X (zd ls (2*j)).toNat -X (dTo ls (2*j)).toNat)*(g (2*j) -g (2*j+1)))=0:=by
 have h0:sumR ns.length (fun v=>sumR (2*ls.length) (fun d=>if (v:Nat)=(zd ls d).toNat then X v*(g d -g (twin d)) else 0))=0:=by
  refine Qt _ (fun v hv=>?_)
  have h:=z2Y hg v
  have e:sumR (2*ls.length) (fun d=>if (v:Nat)=(zd ls d).toNat then X v*(g d -g (twin d)) else 0)=X v*sumR (2*ls.length) (fun d=>if zd ls d=(v:Int) then g d -g (twin d) else 0):=by
   have hm:∀m,m≤2*ls.length→sumR m (fun d=>if (v:Nat)=(zd ls d).toNat then X v*(g d -g (twin d)) else 0)=X v*sumR m (fun d=>if zd ls d=(v:Int) then g d -g (twin d) else 0):=by
    intro m
    induction m with
    |zero=>intro _;simp[sumR]
    |succ m ih=>
     intro hm;simp only[sumR]
     rw[ih (by omega),Int.mul_add];obtain⟨t,ht,_⟩:=qh hld (show m<2*ls.length by omega)
     by_cases hv2:t=v
     ·rw[if_pos (by rw[ht,Int.toNat_natCast];exact hv2.symm),if_pos (by rw[ht,hv2])]
     ·rw[if_neg (by rw[ht,Int.toNat_natCast];exact fun h=>hv2 h.symm),if_neg (by rw[ht];omega),Int.mul_zero]
   exact hm _ (Nat.le_refl _)
  rw[e,h,Int.mul_zero]
 rw[Vp] at h0
 have h1:sumR (2*ls.length) (fun d=>sumR ns.length (fun v=>if v=(zd ls d).toNat then X v*(g d -g (twin d)) else 0))=sumR (2*ls.length) (fun d=>X (zd ls d).toNat *(g d -g (twin d))):=by
  refine jS _ (fun d hd=>?_)
  obtain⟨t,ht,hl⟩:=qh hld hd;rw[Qs (fun v=>X v*(g d -g (twin d))) (zd ls d).toNat ns.length,if_pos (by rw[ht,Int.toNat_natCast];exact hl)]
 rw[h1,z08] at h0;rw[←h0];refine jS _ (fun j hj=>?_)
 have t1:twin (2*j)=2*j+1:=by unfold twin;rw[if_pos (by omega)]
 have t2:twin (2*j+1)=2*j:=by unfold twin;rw[if_neg (by omega)];omega
 have t3:zd ls (2*j+1)=dTo ls (2*j):=by rw[←t1,j5]
 rw[t1,t2,t3,Int.sub_mul]
 have:X (dTo ls (2*j)).toNat *(g (2*j+1) -g (2*j))= -(X (dTo ls (2*j)).toNat *(g (2*j) -g (2*j+1))):=by
  rw[←Int.mul_neg];congr 1;omega
 omega
theorem Qc {g:Nat→Int} (hg:∀d,d<2*ls.length→g (qv ns ls d)=g d) (ht:∀d,d<2*ls.length→g (twin d)=g d) {d e:Nat} (hd:d<2*ls.length) (he:e<2*ls.length) (hf:zd ls d=zd ls e):g d=g e:=by
 obtain⟨k,hk,_⟩:=qh hld hd
 have key:∀i,i<(ardS ns ls k (2*ls.length)).length →g ((ardS ns ls k (2*ls.length)).getD i 0)=g ((ardS ns ls k (2*ls.length)).getD 0 0):=by
  intro i
  induction i with
  |zero=>intro _;rfl
  |succ i ih=>
   intro hi;rw[←ih (by omega)];have h1:=z2p (ns:=ns) (ls:=ls) hi;rw[show i+1+(ardS ns ls k (2*ls.length)).length -1=i+(ardS ns ls k (2*ls.length)).length by omega,Nat.add_mod_right,Nat.mod_eq_of_lt (by omega)] at h1;rw[←h1]
   have hm:(ardS ns ls k (2*ls.length)).getD (i+1) 0∈ardS ns ls k (2*ls.length):=by
    rw[List.getD,List.getElem?_eq_getElem hi];exact List.getElem_mem hi
   have hl:=((jz ns ls k _ _).1 hm).1;generalize (ardS ns ls k (2*ls.length)).getD (i+1) 0=x at*;have h2:=hg (twin x) (jw hl);unfold qv at h2;rw[vp] at h2;rw[h2,ht x hl]
 have at':∀x,x<2*ls.length→zd ls x=k→g x=g ((ardS ns ls k (2*ls.length)).getD 0 0):=by
  intro x hx hxk;obtain⟨i,hi,hxi⟩:=List.getElem_of_mem ((jz ns ls k _ _).2 ⟨hx,hxk⟩);rw[←key i hi,List.getD,List.getElem?_eq_getElem hi,hxi];rfl
 rw[at' d hd hk,at' e he (by rw[←hf,hk])]
end
theorem z4h {ns ls:List Pr} (hw:zm ns ls=true):(zk ns ls).length +ns.length≤ls.length+2:=by
 have hwin:=zW hw;have hld:∀j:Nat,j<ls.length→zj ns (ndI ls j)=true:=fun j hj=>(hwin.1.2.2.2.2.2 j hj).1
 have hends:=Xe hld
 have hall:∀i,i<ns.length→(zh ns.length ls ls.length).getD i 0=0:=by
  intro i hi;unfold zm at hw;rw[Bool.and_eq_true,Bool.and_eq_true] at hw;have:=List.all_eq_true.1 hw.2.2;have hlen:i<(zh ns.length ls ls.length).length :=by rw[qG];exact hi
  have h2:=this (zh ns.length ls ls.length)[i] (List.getElem_mem hlen)
  simpa[List.getD,hlen] using h2
 have hpq:∀j,j<ls.length→(ndI ls j).1=((zd ls (2*j)).toNat :Int)∧(ndI ls j).2=((dTo ls (2*j)).toNat :Int)∧(zd ls (2*j)).toNat <ns.length∧(dTo ls (2*j)).toNat <ns.length:=by
  intro j hj;obtain⟨p,q,h1,h2,h3,h4⟩:=hends j hj;have e1:zd ls (2*j)=(ndI ls j).1:=by unfold zd;rw[if_neg (by omega),show 2*j/2=j by omega]
  have e2:dTo ls (2*j)=(ndI ls j).2:=by unfold dTo;rw[if_neg (by omega),show 2*j/2=j by omega]
  rw[e1,e2,h1,h2,Int.toNat_natCast,Int.toNat_natCast];exact⟨rfl,rfl,h3,h4⟩
 have hconn:Zz ns.length ls.length (fun j=>(zd ls (2*j)).toNat) (fun j=>(dTo ls (2*j)).toNat) (fun _=>true):=by
  intro C hC i hi
  have h1:=ym hends C (fun j hj p q hp hq=>by
   obtain⟨g1,g2,_,_⟩:=hpq j hj;rw[g1] at hp;rw[g2] at hq;have e1:(zd ls (2*j)).toNat =p:=by omega
   have e2:(dTo ls (2*j)).toNat =q:=by omega
   rw[←e1,←e2];exact hC j hj rfl) ls.length (Nat.le_refl _) i hi
  rw[hall i hi] at h1;exact h1
 obtain⟨J,hJ,hmin⟩:=JO (cntJ ls.length (fun _=>true)) _ (Nat.le_refl _) hconn;have hcount:=QN hJ
 have hfc:Zz (zk ns ls).length ls.length (fun j=>qJ (zk ns ls) (2*j)) (fun j=>qJ (zk ns ls) (2*j+1)) (fun j=> !J j):=by
  intro C hC
  classical
  let g:Nat→Int:=fun d=>if C (qJ (zk ns ls) d) then 1 else 0
  have hg:∀d,d<2*ls.length→g (qv ns ls d)=g d:=fun d hd=>by
   show(if C (qJ (zk ns ls) (qv ns ls d)) then(1:Int) else 0)=_
   rw[z1O hld hd]
  have hgeq:∀a b,(C (qJ (zk ns ls) a)↔C (qJ (zk ns ls) b))→g a=g b:=fun a b h=>by
   show(if C (qJ (zk ns ls) a) then(1:Int) else 0)=(if C (qJ (zk ns ls) b) then(1:Int) else 0)
   by_cases h1:C (qJ (zk ns ls) a)
   ·rw[if_pos h1,if_pos (h.1 h1)]
   ·rw[if_neg h1,if_neg (fun h2=>h1 (h.2 h2))]
  have hlead:∀t,t<ls.length→g (2*t)=g (2*t+1):=by
   intro t ht
   cases hJt:J t
   ·exact hgeq _ _ (hC t ht (by simp[hJt]))
   ·have hne:=hmin t ht hJt
    apply Classical.byContradiction
    intro hgt
    apply hne
    intro X hX
    by_cases hcr:X (zd ls (2*t)).toNat ↔X (dTo ls (2*t)).toNat
    ·refine hJ X (fun j hj hJj=>?_)
     by_cases hjt:j=t
     ·subst hjt;exact hcr
     ·exact hX j hj (by simp[hJj,hjt])
    ·exfalso
     have hz:=z3G hld hg (fun v=>if X v then 1 else 0)
     have e:sumR ls.length (fun j=>((if X (zd ls (2*j)).toNat then(1:Int) else 0) -(if X (dTo ls (2*j)).toNat then(1:Int) else 0))*(g (2*j) -g (2*j+1)))=
       sumR ls.length (fun j=>if j=t then((if X (zd ls (2*j)).toNat then(1:Int) else 0) -(if X (dTo ls (2*j)).toNat then(1:Int) else 0))*(g (2*j) -g (2*j+1)) else 0):=by
      refine jS _ (fun j hj=>?_)
      by_cases hjt:j=t
      ·rw[if_pos hjt]
      ·rw[if_neg hjt]
       cases hJj:J j
       ·rw[hgeq _ _ (hC j hj (by simp[hJj])),Int.sub_self,Int.mul_zero]
       ·have h1:=hX j hj (by simp[hJj,hjt])
        have h2:(if X (zd ls (2*j)).toNat then(1:Int) else 0)=(if X (dTo ls (2*j)).toNat then(1:Int) else 0):=by
         by_cases h3:X (zd ls (2*j)).toNat
         ·rw[if_pos h3,if_pos (h1.1 h3)]
         ·rw[if_neg h3,if_neg (fun h4=>h3 (h1.2 h4))]
        rw[h2,Int.sub_self,Int.zero_mul]
     have hz':sumR ls.length (fun j=>((if X (zd ls (2*j)).toNat then(1:Int) else 0) -(if X (dTo ls (2*j)).toNat then(1:Int) else 0))*(g (2*j) -g (2*j+1)))=0:=hz;rw[e,Qs (fun j=>((if X (zd ls (2*j)).toNat then(1:Int) else 0) -(if X (dTo ls (2*j)).toNat then(1:Int) else 0))*(g (2*j) -g (2*j+1))) t,if_pos ht] at hz'
     by_cases h1:X (zd ls (2*t)).toNat
     ·have h2:¬X (dTo ls (2*t)).toNat :=fun h=>hcr ⟨fun _=>h,fun _=>h1⟩
      rw[if_pos h1,if_neg h2] at hz';omega
     ·have h2:X (dTo ls (2*t)).toNat :=Classical.byContradiction fun h=>hcr ⟨fun h3=>absurd h3 h1,fun h3=>absurd h3 h⟩
      rw[if_neg h1,if_pos h2] at hz';omega
  have htw:∀d,d<2*ls.length→g (twin d)=g d:=by
   intro d hd;have h:=hlead (d/2) (by omega);unfold twin
   by_cases h2:d%2=0
   ·rw[if_pos h2]
    rw[show 2*(d/2)=d by omega] at h;exact h.symm
   ·rw[if_neg h2]
    rw[show 2*(d/2)+1=d by omega,show 2*(d/2)=d -1 by omega] at h;exact h
  have hnode:∀d e,d<2*ls.length→e<2*ls.length→g d=g e:=by
   intro d0 e0 hd0 he0
   have hC2:=hconn (fun v=>∀x,x<2*ls.length→zd ls x=(v:Int)→g x=g d0) (fun j hj _=>by
    obtain⟨g1,g2,g3,g4⟩:=hpq j hj
    have e1:zd ls (2*j)=((zd ls (2*j)).toNat :Int):=by
     obtain⟨t,ht,_⟩:=qh hld (show 2*j<2*ls.length by omega);rw[ht,Int.toNat_natCast]
    have e2:zd ls (2*j+1)=((dTo ls (2*j)).toNat :Int):=by
     have t1:twin (2*j)=2*j+1:=by unfold twin;rw[if_pos (by omega)]
     have:=j5 ls (2*j);rw[t1] at this;obtain⟨t,ht,_⟩:=qh hld (show 2*j+1<2*ls.length by omega);rw[this] at ht⊢;rw[ht,Int.toNat_natCast]
    constructor
    ·intro h x hx hxf
     have h1:=h (2*j) (by omega) e1;rw[Qc hld hg htw hx (show 2*j+1<2*ls.length by omega) (by rw[hxf,e2]),←hlead j hj,h1]
    ·intro h x hx hxf
     have h1:=h (2*j+1) (by omega) e2;rw[Qc hld hg htw hx (show 2*j<2*ls.length by omega) (by rw[hxf,←e1]),hlead j hj,h1])
   obtain⟨t,ht,htl⟩:=qh hld hd0;obtain⟨s,hs,hsl⟩:=qh hld he0;have ht0:=(hC2 t htl).1 (fun x hx hxf=>Qc hld hg htw hx hd0 (by rw[hxf,ht]));exact((hC2 s hsl).2 ht0 e0 he0 hs).symm
  intro f hf;obtain⟨d,hd,hfd⟩:=XY hld hf;obtain⟨d',hd',hfd'⟩:=XY hld (show 0<(zk ns ls).length by omega);have h:=hnode d d' hd hd';have h':(if C (qJ (zk ns ls) d) then(1:Int) else 0)=(if C (qJ (zk ns ls) d') then(1:Int) else 0):=h;rw[hfd,hfd'] at h'
  by_cases h1:C f
  ·by_cases h2:C 0
   ·exact⟨fun _=>h2,fun _=>h1⟩
   ·rw[if_pos h1,if_neg h2] at h';omega
  ·by_cases h2:C 0
   ·rw[if_neg h1,if_pos h2] at h';omega
   ·exact⟨fun h=>absurd h h1,fun h=>absurd h h2⟩
 have h1:=QN hfc;have h2:=z04 ls.length J;omega
def loW (ns ls:List Pr) (i j:Nat):Int:=max (Xp (ptN ns (lN ns ls i))) (Xp (ptN ns (lN ns ls j)))
def hiW (ns ls:List Pr) (i j:Nat):Int:=min (Xp (ptN ns (rN ns ls i))) (Xp (ptN ns (rN ns ls j)))
def BelW (ns ls:List Pr) (A B:Nat→Int) (i j:Nat):Prop:=dH A B i j (loW ns ls i j)+dH A B i j (hiW ns ls i j)<0
def yO (ls:List Pr) (v:Nat):Prop:=∃d,d<2*ls.length∧zd ls d=(v:Int)
noncomputable def rkN (ns ls:List Pr) (v:Nat):Nat:=cn ns.length (fun u=>yO ls u∧Xp (ptN ns u)<Xp (ptN ns v))
noncomputable def evN (ns ls:List Pr):Nat:=cn ns.length (yO ls)
theorem kt (ns ls:List Pr) (i j:Nat):loW ns ls j i=loW ns ls i j:=by unfold loW;omega
theorem k9 (ns ls:List Pr) (i j:Nat):hiW ns ls j i=hiW ns ls i j:=by unfold hiW;omega
theorem kM (p:Pr):∃k,Xp p=2*k:=⟨21*p.1+p.2,by unfold Xp;omega⟩
theorem z5L {ns ls:List Pr} {u v:Nat} (hu:u<ns.length) (h:yO ls u) (hx:Xp (ptN ns u)<Xp (ptN ns v)):rkN ns ls u<rkN ns ls v:=
 JT (k:=u) hu (fun hc=>by omega) ⟨h,hx⟩ (fun i _ hc=>⟨hc.1,by omega⟩)
theorem z67 {ns ls:List Pr} {u v:Nat} (hx:Xp (ptN ns u)≤Xp (ptN ns v)):rkN ns ls u≤rkN ns ls v:=
 z43 _ (fun i _ hc=>⟨hc.1,by omega⟩)
theorem yf {ns ls:List Pr} {u v:Nat} (hu:u<ns.length) (h:yO ls u):rkN ns ls u<rkN ns ls v↔Xp (ptN ns u)<Xp (ptN ns v):=by
 constructor
 ·intro h1
  apply Classical.byContradiction
  intro h2;have:=z67 (ls:=ls) (show Xp (ptN ns v)≤Xp (ptN ns u) by omega);omega
 ·exact z5L hu h
theorem z5M {ns ls:List Pr} {v:Nat} (hv:v<ns.length) (h:yO ls v):rkN ns ls v<evN ns ls:=
 JT (k:=v) hv (fun hc=>by omega) h (fun i _ hc=>hc.1)
theorem z5Q (ns ls:List Pr):evN ns ls≤ns.length:=by
 unfold evN cn;have:=List.length_filter_le (fun i=> @decide (yO ls i) (Classical.propDecidable _)) (List.range ns.length);rw[List.length_range] at this;exact this
theorem z2w {ns ls:List Pr} {d:Nat} (hne:Xp (ndI ns (zd ls d))≠Xp (ndI ns (dTo ls d))):fwD ns ls (twin d)= !(fwD ns ls d):=by
 unfold fwD;rw[j5,z0A,Bool.eq_iff_iff];simp
 omega
theorem z35 (d:Nat):twin d/2=d/2:=by unfold twin;split<;>omega
section
variable {ns ls:List Pr} (h:q7 ns ls)
include h
theorem VB {u v:Nat} (hu:u<ns.length) (hv:v<ns.length) (h1:yO ls u) (h2:yO ls v) (he:rkN ns ls u=rkN ns ls v):u=v:=by
 apply z2d h hu hv
 have a1:=yf (v:=v) hu h1;have a2:=yf (v:=u) hv h2;omega
theorem qP {d:Nat} (hd:d<2*ls.length):(fwD ns ls d=true∧zd ls d=(lN ns ls (d/2):Int)∧dTo ls d=(rN ns ls (d/2):Int))∨
  (fwD ns ls d=false∧zd ls d=(rN ns ls (d/2):Int)∧dTo ls d=(lN ns ls (d/2):Int)):=by
 have hj:d/2<ls.length:=by omega
 obtain⟨_,_,_,he⟩:=zG h hj;generalize hjj:d/2=j at*;have h0:=xC ls j;have h1:=XH ls j;have h2:=z2a ls j;have h3:=z5I ls j
 by_cases hp:d%2=1
 ·have hd2:d=2*j+1:=by omega
  subst hd2
  rcases he with ⟨e1,e2,e3,e4⟩|⟨e1,e2,e3,e4⟩
  ·right;exact⟨e4,by rw[h2,←h1,e2],by rw[h3,←h0,e1]⟩
  ·left;exact⟨e4,by rw[h2,←h1,e2],by rw[h3,←h0,e1]⟩
 ·have hd2:d=2*j:=by omega
  subst hd2
  rcases he with ⟨e1,e2,e3,e4⟩|⟨e1,e2,e3,e4⟩
  ·left;exact⟨e3,e1,e2⟩
  ·right;exact⟨e3,e1,e2⟩
theorem VW {d:Nat} (hd:d<2*ls.length):Xp (ndI ns (zd ls d))≠Xp (ndI ns (dTo ls d)):=by
 have hj:d/2<ls.length:=by omega
 have hx:=(zG h hj).2.2.1;unfold ptN at hx
 rcases qP h hd with ⟨_,e1,e2⟩|⟨_,e1,e2⟩<;>rw[e1,e2]<;>omega
theorem xI {j:Nat} (hj:j<ls.length) (fw:Bool):∃d,d<2*ls.length∧fwD ns ls d=fw∧d/2=j:=by
 obtain⟨_,_,_,he⟩:=zG h hj
 rcases he with ⟨_,_,e3,e4⟩|⟨_,_,e3,e4⟩<;>cases fw
 ·exact⟨2*j+1,by omega,e4,by omega⟩
 ·exact⟨2*j,by omega,e3,by omega⟩
 ·exact⟨2*j,by omega,e3,by omega⟩
 ·exact⟨2*j+1,by omega,e4,by omega⟩
theorem Qi {d e:Nat} (hd:d<2*ls.length) (he:e<2*ls.length) (hf:fwD ns ls d=fwD ns ls e) (hj:d/2=e/2):d=e:=by
 by_cases hp:d%2=e%2
 ·omega
 ·have ht:e=twin d:=by unfold twin;split<;>omega
  have:=z2w (ns:=ns) (ls:=ls) (d:=d) (VW h hd);rw[←ht,←hf] at this
  cases hc:fwD ns ls d<;>rw[hc] at this<;>cases this
theorem yE {j:Nat} (hj:j<ls.length):yO ls (lN ns ls j):=by
 obtain⟨d,hd,hf,he⟩:=xI h hj true
 rcases qP h hd with ⟨_,e1,e2⟩|⟨e0,e1,e2⟩
 ·exact⟨d,hd,by rw[e1,he]⟩
 ·rw[hf] at e0;cases e0
theorem ZJ {j:Nat} (hj:j<ls.length):yO ls (rN ns ls j):=by
 obtain⟨d,hd,hf,he⟩:=xI h hj false
 rcases qP h hd with ⟨e0,e1,e2⟩|⟨_,e1,e2⟩
 ·rw[hf] at e0;cases e0
 ·exact⟨d,hd,by rw[e1,he]⟩
theorem Z7 {s i j:Nat} (hi:i<ls.length) (hj:j<ls.length) (h1:rkN ns ls (lN ns ls i)<s) (h2:s≤rkN ns ls (rN ns ls i)) (h3:rkN ns ls (lN ns ls j)<s) (h4:s≤rkN ns ls (rN ns ls j)):loW ns ls i j<hiW ns ls i j:=by
 have Ei:=zG h hi;have Ej:=zG h hj;have a1:=(yf (ns:=ns) (v:=rN ns ls j) Ei.1 (yE h hi)).1 (by omega);have a2:=(yf (ns:=ns) (v:=rN ns ls i) Ej.1 (yE h hj)).1 (by omega);unfold loW hiW;omega
end
section
variable {ns ls:List Pr} {P:Int} {A B:Nat→Int} (h:q7 ns ls) (hh:Hts ns ls P A B)
include h hh
theorem ZX {i j:Nat} (hi:i<ls.length) (hj:j<ls.length) (hne:i≠j) (hlt:loW ns ls i j<hiW ns ls i j):
  (BelW ns ls A B i j∧dH A B i j (loW ns ls i j)≤0∧dH A B i j (hiW ns ls i j)≤0)∨(BelW ns ls A B j i∧¬BelW ns ls A B i j∧0≤dH A B i j (loW ns ls i j)∧0≤dH A B i j (hiW ns ls i j)):=by
 rcases z4r h hh hi hj hne rfl rfl hlt with ⟨a1,a2,a3⟩|⟨a1,a2,a3⟩
 ·right
  unfold BelW;rw[kt ns ls i j,k9 ns ls i j,jJ A B i j,jJ A B i j];unfold loW hiW at*;exact⟨by omega,by omega,a1,a2⟩
 ·left;exact⟨a3,a1,a2⟩
theorem Z5 {i j:Nat} (hi:i<ls.length) (hj:j<ls.length) (hne:i≠j) {X:Int} (h1:loW ns ls i j<X) (h2:X<hiW ns ls i j):BelW ns ls A B i j↔dH A B i j X<0:=by
 rcases ZX h hh hi hj hne (by omega) with ⟨a1,a2,a3⟩|⟨a1,a2,a3,a4⟩
 ·exact⟨fun _=>J1 h1 h2 a2 a3 a1,fun _=>a1⟩
 ·refine⟨fun hc=>absurd hc a2,fun hc=>?_⟩
  unfold BelW at a1;rw[kt ns ls i j,k9 ns ls i j] at a1;have:=J1 (i:=j) (j:=i) h1 h2 (by rw[jJ];omega) (by rw[jJ];omega) a1;rw[jJ] at this;omega
theorem VV {i j:Nat} (hi:i<ls.length) (hj:j<ls.length) (hne:i≠j) (hlt:loW ns ls i j<hiW ns ls i j) (hz:dH A B i j (loW ns ls i j)<0∨dH A B i j (hiW ns ls i j)<0):BelW ns ls A B i j:=by
 rcases ZX h hh hi hj hne hlt with ⟨a1,a2,a3⟩|⟨a1,a2,a3,a4⟩
 ·exact a1
 ·omega
theorem z3Y {i v:Nat} (hi:i<ls.length) (hv:v<ns.length) (h1:Xp (ptN ns (lN ns ls i))<Xp (ptN ns v)) (h2:Xp (ptN ns v)<Xp (ptN ns (rN ns ls i))):A i*Xp (ptN ns v)+B i≠P*(ptN ns v).2:=by
 intro he;have Ei:=zG h hi;have t:=jq hh hi (ptN ns v);rw[show P*(ptN ns v).2 -(A i*Xp (ptN ns v)+B i)=0 by omega] at t;have t0:=Int.mul_sign_zero (show 0<P*42 by have:=hh.1;omega) t;have hb:=xH (qB h Ei.1) (qB h Ei.2.1) (qB h hv) h1 h2 t0;have n1:v≠lN ns ls i:=fun e=>by rw[e] at h1;omega
 have n2:v≠rN ns ls i:=fun e=>by rw[e] at h2;omega
 have f0:=xC ls i;have f1:=XH ls i
 have hon:onB ns (ndI ls i) (ndI ns v)=true:=by
  unfold onB;rw[jm h hi];unfold ptN at hb
  rcases Ei.2.2.2 with ⟨e1,e2,_⟩|⟨e1,e2,_⟩
  ·rw[←f0,←f1,e1,e2,hb];simp
  ·rw[←f0,←f1,e1,e2,Qh,hb];simp
 have hoff:onB ns (ndI ls i) (ndI ns v)=false:=by
  apply z5W h hi hv
  ·rw[←f0];rcases Ei.2.2.2 with ⟨e1,_⟩|⟨e1,_⟩<;>rw[e1]<;>omega
  ·rw[←f1];rcases Ei.2.2.2 with ⟨_,e1,_⟩|⟨_,e1,_⟩<;>rw[e1]<;>omega
 rw[hon] at hoff
 cases hoff
end
noncomputable def swW {ns ls:List Pr} {P:Int} {A B:Nat→Int} (h:q7 ns ls) (hh:Hts ns ls P A B):Swp ls.length (evN ns ls) where
 a:=fun j=>rkN ns ls (lN ns ls j)
 b:=fun j=>rkN ns ls (rN ns ls j)
 Bel:=BelW ns ls A B
 low:=fun s i=>∃v,v<ns.length∧yO ls v∧rkN ns ls v=s∧A i*Xp (ptN ns v)+B i<P*(ptN ns v).2
 ab:=fun j hj=>by
  have E:=zG h hj;exact⟨z5L E.1 (yE h hj) E.2.2.1,z5M E.2.1 (ZJ h hj)⟩
 irr:=fun j hj hc=>by
  unfold BelW dH at hc;omega
 tot:=fun s i j hi hj a1 a2 a3 a4 hne=>by
  rcases ZX h hh hi hj hne (Z7 h hi hj a1 a2 a3 a4) with h1|h1
  ·exact .inl h1.1
  ·exact .inr h1.1
 trans:=fun s i j k hi hj hk a1 a2 a3 a4 a5 a6 h1 h2=>by
  have nij:i≠j:=fun e=>by subst e;unfold BelW dH at h1;omega
  have njk:j≠k:=fun e=>by subst e;unfold BelW dH at h2;omega
  have o1:=Z7 h hi hj a1 a2 a3 a4;have o2:=Z7 h hj hk a3 a4 a5 a6;have o3:=Z7 h hi hk a1 a2 a5 a6;obtain⟨p1,q1⟩:=kM (ptN ns (lN ns ls i));obtain⟨p2,q2⟩:=kM (ptN ns (lN ns ls j));obtain⟨p3,q3⟩:=kM (ptN ns (lN ns ls k));obtain⟨p4,q4⟩:=kM (ptN ns (rN ns ls i));obtain⟨p5,q5⟩:=kM (ptN ns (rN ns ls j));obtain⟨p6,q6⟩:=kM (ptN ns (rN ns ls k));have x1:=(zG h hi).2.2.1;have x2:=(zG h hj).2.2.1;have x3:=(zG h hk).2.2.1
  obtain⟨M,hM⟩:∃M:Int,loW ns ls i j<M∧M<hiW ns ls i j∧loW ns ls j k<M∧M<hiW ns ls j k∧loW ns ls i k<M∧M<hiW ns ls i k:=by
   refine⟨max (loW ns ls i j) (loW ns ls j k)+1,?_⟩
   unfold loW hiW at*;omega
  obtain⟨m1,m2,m3,m4,m5,m6⟩:=hM;have d1:=(Z5 h hh hi hj nij m1 m2).1 h1;have d2:=(Z5 h hh hj hk njk m3 m4).1 h2;have d3:=z5Y A B i j k M;have nik:i≠k:=fun e=>by subst e;rw[jJ A B i j] at d2;omega
  exact(Z5 h hh hi hk nik m5 m6).2 (by omega)
 lowL:=fun s i j hi hj a1 a2 a3=>by
  have Ei:=zG h hi;have Ej:=zG h hj;have hne:i≠j:=fun e=>by subst e;omega
  have x1:=(yf (ns:=ns) (v:=rN ns ls j) Ei.1 (yE h hi)).1 (by omega);have x2:=(yf (ns:=ns) (v:=rN ns ls i) Ej.2.1 (ZJ h hj)).1 (by omega);have hlt:loW ns ls i j<hiW ns ls i j:=by unfold loW hiW;omega
  have hhi:hiW ns ls i j=Xp (ptN ns (rN ns ls j)):=by unfold hiW;omega
  have hz:=(hh.2 j hj).2
  constructor
  ·rintro⟨v,hv,hu,hr,hl⟩
   have e:=VB h hv Ej.2.1 hu (ZJ h hj) (by omega);subst e;exact VV h hh hi hj hne hlt (.inr (by rw[hhi];unfold dH;omega))
  ·intro hn
   have h1:¬A i*Xp (ptN ns (rN ns ls j))+B i<P*(ptN ns (rN ns ls j)).2:=fun hc=>hn ⟨_,Ej.2.1,ZJ h hj,a3,hc⟩
   have h2:=z3Y h hh hi Ej.2.1 x1 x2;exact VV h hh hj hi hne.symm (by rw[kt,k9];exact hlt) (.inr (by rw[k9,hhi];unfold dH;omega))
 lowR:=fun s i j hi hj a1 a2 a3=>by
  have Ei:=zG h hi;have Ej:=zG h hj;have hne:i≠j:=fun e=>by subst e;omega
  have x1:=(yf (ns:=ns) (v:=lN ns ls j) Ei.1 (yE h hi)).1 (by omega);have x2:=(yf (ns:=ns) (v:=rN ns ls i) Ej.1 (yE h hj)).1 (by omega);have hlt:loW ns ls i j<hiW ns ls i j:=by unfold loW hiW;omega
  have hlo:loW ns ls i j=Xp (ptN ns (lN ns ls j)):=by unfold loW;omega
  have hz:=(hh.2 j hj).1
  constructor
  ·rintro⟨v,hv,hu,hr,hl⟩
   have e:=VB h hv Ej.1 hu (yE h hj) (by omega);subst e;exact VV h hh hi hj hne hlt (.inl (by rw[hlo];unfold dH;omega))
  ·intro hn
   have h1:¬A i*Xp (ptN ns (lN ns ls j))+B i<P*(ptN ns (lN ns ls j)).2:=fun hc=>hn ⟨_,Ej.1,yE h hj,a3,hc⟩
   have h2:=z3Y h hh hi Ej.1 x1 x2;exact VV h hh hj hi hne.symm (by rw[kt,k9];exact hlt) (.inl (by rw[kt,hlo];unfold dH;omega))
 lowP:=fun s i j hi hj a1 a2 a3 a4 hl hn=>by
  have Ei:=zG h hi;have Ej:=zG h hj;have hne:i≠j:=fun e=>by subst e;exact hn hl
  obtain⟨v,hv,hu,hr,hl⟩:=hl;have h1:¬A j*Xp (ptN ns v)+B j<P*(ptN ns v).2:=fun hc=>hn ⟨v,hv,hu,hr,hc⟩
  have x1:=(yf (ns:=ns) (v:=v) Ei.1 (yE h hi)).1 (by omega);have x2:=(yf (ns:=ns) (v:=v) Ej.1 (yE h hj)).1 (by omega);have x3:=(yf (ns:=ns) (v:=rN ns ls i) hv hu).1 (by omega);have x4:=(yf (ns:=ns) (v:=rN ns ls j) hv hu).1 (by omega);exact(Z5 h hh hi hj hne (X:=Xp (ptN ns v)) (by unfold loW;omega) (by unfold hiW;omega)).2 (by unfold dH;omega)
end Go.Proofs.YtnjcpljhmhdhkaaGreat
