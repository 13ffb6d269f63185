/- part 40 -/
import Derived.Test.YtnjcpljhmhdhkaaGreatTPk39
set_option linter.unusedSimpArgs false
set_option linter.unusedVariables false
namespace Go.Proofs.YtnjcpljhmhdhkaaGreat
noncomputable def cn (m:Nat) (p:Nat→Prop):Nat:=((List.range m).filter (fun i=> @decide (p i) (Classical.propDecidable _))).length
theorem yY {m:Nat} {p:Nat→Prop} (h:p m):cn (m+1) p=cn m p+1:=by
 unfold cn;rw[List.range_succ,List.filter_append,List.length_append];simp[h]
theorem vW {m:Nat} {p:Nat→Prop} (h:¬p m):cn (m+1) p=cn m p:=by
 unfold cn;rw[List.range_succ,List.filter_append,List.length_append];simp[h]
theorem jb {p q:Nat→Prop}:∀m,(∀i,i<m→(p i↔q i))→cn m p=cn m q
 |0,_=>rfl
 |m+1,h=>by
  have ih:=jb m (fun i hi=>h i (by omega));have hm:=h m (by omega)
  rcases Classical.em (p m) with hp|hp
  ·rw[yY hp,yY (hm.1 hp),ih]
  ·rw[vW hp,vW (fun hq=>hp (hm.2 hq)),ih]
theorem vk {p q:Nat→Prop}:∀m,(∀i,i<m→¬(p i∧q i))→cn m (fun i=>p i∨q i)=cn m p+cn m q
 |0,_=>rfl
 |m+1,h=>by
  have ih:=vk m (fun i hi=>h i (by omega));have hm:=h m (by omega)
  rcases Classical.em (p m) with hp|hp
  ·rw[yY (p:=fun i=>p i∨q i) (Or.inl hp),yY hp,vW (fun hq=>hm ⟨hp,hq⟩),ih];omega
  ·rcases Classical.em (q m) with hq|hq
   ·rw[yY (p:=fun i=>p i∨q i) (Or.inr hq),vW hp,yY hq,ih];omega
   ·rw[vW (p:=fun i=>p i∨q i) (by rintro(h1|h1);exact hp h1;exact hq h1),vW hp,vW hq,ih]
theorem kE {p:Nat→Prop}:∀m,(∀i,i<m→¬p i)→cn m p=0
 |0,_=>rfl
 |m+1,h=>by rw[vW (h m (by omega))];exact kE m (fun i hi=>h i (by omega))
theorem z43 {p q:Nat→Prop}:∀m,(∀i,i<m→p i→q i)→cn m p≤cn m q
 |0,_=>Nat.le_refl _
 |m+1,h=>by
  have ih:=z43 m (fun i hi=>h i (by omega))
  rcases Classical.em (p m) with hp|hp
  ·rw[yY hp,yY (h m (by omega) hp)];omega
  ·rw[vW hp]
   rcases Classical.em (q m) with hq|hq
   ·rw[yY hq];omega
   ·rw[vW hq];exact ih
theorem z4u {k:Nat}:∀m,cn m (fun i=>i=k)=if k<m then 1 else 0
 |0=>rfl
 |m+1=>by
  have ih:=z4u (k:=k) m
  by_cases h:m=k
  ·rw[yY (p:=fun i=>i=k) h,ih,if_neg (by omega),if_pos (by omega)]
  ·rw[vW (p:=fun i=>i=k) h,ih]
   split<;>split<;>omega
theorem Z6 {p q:Nat→Prop} {k m:Nat} (hk:k<m) (hp:¬p k) (h:∀i,i<m→(q i↔p i∨i=k)):cn m q=cn m p+1:=by
 rw[jb m h,vk (p:=p) (q:=fun i=>i=k) m (fun i _ hc=>hp (hc.2▸hc.1)),z4u,if_pos hk]
theorem JT {p q:Nat→Prop} {k m:Nat} (hk:k<m) (hp:¬p k) (hq:q k) (h:∀i,i<m→p i→q i):cn m p<cn m q:=by
 have h1:=Z6 (p:=p) (q:=fun i=>p i∨i=k) hk hp (fun i _=>Iff.rfl)
 have h2:=z43 (p:=fun i=>p i∨i=k) (q:=q) m (fun i hi hc=>by
  rcases hc with h3|rfl
  ·exact h i hi h3
  ·exact hq)
 omega
theorem z4X {p:Nat→Prop} {f:Nat→Nat} {m:Nat} (hf:∀i,i<m→p i→f i<cn m p) (hi:∀i j,i<m→j<m→p i→p j→f i=f j→i=j):
  ∀k,k<cn m p→∃i,i<m∧p i∧f i=k:=by
 intro k hk
 apply Classical.byContradiction
 intro hc
 let L:=(List.range m).filter (fun i=> @decide (p i) (Classical.propDecidable _))
 have hL:∀i,i∈L↔i<m∧p i:=by intro i;simp[L]
 have hnd:L.Nodup:=List.nodup_range.filter _;have hlen:L.length=cn m p:=rfl
 have hmap:(L.map f).Nodup :=by
  refine List.pairwise_map.2 (List.Pairwise.imp_of_mem ?_ hnd)
  intro a b ha hb hab he;exact hab (hi a b ((hL a).1 ha).1 ((hL b).1 hb).1 ((hL a).1 ha).2 ((hL b).1 hb).2 he)
 have hsub:(L.map f) ⊆ (List.range (cn m p)).erase k:=by
  intro x hx;obtain⟨i,hi2,rfl⟩:=List.mem_map.1 hx;have hm:=(hL i).1 hi2;refine(List.nodup_range.mem_erase_iff).2 ⟨fun he=>hc ⟨i,hm.1,hm.2,he⟩,List.mem_range.2 (hf i hm.1 hm.2)⟩
 have:=hmap.length_le_of_subset hsub;rw[List.length_map,hlen,List.length_erase_of_mem (List.mem_range.2 hk),List.length_range] at this;omega
structure Swp (m n:Nat) where
 a:Nat→Nat
 b:Nat→Nat
 Bel:Nat→Nat→Prop
 low:Nat→Nat→Prop
 ab:∀j,j<m→a j<b j∧b j<n
 irr:∀j,j<m→¬Bel j j
 tot:∀s i j,i<m→j<m→a i<s→s≤b i→a j<s→s≤b j→i≠j→Bel i j∨Bel j i
 trans:∀s i j k,i<m→j<m→k<m→a i<s→s≤b i→a j<s→s≤b j→a k<s→s≤b k→Bel i j→Bel j k→Bel i k
 lowL:∀s i j,i<m→j<m→a i<s→s<b i→b j=s→(low s i→Bel i j)∧(¬low s i→Bel j i)
 lowR:∀s i j,i<m→j<m→a i<s→s<b i→a j=s→(low s i→Bel i j)∧(¬low s i→Bel j i)
 lowP:∀s i j,i<m→j<m→a i<s→s<b i→a j<s→s<b j→low s i→¬low s j→Bel i j
namespace Swp
variable {m n:Nat} (S:Swp m n)
def Cr (s j:Nat):Prop:=S.a j<s∧s≤S.b j
def Ps (s j:Nat):Prop:=S.a j<s∧s<S.b j
noncomputable def K (s:Nat):Nat:=cn m (S.Cr s)
noncomputable def pos (s j:Nat):Nat:=cn m (fun i=>S.Cr s i∧S.Bel i j)
noncomputable def bb (s:Nat):Nat:=cn m (fun i=>S.Ps s i∧S.low s i)
noncomputable def aa (s:Nat):Nat:=cn m (fun i=>S.Ps s i∧¬S.low s i)
noncomputable def ll (s:Nat):Nat:=cn m (fun i=>S.b i=s)
noncomputable def rr (s:Nat):Nat:=cn m (fun i=>S.a i=s)
theorem asym {s i j:Nat} (hi:i<m) (hj:j<m) (ci:S.Cr s i) (cj:S.Cr s j) (h1:S.Bel i j) (h2:S.Bel j i):False:=
 S.irr i hi (S.trans s i j i hi hj hi ci.1 ci.2 cj.1 cj.2 ci.1 ci.2 h1 h2)
theorem cr_left {s i:Nat} (hi:i<m):S.Cr s i↔(S.Ps s i∧S.low s i)∨(S.b i=s∨(S.Ps s i∧¬S.low s i)):=by
 have h:=S.ab i hi;unfold Cr Ps
 constructor
 ·rintro⟨h1,h2⟩
  by_cases h3:S.b i=s
  ·exact .inr (.inl h3)
  ·rcases Classical.em (S.low s i) with h4|h4
   ·exact .inl ⟨⟨h1,by omega⟩,h4⟩
   ·exact .inr (.inr ⟨⟨h1,by omega⟩,h4⟩)
 ·rintro(⟨⟨h1,h2⟩,_⟩|h3|⟨⟨h1,h2⟩,_⟩)
  ·exact⟨h1,by omega⟩
  ·exact⟨by omega,by omega⟩
  ·exact⟨h1,by omega⟩
theorem cr_right {s i:Nat} (hi:i<m):S.Cr (s+1) i↔(S.Ps s i∧S.low s i)∨(S.a i=s∨(S.Ps s i∧¬S.low s i)):=by
 have h:=S.ab i hi;unfold Cr Ps
 constructor
 ·rintro⟨h1,h2⟩
  by_cases h3:S.a i=s
  ·exact .inr (.inl h3)
  ·rcases Classical.em (S.low s i) with h4|h4
   ·exact .inl ⟨⟨by omega,by omega⟩,h4⟩
   ·exact .inr (.inr ⟨⟨by omega,by omega⟩,h4⟩)
 ·rintro(⟨⟨h1,h2⟩,_⟩|h3|⟨⟨h1,h2⟩,_⟩)
  ·exact⟨by omega,by omega⟩
  ·exact⟨by omega,by omega⟩
  ·exact⟨by omega,by omega⟩
theorem K_left (s:Nat):S.K s=S.bb s+S.ll s+S.aa s:=by
 unfold K bb ll aa;rw[jb m (fun i hi=>S.cr_left hi),vk m,vk m]
 ·omega
 ·rintro i hi ⟨h1,h2,_⟩
  unfold Ps at h2;omega
 ·rintro i hi ⟨⟨h1,h2⟩,h3|⟨_,h4⟩⟩
  ·unfold Ps at h1;omega
  ·exact h4 h2
theorem K_right (s:Nat):S.K (s+1)=S.bb s+S.rr s+S.aa s:=by
 unfold K bb rr aa;rw[jb m (fun i hi=>S.cr_right hi),vk m,vk m]
 ·omega
 ·rintro i hi ⟨h1,h2,_⟩
  unfold Ps at h2;omega
 ·rintro i hi ⟨⟨h1,h2⟩,h3|⟨_,h4⟩⟩
  ·unfold Ps at h1;omega
  ·exact h4 h2
theorem K_zero:S.K 0=0:=kE m (fun i hi h=>by unfold Cr at h;omega)
theorem K_end:S.K n=0:=kE m (fun i hi h=>by have:=S.ab i hi;unfold Cr at h;omega)
theorem pos_lt {s j:Nat} (hj:j<m) (cj:S.Cr s j):S.pos s j<S.K s:=
 JT (k:=j) hj (fun h=>S.irr j hj h.2) cj (fun i _ h=>h.1)
theorem pos_mono {s i j:Nat} (hi:i<m) (hj:j<m) (ci:S.Cr s i) (cj:S.Cr s j) (h:S.Bel i j):S.pos s i<S.pos s j:=
 JT (k:=i) hi (fun h=>S.irr i hi h.2) ⟨ci,h⟩ (fun k hk hc=>⟨hc.1,S.trans s k i j hk hi hj hc.1.1 hc.1.2 ci.1 ci.2 cj.1 cj.2 hc.2 h⟩)
theorem pos_inj {s i j:Nat} (hi:i<m) (hj:j<m) (ci:S.Cr s i) (cj:S.Cr s j) (h:S.pos s i=S.pos s j):i=j:=by
 apply Classical.byContradiction
 intro hne
 rcases S.tot s i j hi hj ci.1 ci.2 cj.1 cj.2 hne with h1|h1
 ·have:=S.pos_mono hi hj ci cj h1;omega
 ·have:=S.pos_mono hj hi cj ci h1;omega
theorem pos_onto {s k:Nat} (hk:k<S.K s):∃j,j<m∧S.Cr s j∧S.pos s j=k:=
 z4X (p:=S.Cr s) (f:=S.pos s) (fun i hi h=>S.pos_lt hi h) (fun i j hi hj ci cj h=>S.pos_inj hi hj ci cj h) k hk
theorem pos_next {s i j:Nat} (hi:i<m) (hj:j<m) (ci:S.Cr s i) (cj:S.Cr s j) (h:S.Bel i j) (hn:∀k,k<m→S.Cr s k→¬(S.Bel i k∧S.Bel k j)):S.pos s j=S.pos s i+1:=by
 refine Z6 (k:=i) hi (fun hc=>S.irr i hi hc.2) (fun k hk=>?_)
 constructor
 ·rintro⟨h1,h2⟩
  by_cases he:k=i
  ·exact .inr he
  ·rcases S.tot s k i hk hi h1.1 h1.2 ci.1 ci.2 he with h3|h3
   ·exact .inl ⟨h1,h3⟩
   ·exact absurd ⟨h3,h2⟩ (hn k hk h1)
 ·rintro(⟨h1,h2⟩|rfl)
  ·exact⟨h1,S.trans s k i j hk hi hj h1.1 h1.2 ci.1 ci.2 cj.1 cj.2 h2 h⟩
  ·exact⟨ci,h⟩
theorem pos_low_left {s j:Nat} (hj:j<m) (pj:S.Ps s j) (h:S.low s j):S.pos s j=cn m (fun i=>(S.Ps s i∧S.low s i)∧S.Bel i j):=by
 refine jb m (fun i hi=>?_)
 have cj:S.Cr s j:=(S.cr_left hj).2 (.inl ⟨pj,h⟩)
 constructor
 ·rintro⟨h1,h2⟩
  rcases(S.cr_left hi).1 h1 with h3|h3|⟨h3,h4⟩
  ·exact⟨h3,h2⟩
  ·exact(S.asym hi hj h1 cj h2 ((S.lowL s j i hj hi pj.1 pj.2 h3).1 h)).elim
  ·exact(S.asym hi hj h1 cj h2 (S.lowP s j i hj hi pj.1 pj.2 h3.1 h3.2 h h4)).elim
 ·rintro⟨h1,h2⟩
  exact⟨(S.cr_left hi).2 (.inl h1),h2⟩
theorem pos_low_right {s j:Nat} (hj:j<m) (pj:S.Ps s j) (h:S.low s j):S.pos (s+1) j=cn m (fun i=>(S.Ps s i∧S.low s i)∧S.Bel i j):=by
 refine jb m (fun i hi=>?_)
 have cj:S.Cr (s+1) j:=(S.cr_right hj).2 (.inl ⟨pj,h⟩)
 constructor
 ·rintro⟨h1,h2⟩
  rcases(S.cr_right hi).1 h1 with h3|h3|⟨h3,h4⟩
  ·exact⟨h3,h2⟩
  ·exact(S.asym hi hj h1 cj h2 ((S.lowR s j i hj hi pj.1 pj.2 h3).1 h)).elim
  ·exact(S.asym hi hj h1 cj h2 (S.lowP s j i hj hi pj.1 pj.2 h3.1 h3.2 h h4)).elim
 ·rintro⟨h1,h2⟩
  exact⟨(S.cr_right hi).2 (.inl h1),h2⟩
theorem pos_low_lt {s j:Nat} (hj:j<m) (pj:S.Ps s j) (h:S.low s j):S.pos s j<S.bb s:=by
 rw[S.pos_low_left hj pj h];exact JT (k:=j) hj (fun hc=>S.irr j hj hc.2) ⟨pj,h⟩ (fun i _ hc=>hc.1)
theorem pos_high_left {s j:Nat} (hj:j<m) (pj:S.Ps s j) (h:¬S.low s j):S.pos s j=S.bb s+S.ll s+cn m (fun i=>(S.Ps s i∧¬S.low s i)∧S.Bel i j):=by
 have cj:S.Cr s j:=(S.cr_left hj).2 (.inr (.inr ⟨pj,h⟩))
 have e:S.pos s j=cn m (fun i=>(S.Ps s i∧S.low s i)∨(S.b i=s∨((S.Ps s i∧¬S.low s i)∧S.Bel i j))):=by
  refine jb m (fun i hi=>?_)
  constructor
  ·rintro⟨h1,h2⟩
   rcases(S.cr_left hi).1 h1 with h3|h3|h3
   ·exact .inl h3
   ·exact .inr (.inl h3)
   ·exact .inr (.inr ⟨h3,h2⟩)
  ·rintro(h1|h1|⟨h1,h2⟩)
   ·exact⟨(S.cr_left hi).2 (.inl h1),S.lowP s i j hi hj h1.1.1 h1.1.2 pj.1 pj.2 h1.2 h⟩
   ·exact⟨(S.cr_left hi).2 (.inr (.inl h1)),(S.lowL s j i hj hi pj.1 pj.2 h1).2 h⟩
   ·exact⟨(S.cr_left hi).2 (.inr (.inr h1)),h2⟩
 rw[e,vk m,vk m]
 ·unfold bb ll;omega
 ·rintro i hi ⟨h1,⟨h2,_⟩,_⟩
  unfold Ps at h2;omega
 ·rintro i hi ⟨⟨h1,h2⟩,h3|⟨⟨_,h4⟩,_⟩⟩
  ·unfold Ps at h1;omega
  ·exact h4 h2
theorem pos_high_right {s j:Nat} (hj:j<m) (pj:S.Ps s j) (h:¬S.low s j):S.pos (s+1) j=S.bb s+S.rr s+cn m (fun i=>(S.Ps s i∧¬S.low s i)∧S.Bel i j):=by
 have cj:S.Cr (s+1) j:=(S.cr_right hj).2 (.inr (.inr ⟨pj,h⟩))
 have e:S.pos (s+1) j=cn m (fun i=>(S.Ps s i∧S.low s i)∨(S.a i=s∨((S.Ps s i∧¬S.low s i)∧S.Bel i j))):=by
  refine jb m (fun i hi=>?_)
  constructor
  ·rintro⟨h1,h2⟩
   rcases(S.cr_right hi).1 h1 with h3|h3|h3
   ·exact .inl h3
   ·exact .inr (.inl h3)
   ·exact .inr (.inr ⟨h3,h2⟩)
  ·rintro(h1|h1|⟨h1,h2⟩)
   ·exact⟨(S.cr_right hi).2 (.inl h1),S.lowP s i j hi hj h1.1.1 h1.1.2 pj.1 pj.2 h1.2 h⟩
   ·exact⟨(S.cr_right hi).2 (.inr (.inl h1)),(S.lowR s j i hj hi pj.1 pj.2 h1).2 h⟩
   ·exact⟨(S.cr_right hi).2 (.inr (.inr h1)),h2⟩
 rw[e,vk m,vk m]
 ·unfold bb rr;omega
 ·rintro i hi ⟨h1,⟨h2,_⟩,_⟩
  unfold Ps at h2;omega
 ·rintro i hi ⟨⟨h1,h2⟩,h3|⟨⟨_,h4⟩,_⟩⟩
  ·unfold Ps at h1;omega
  ·exact h4 h2
theorem high_lt {s j:Nat} (hj:j<m) (pj:S.Ps s j) (h:¬S.low s j):cn m (fun i=>(S.Ps s i∧¬S.low s i)∧S.Bel i j)<S.aa s:=
 JT (k:=j) hj (fun hc=>S.irr j hj hc.2) ⟨pj,h⟩ (fun i _ hc=>hc.1)
theorem pos_left_min {s j:Nat} (hj:j<m) (h:S.b j=s) (hn:∀i,i<m→S.b i=s→¬S.Bel i j):S.pos s j=S.bb s:=by
 refine jb m (fun i hi=>?_)
 constructor
 ·rintro⟨h1,h2⟩
  rcases(S.cr_left hi).1 h1 with h3|h3|⟨h3,h4⟩
  ·exact h3
  ·exact absurd h2 (hn i hi h3)
  ·have hc:=(S.lowL s i j hi hj h3.1 h3.2 h).2 h4
   exact(S.asym hi hj h1 ((S.cr_left hj).2 (.inr (.inl h))) h2 hc).elim
 ·rintro h1
  exact⟨(S.cr_left hi).2 (.inl h1),(S.lowL s i j hi hj h1.1.1 h1.1.2 h).1 h1.2⟩
theorem pos_right_min {s j:Nat} (hj:j<m) (h:S.a j=s) (hn:∀i,i<m→S.a i=s→¬S.Bel i j):S.pos (s+1) j=S.bb s:=by
 refine jb m (fun i hi=>?_)
 constructor
 ·rintro⟨h1,h2⟩
  rcases(S.cr_right hi).1 h1 with h3|h3|⟨h3,h4⟩
  ·exact h3
  ·exact absurd h2 (hn i hi h3)
  ·have hc:=(S.lowR s i j hi hj h3.1 h3.2 h).2 h4
   exact(S.asym hi hj h1 ((S.cr_right hj).2 (.inr (.inl h))) h2 hc).elim
 ·rintro h1
  exact⟨(S.cr_right hi).2 (.inl h1),(S.lowR s i j hi hj h1.1.1 h1.1.2 h).1 h1.2⟩
theorem pos_left_max {s j:Nat} (hj:j<m) (h:S.b j=s) (hn:∀i,i<m→S.b i=s→¬S.Bel j i):S.pos s j+1=S.bb s+S.ll s:=by
 have cj:S.Cr s j:=(S.cr_left hj).2 (.inr (.inl h))
 have e:cn m (fun i=>(S.Ps s i∧S.low s i)∨S.b i=s)=S.pos s j+1:=by
  refine Z6 (k:=j) hj (fun hc=>S.irr j hj hc.2) (fun i hi=>?_)
  constructor
  ·intro h1
   by_cases he:i=j
   ·exact .inr he
   ·left
    rcases h1 with h1|h1
    ·exact⟨(S.cr_left hi).2 (.inl h1),(S.lowL s i j hi hj h1.1.1 h1.1.2 h).1 h1.2⟩
    ·have ci:S.Cr s i:=(S.cr_left hi).2 (.inr (.inl h1))
     rcases S.tot s i j hi hj ci.1 ci.2 cj.1 cj.2 he with h3|h3
     ·exact⟨ci,h3⟩
     ·exact absurd h3 (hn i hi h1)
  ·rintro(⟨h1,h2⟩|rfl)
   ·rcases(S.cr_left hi).1 h1 with h3|h3|⟨h3,h4⟩
    ·exact .inl h3
    ·exact .inr h3
    ·exact(S.asym hi hj h1 cj h2 ((S.lowL s i j hi hj h3.1 h3.2 h).2 h4)).elim
   ·exact .inr h
 rw[←e,vk m]
 ·rfl
 ·rintro i hi ⟨⟨h1,_⟩,h3⟩
  unfold Ps at h1;omega
theorem pos_right_max {s j:Nat} (hj:j<m) (h:S.a j=s) (hn:∀i,i<m→S.a i=s→¬S.Bel j i):S.pos (s+1) j+1=S.bb s+S.rr s:=by
 have cj:S.Cr (s+1) j:=(S.cr_right hj).2 (.inr (.inl h))
 have e:cn m (fun i=>(S.Ps s i∧S.low s i)∨S.a i=s)=S.pos (s+1) j+1:=by
  refine Z6 (k:=j) hj (fun hc=>S.irr j hj hc.2) (fun i hi=>?_)
  constructor
  ·intro h1
   by_cases he:i=j
   ·exact .inr he
   ·left
    rcases h1 with h1|h1
    ·exact⟨(S.cr_right hi).2 (.inl h1),(S.lowR s i j hi hj h1.1.1 h1.1.2 h).1 h1.2⟩
    ·have ci:S.Cr (s+1) i:=(S.cr_right hi).2 (.inr (.inl h1))
     rcases S.tot (s+1) i j hi hj ci.1 ci.2 cj.1 cj.2 he with h3|h3
     ·exact⟨ci,h3⟩
     ·exact absurd h3 (hn i hi h1)
  ·rintro(⟨h1,h2⟩|rfl)
   ·rcases(S.cr_right hi).1 h1 with h3|h3|⟨h3,h4⟩
    ·exact .inl h3
    ·exact .inr h3
    ·exact(S.asym hi hj h1 cj h2 ((S.lowR s i j hi hj h3.1 h3.2 h).2 h4)).elim
   ·exact .inr h
 rw[←e,vk m]
 ·rfl
 ·rintro i hi ⟨⟨h1,_⟩,h3⟩
  unfold Ps at h1;omega
noncomputable def off:Nat→Nat
 |0=>0
 |s+1=>off s+S.K s+1
noncomputable def eB (s:Nat):List (Nat×Nat):=(List.range (S.bb s+1)).map (fun i=>(S.off s+i,S.off (s+1)+i))
noncomputable def eA (s k:Nat):List (Nat×Nat):=(List.range k).map (fun i=>(S.off s+(S.bb s+S.ll s)+i,S.off (s+1)+(S.bb s+S.rr s)+i))
noncomputable def eUp:Nat→List (Nat×Nat)
 |0=> []
 |s+1=>eUp s++(S.eB s++S.eA s (S.aa s+1))
noncomputable def eAll (t:Nat):List (Nat×Nat):=S.eUp t++(S.eB t++S.eA t (S.aa t))
theorem off_count:∀s,S.off (s+1)+s=(S.eUp s).length +1+cn m (fun j=>S.a j<s)
 |0=>by
  simp only[off,eUp,S.K_zero,List.length_nil]
  rw[kE m (fun i _ h=>by omega)]
 |s+1=>by
  have ih:=off_count s;have e1:S.off (s+1+1)=S.off (s+1)+S.K (s+1)+1:=rfl
  have e2:(S.eUp (s+1)).length =(S.eUp s).length +((S.bb s+1)+(S.aa s+1)):=by
   simp[eUp,eB,eA]
  have e3:cn m (fun j=>S.a j<s+1)=cn m (fun j=>S.a j<s)+S.rr s:=by
   unfold rr;rw[←vk m (fun i _ h=>by omega)];exact jb m (fun i _=>by omega)
  rw[e1,e2,e3,S.K_right];omega
theorem gaps_count {t:Nat} (ht:n=t+1):S.off (n+1)+n=(S.eAll t).length +2+m:=by
 have h:=S.off_count n
 have e1:(S.eUp n).length =(S.eAll t).length +1:=by
  subst ht;simp[eUp,eAll,eB,eA]
  omega
 have e2:cn m (fun j=>S.a j<n)=m:=by
  have h1:cn m (fun _=>True)=m:=by
   unfold cn;rw[List.filter_eq_self.2 (by simp)];simp
  exact(jb (p:=fun j=>S.a j<n) (q:=fun _=>True) m (fun i hi=>by
   have:=S.ab i hi;simp;omega)).trans h1
 omega
end Swp
namespace Swp
variable {m n:Nat} (S:Swp m n)
noncomputable def lab (x:Nat):Nat:=labE (S.eAll (n -1)) x
theorem mem_eUp {e:Nat×Nat}:∀t s,s<t→(e∈S.eB s∨e∈S.eA s (S.aa s+1))→e∈S.eUp t
 |0,s,h,_=>absurd h (by omega)
 |t+1,s,h,he=>by
  show e∈S.eUp t++(S.eB t++S.eA t (S.aa t+1))
  by_cases h1:s=t
  ·subst h1
   exact List.mem_append_right _ (by rcases he with h2|h2;exact List.mem_append_left _ h2;exact List.mem_append_right _ h2)
  ·exact List.mem_append_left _ (mem_eUp t s (by omega) he)
theorem lab_below {s i:Nat} (hs:s<n) (hi:i≤S.bb s):S.lab (S.off s+i)=S.lab (S.off (s+1)+i):=by
 have hm:(S.off s+i,S.off (s+1)+i)∈S.eB s:=List.mem_map.2 ⟨i,List.mem_range.2 (by omega),rfl⟩;refine kH (S.eAll (n -1)) (S.off s+i,S.off (s+1)+i) ?_
 unfold eAll
 by_cases h:s<n -1
 ·exact List.mem_append_left _ (S.mem_eUp _ s h (.inl hm))
 ·have:s=n -1:=by omega
  subst this;exact List.mem_append_right _ (List.mem_append_left _ hm)
theorem lab_above0 {s i:Nat} (hs:s<n) (hi:i<S.aa s∨(i=S.aa s∧s+1<n)):S.lab (S.off s+(S.bb s+S.ll s)+i)=S.lab (S.off (s+1)+(S.bb s+S.rr s)+i):=by
 refine kH (S.eAll (n -1)) (S.off s+(S.bb s+S.ll s)+i,S.off (s+1)+(S.bb s+S.rr s)+i) ?_
 unfold eAll
 by_cases h:s<n -1
 ·exact List.mem_append_left _ (S.mem_eUp _ s h (.inr (List.mem_map.2 ⟨i,List.mem_range.2 (by omega),rfl⟩)))
 ·have:s=n -1:=by omega
  subst this;exact List.mem_append_right _ (List.mem_append_right _ (List.mem_map.2 ⟨i,List.mem_range.2 (by omega),rfl⟩))
theorem lab_bottom:∀s,s≤n→S.lab (S.off s)=S.lab 0
 |0,_=>rfl
 |s+1,h=>by
  have h1:=S.lab_below (s:=s) (i:=0) (by omega) (Nat.zero_le _);rw[Nat.add_zero,Nat.add_zero] at h1;rw[←h1];exact lab_bottom s (by omega)
theorem lab_top0:∀s,s<n→S.lab (S.off s+S.K s)=S.lab 0
 |0,_=>by rw[S.K_zero];rfl
 |s+1,h=>by
  have h1:=S.lab_above0 (s:=s) (i:=S.aa s) (by omega) (.inr ⟨rfl,h⟩);have ih:=lab_top0 s (by omega);rw[S.K_left] at ih;rw[S.K_right];rw[show S.off (s+1)+(S.bb s+S.rr s+S.aa s)=S.off (s+1)+(S.bb s+S.rr s)+S.aa s by omega,←h1,←ih]
  congr 1
  omega
theorem lab_top {s:Nat} (h:s≤n):S.lab (S.off s+S.K s)=S.lab 0:=by
 by_cases h1:s<n
 ·exact S.lab_top0 s h1
 ·have:s=n:=by omega
  subst this;rw[S.K_end];exact S.lab_bottom _ (Nat.le_refl _)
theorem lab_above {s i:Nat} (hs:s<n) (hi:i≤S.aa s):S.lab (S.off s+(S.bb s+S.ll s)+i)=S.lab (S.off (s+1)+(S.bb s+S.rr s)+i):=by
 by_cases h:i<S.aa s∨(i=S.aa s∧s+1<n)
 ·exact S.lab_above0 hs h
 ·have h1:i=S.aa s:=by omega
  have h2:s+1=n:=by omega
  subst h1;have e1:=S.lab_top (s:=s) (by omega);have e2:=S.lab_top (s:=s+1) (by omega);rw[S.K_left] at e1;rw[S.K_right] at e2;rw[Nat.add_assoc (S.off s) (S.bb s+S.ll s),Nat.add_assoc (S.off (s+1)) (S.bb s+S.rr s),e1,e2]
noncomputable def gap (fw:Bool) (s j:Nat):Nat:=if fw then S.off s+S.pos s j+1 else S.off s+S.pos s j
theorem gap_pass {fw:Bool} {s j:Nat} (hj:j<m) (pj:S.Ps s j):S.lab (S.gap fw s j)=S.lab (S.gap fw (s+1) j):=by
 have hs:s<n:=by have:=S.ab j hj;unfold Ps at pj;omega
 rcases Classical.em (S.low s j) with h|h
 ·have h1:=S.pos_low_lt hj pj h
  have e:S.pos (s+1) j=S.pos s j:=(S.pos_low_right hj pj h).trans (S.pos_low_left hj pj h).symm
  cases fw
  ·show S.lab (S.off s+S.pos s j)=S.lab (S.off (s+1)+S.pos (s+1) j)
   rw[e];exact S.lab_below hs (by omega)
  ·show S.lab (S.off s+(S.pos s j+1))=S.lab (S.off (s+1)+(S.pos (s+1) j+1))
   rw[e];exact S.lab_below hs (by omega)
 ·have h1:=S.high_lt hj pj h
  have e1:=S.pos_high_left hj pj h;have e2:=S.pos_high_right hj pj h;generalize cn m (fun i=>(S.Ps s i∧¬S.low s i)∧S.Bel i j)=q at*
  cases fw
  ·show S.lab (S.off s+S.pos s j)=S.lab (S.off (s+1)+S.pos (s+1) j)
   rw[e1,e2,←Nat.add_assoc (S.off s) (S.bb s+S.ll s),←Nat.add_assoc (S.off (s+1)) (S.bb s+S.rr s)];exact S.lab_above (i:=q) hs (by omega)
  ·show S.lab (S.off s+S.pos s j+1)=S.lab (S.off (s+1)+S.pos (s+1) j+1)
   rw[e1,e2,show S.off s+(S.bb s+S.ll s+q)+1=S.off s+(S.bb s+S.ll s)+(q+1) by omega,show S.off (s+1)+(S.bb s+S.rr s+q)+1=S.off (s+1)+(S.bb s+S.rr s)+(q+1) by omega];exact S.lab_above (i:=q+1) hs (by omega)
theorem gap_steps {fw:Bool} {j:Nat} (hj:j<m):∀k,S.a j+1+k≤S.b j→S.lab (S.gap fw (S.a j+1) j)=S.lab (S.gap fw (S.a j+1+k) j)
 |0,_=>rfl
 |k+1,h=>by
  rw[gap_steps hj k (by omega)];exact S.gap_pass hj ⟨by omega,by omega⟩
theorem gap_same {fw:Bool} {s t j:Nat} (hj:j<m) (cs:S.Cr s j) (ct:S.Cr t j):S.lab (S.gap fw s j)=S.lab (S.gap fw t j):=by
 unfold Cr at cs ct;have h1:=S.gap_steps (fw:=fw) hj (s -(S.a j+1)) (by omega);have h2:=S.gap_steps (fw:=fw) hj (t -(S.a j+1)) (by omega);rw[show S.a j+1+(s -(S.a j+1))=s by omega] at h1;rw[show S.a j+1+(t -(S.a j+1))=t by omega] at h2;rw[←h1,←h2]
noncomputable def reg (fw:Bool) (j:Nat):Nat:=S.lab (S.gap fw (S.b j) j)
theorem reg_at {fw:Bool} {s j:Nat} (hj:j<m) (cs:S.Cr s j):S.reg fw j=S.lab (S.gap fw s j):=
 S.gap_same hj ⟨(S.ab j hj).1,Nat.le_refl _⟩ cs
inductive Turn (s:Nat):Bool→Nat→Bool→Nat→Prop
 |upL {j j':Nat} (h:S.b j=s) (h':S.b j'=s) (hb:S.Bel j j') (hn:∀k,k<m→S.b k=s→¬(S.Bel j k∧S.Bel k j')):Turn s true j false j'
 |backL {j j':Nat} (h:S.b j=s) (h':S.b j'=s) (hj:∀i,i<m→S.b i=s→¬S.Bel j i) (hj':∀i,i<m→S.b i=s→¬S.Bel i j') (hn:∀i,i<m→S.a i≠s):Turn s true j false j'
 |over {j j':Nat} (h:S.b j=s) (h':S.a j'=s) (hj:∀i,i<m→S.b i=s→¬S.Bel j i) (hj':∀i,i<m→S.a i=s→¬S.Bel j' i):Turn s true j true j'
 |downR {j j':Nat} (h:S.a j=s) (h':S.a j'=s) (hb:S.Bel j' j) (hn:∀k,k<m→S.a k=s→¬(S.Bel j' k∧S.Bel k j)):Turn s false j true j'
 |backR {j j':Nat} (h:S.a j=s) (h':S.a j'=s) (hj:∀i,i<m→S.a i=s→¬S.Bel i j) (hj':∀i,i<m→S.a i=s→¬S.Bel j' i) (hn:∀i,i<m→S.b i≠s):Turn s false j true j'
 |under {j j':Nat} (h:S.a j=s) (h':S.b j'=s) (hj:∀i,i<m→S.a i=s→¬S.Bel i j) (hj':∀i,i<m→S.b i=s→¬S.Bel i j'):Turn s false j false j'
theorem next_left {s i j:Nat} (hi:i<m) (hj:j<m) (h:S.b i=s) (h':S.b j=s) (hb:S.Bel i j) (hn:∀k,k<m→S.b k=s→¬(S.Bel i k∧S.Bel k j)):S.pos s j=S.pos s i+1:=by
 have ci:S.Cr s i:=(S.cr_left hi).2 (.inr (.inl h));have cj:S.Cr s j:=(S.cr_left hj).2 (.inr (.inl h'));refine S.pos_next hi hj ci cj hb (fun k hk ck hc=>?_)
 rcases(S.cr_left hk).1 ck with h3|h3|⟨h3,h4⟩
 ·exact S.asym hk hi ck ci ((S.lowL s k i hk hi h3.1.1 h3.1.2 h).1 h3.2) hc.1
 ·exact hn k hk h3 hc
 ·exact S.asym hk hj ck cj hc.2 ((S.lowL s k j hk hj h3.1 h3.2 h').2 h4)
theorem next_right {s i j:Nat} (hi:i<m) (hj:j<m) (h:S.a i=s) (h':S.a j=s) (hb:S.Bel i j) (hn:∀k,k<m→S.a k=s→¬(S.Bel i k∧S.Bel k j)):S.pos (s+1) j=S.pos (s+1) i+1:=by
 have ci:S.Cr (s+1) i:=(S.cr_right hi).2 (.inr (.inl h));have cj:S.Cr (s+1) j:=(S.cr_right hj).2 (.inr (.inl h'));refine S.pos_next hi hj ci cj hb (fun k hk ck hc=>?_)
 rcases(S.cr_right hk).1 ck with h3|h3|⟨h3,h4⟩
 ·exact S.asym hk hi ck ci ((S.lowR s k i hk hi h3.1.1 h3.1.2 h).1 h3.2) hc.1
 ·exact hn k hk h3 hc
 ·exact S.asym hk hj ck cj hc.2 ((S.lowR s k j hk hj h3.1 h3.2 h').2 h4)
theorem turn_reg {s:Nat} {fw fw':Bool} {j j':Nat} (hs:s<n) (hj:j<m) (hj':j'<m) (ht:S.Turn s fw j fw' j'):S.reg fw j=S.reg fw' j':=by
 have mid:S.lab (S.off s+S.bb s)=S.lab (S.off (s+1)+S.bb s):=S.lab_below hs (Nat.le_refl _)
 have top:S.lab (S.off s+(S.bb s+S.ll s))=S.lab (S.off (s+1)+(S.bb s+S.rr s)):=by
  have:=S.lab_above hs (i:=0) (Nat.zero_le _);exact this
 have crl:∀ {j},j<m→S.b j=s→S.Cr s j:=fun hj h=>(S.cr_left hj).2 (.inr (.inl h))
 have crr:∀ {j},j<m→S.a j=s→S.Cr (s+1) j:=fun hj h=>(S.cr_right hj).2 (.inr (.inl h))
 cases ht with
 |upL h h' hb hn=>
  rw[S.reg_at hj (crl hj h),S.reg_at hj' (crl hj' h')]
  show S.lab (S.off s+S.pos s j+1)=S.lab (S.off s+S.pos s j')
  rw[S.next_left hj hj' h h' hb hn];rfl
 |backL h h' hx hx' hn=>
  rw[S.reg_at hj (crl hj h),S.reg_at hj' (crl hj' h')]
  show S.lab (S.off s+S.pos s j+1)=S.lab (S.off s+S.pos s j')
  rw[S.pos_left_min hj' h' hx',Nat.add_assoc,S.pos_left_max hj h hx,mid,top];rw[show S.rr s=0 from kE m (fun i hi=>hn i hi)];rfl
 |over h h' hx hx'=>
  rw[S.reg_at hj (crl hj h),S.reg_at hj' (crr hj' h')]
  show S.lab (S.off s+S.pos s j+1)=S.lab (S.off (s+1)+S.pos (s+1) j'+1)
  rw[Nat.add_assoc,Nat.add_assoc,S.pos_left_max hj h hx,S.pos_right_max hj' h' hx',top]
 |downR h h' hb hn=>
  rw[S.reg_at hj (crr hj h),S.reg_at hj' (crr hj' h')]
  show S.lab (S.off (s+1)+S.pos (s+1) j)=S.lab (S.off (s+1)+S.pos (s+1) j'+1)
  rw[S.next_right hj' hj h' h hb hn];rfl
 |backR h h' hx hx' hn=>
  rw[S.reg_at hj (crr hj h),S.reg_at hj' (crr hj' h')]
  show S.lab (S.off (s+1)+S.pos (s+1) j)=S.lab (S.off (s+1)+S.pos (s+1) j'+1)
  rw[S.pos_right_min hj h hx,Nat.add_assoc,S.pos_right_max hj' h' hx',←top,←mid];rw[show S.ll s=0 from kE m (fun i hi=>hn i hi)];rfl
 |under h h' hx hx'=>
  rw[S.reg_at hj (crr hj h),S.reg_at hj' (crl hj' h')]
  show S.lab (S.off (s+1)+S.pos (s+1) j)=S.lab (S.off s+S.pos s j')
  rw[S.pos_right_min hj h hx,S.pos_left_min hj' h' hx',mid]
theorem off_lt:∀s x,x<S.off s→∃t i,t<s∧i≤S.K t∧x=S.off t+i
 |0,x,h=>absurd h (by unfold off;omega)
 |s+1,x,h=>by
  by_cases h1:x<S.off s
  ·obtain⟨t,i,h2,h3,h4⟩:=off_lt s x h1
   exact⟨t,i,by omega,h3,h4⟩
  ·have:S.off (s+1)=S.off s+S.K s+1:=rfl
   exact⟨s,x -S.off s,by omega,by omega,by omega⟩
theorem gap_dart (hm:0<m) {x:Nat} (hx:x<S.off (n+1)):∃fw j,j<m∧S.lab x=S.reg fw j:=by
 obtain⟨s,i,h1,h2,rfl⟩:=S.off_lt (n+1) x hx
 have use:∀s,s≤n→∀i,i≤S.K s→0<S.K s→∃fw j,j<m∧S.lab (S.off s+i)=S.reg fw j:=by
  intro s hs i h2 hk
  by_cases hi:i=0
  ·obtain⟨j,hj,cj,hp⟩:=S.pos_onto (k:=0) hk
   refine⟨false,j,hj,?_⟩
   rw[S.reg_at hj cj]
   show _=S.lab (S.off s+S.pos s j)
   rw[hp,hi]
  ·obtain⟨j,hj,cj,hp⟩:=S.pos_onto (s:=s) (k:=i -1) (by omega)
   refine⟨true,j,hj,?_⟩
   rw[S.reg_at hj cj]
   show _=S.lab (S.off s+S.pos s j+1)
   rw[hp,Nat.add_assoc,show i -1+1=i by omega]
 by_cases hk:0<S.K s
 ·exact use s (by omega) i h2 hk
 ·have hi:i=0:=by omega
  subst hi;rw[Nat.add_zero,S.lab_bottom s (by omega)];have h3:=S.ab 0 hm
  have hk2:0<S.K (S.b 0):=by
   have:=S.pos_lt (s:=S.b 0) hm ⟨h3.1,Nat.le_refl _⟩;omega
  obtain⟨fw,j,hj,e⟩:=use (S.b 0) (by omega) 0 (Nat.zero_le _) hk2;refine⟨fw,j,hj,?_⟩
  rw[←e,Nat.add_zero,S.lab_bottom _ (by omega)]
theorem faces_ge (hm:0<m) {F:Nat} (fc:Bool→Nat→Nat) (hF:∀fw j,j<m→fc fw j<F) (hreg:∀fw j fw' j',j<m→j'<m→fc fw j=fc fw' j'→S.reg fw j=S.reg fw' j'):m+2≤F+n:=by
 have h0:=S.ab 0 hm;obtain⟨t,ht⟩:∃t,n=t+1:=⟨n -1,by omega⟩;have h1:=S.gaps_count ht;have h2:=ZP (S.off (n+1)) (S.eAll t)
 have h3:((List.range (S.off (n+1))).filter fun i=>labE (S.eAll t) i==i).length ≤F:=by
  have hc:∀x,x<S.off (n+1)→∃f,f<F∧∃fw j,j<m∧fc fw j=f∧S.lab x=S.reg fw j:=by
   intro x hx;obtain⟨fw,j,hj,e⟩:=S.gap_dart hm hx;exact⟨fc fw j,hF fw j hj,fw,j,hj,rfl,e⟩
  let g:Nat→Nat:=fun x=>if hx:x<S.off (n+1) then(hc x hx).choose else 0
  have hg:∀x (hx:x<S.off (n+1)),g x<F∧∃fw j,j<m∧fc fw j=g x∧S.lab x=S.reg fw j:=by
   intro x hx;have e:g x=(hc x hx).choose :=by simp[g,hx]
   rw[e];exact(hc x hx).choose_spec
  have hlab:∀x,labE (S.eAll t) x=S.lab x:=by intro x;unfold lab;rw[show n -1=t by omega]
  generalize hL:(List.range (S.off (n+1))).filter (fun i=>labE (S.eAll t) i==i)=L
  have hmem:∀x∈L,x<S.off (n+1)∧S.lab x=x:=by
   intro x hx;rw[←hL,List.mem_filter,List.mem_range,hlab] at hx;exact⟨hx.1,by simpa using hx.2⟩
  have hnd:(L.map g).Nodup :=by
   refine List.pairwise_map.2 (List.Pairwise.imp_of_mem ?_ (hL▸List.nodup_range.filter _))
   intro x y hx hy hxy he;obtain⟨hx1,hx2⟩:=hmem x hx;obtain⟨hy1,hy2⟩:=hmem y hy;obtain⟨_,fw,j,hj,e1,e2⟩:=hg x hx1;obtain⟨_,fw',j',hj',e3,e4⟩:=hg y hy1
   apply hxy
   rw[←hx2,←hy2,e2,e4];exact hreg fw j fw' j' hj hj' (by rw[e1,e3,he])
  have:=hnd.length_le_of_subset (l₂:=List.range F) (by
   intro z hz;obtain⟨x,hx,rfl⟩:=List.mem_map.1 hz;exact List.mem_range.2 (hg x (hmem x hx).1).1)
  rw[List.length_map,List.length_range] at this;exact this
 omega
end Swp
end Go.Proofs.YtnjcpljhmhdhkaaGreat
