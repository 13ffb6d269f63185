/- part 27 -/
import Derived.Test.YtnjcpljhmhdhkaaGreatTPk26
import Derived.Test.YtnjcpljhmhdhkaaGreatProg
import Derived.Lib.Small
import Derived.Lib.Walk
import Derived.Lib.BitFns
import Derived.Lib.Strings
set_option linter.unusedSimpArgs false
set_option linter.unusedVariables false
set_option maxRecDepth 100000
set_option maxHeartbeats 2000000
namespace Go.Proofs.YtnjcpljhmhdhkaaGreat
def addS (s:Nat) (l:Pr):Nat:=if s.testBit l.1.toNat ||s.testBit l.2.toNat then s ||| (2^l.1.toNat ||| 2^l.2.toNat) else s
def zV (s:Nat) (ls:List Pr):Nat:=ls.foldl addS s
def zp (s:Nat) (ls:List Pr):Nat→Nat
 |0=>s
 |k+1=>zV (zp s ls k) ls
theorem z0P (s:Nat) (l:Pr) {i:Nat} (h:s.testBit i=true):(addS s l).testBit i=true:=by
 unfold addS
 split
 ·rw[Nat.testBit_or,h];rfl
 ·exact h
theorem yw:∀(ls:List Pr) (s:Nat) {i:Nat},s.testBit i=true→(zV s ls).testBit i=true
 | [],s,i,h=>h
 |l::ls,s,i,h=>by
  show(zV (addS s l) ls).testBit i=true
  exact yw ls _ (z0P s l h)
theorem yZ (s:Nat) (a b:List Pr):zV s (a++b)=zV (zV s a) b:=by simp[zV]
theorem z56 {s m:Nat} {l:Pr} (hs:s<2^m) (h1:l.1.toNat <m) (h2:l.2.toNat <m):addS s l<2^m:=by
 unfold addS
 split
 ·exact Nat.or_lt_two_pow hs (Nat.or_lt_two_pow (Nat.pow_lt_pow_right (by omega) h1) (Nat.pow_lt_pow_right (by omega) h2))
 ·exact hs
theorem kK {m:Nat}:∀(ls:List Pr) (s:Nat),s<2^m→(∀l∈ls,l.1.toNat <m∧l.2.toNat <m)→zV s ls<2^m
 | [],s,h,_=>h
 |l::ls,s,h,hl=>by
  show zV (addS s l) ls<2^m
  exact kK ls _ (z56 h (hl l (by simp)).1 (hl l (by simp)).2) (fun x hx=>hl x (by simp[hx]))
theorem vO {m:Nat} {ls:List Pr} {s:Nat} (h:s<2^m) (hl:∀l∈ls,l.1.toNat <m∧l.2.toNat <m):∀k,zp s ls k<2^m
 |0=>h
 |k+1=>kK ls _ (vO h hl k) hl
theorem V6 {s:Nat} {ls:List Pr} (h:zV s ls=s):∀l∈ls,(s.testBit l.1.toNat =true↔s.testBit l.2.toNat =true):=by
 have key:∀(ls:List Pr) (t:Nat),(∀i,s.testBit i=true→t.testBit i=true)→(∀i,(zV t ls).testBit i=true→s.testBit i=true)→∀l∈ls,(s.testBit l.1.toNat =true↔s.testBit l.2.toNat =true):=by
  intro ls
  induction ls with
  |nil=>intro t _ _ l hl;cases hl
  |cons x ls ih=>
   intro t h1 h2 l hl;have h3:∀i,(addS t x).testBit i=true→s.testBit i=true:=fun i hi=>h2 i (yw ls _ hi)
   rcases List.mem_cons.1 hl with rfl|hl
   ·have h4:s.testBit l.1.toNat =true∨s.testBit l.2.toNat =true→s.testBit l.1.toNat =true∧s.testBit l.2.toNat =true:=by
     intro hor
     have ht:(t.testBit l.1.toNat ||t.testBit l.2.toNat)=true:=by
      rcases hor with h5|h5
      ·rw[h1 _ h5];rfl
      ·rw[h1 _ h5,Bool.or_true]
     have e:addS t l=t ||| (2^l.1.toNat ||| 2^l.2.toNat):=by unfold addS;rw[if_pos ht]
     constructor
     ·exact h3 _ (by rw[e];simp[Nat.testBit_or,Nat.testBit_two_pow_self])
     ·exact h3 _ (by rw[e];simp[Nat.testBit_or,Nat.testBit_two_pow_self])
    exact⟨fun h5=>(h4 (.inl h5)).2,fun h5=>(h4 (.inr h5)).1⟩
   ·exact ih (addS t x) (fun i hi=>z0P t x (h1 i hi)) h2 l hl
 exact key ls s (fun _ h=>h) (fun i hi=>by rw[h] at hi;exact hi)
theorem z2Z {s t m:Nat} (h:∀i,s.testBit i=true→t.testBit i=true):(memS s m).length ≤(memS t m).length :=by
 induction m with
 |zero=>simp[memS]
 |succ m ih=>
  cases hs:s.testBit m
  ·rw[j6 hs]
   cases ht:t.testBit m
   ·rw[j6 ht];exact ih
   ·rw[qp ht];simp;omega
  ·rw[qp hs,qp (h m hs)];simp;exact ih
theorem z0I {s t m:Nat} (h:∀i,s.testBit i=true→t.testBit i=true) (hs:s<2^m) (ht:t<2^m) (hne:s≠t):(memS s m).length <(memS t m).length :=by
 have hi:∃i,i<m∧s.testBit i=false∧t.testBit i=true:=by
  apply Classical.byContradiction
  intro hc
  apply hne
  apply Nat.eq_of_testBit_eq
  intro i
  cases h1:s.testBit i
  ·cases h2:t.testBit i
   ·rfl
   ·have hm:i<m:=by
     apply Classical.byContradiction
     intro hm;rw[Nat.testBit_lt_two_pow (Nat.lt_of_lt_of_le ht (Nat.pow_le_pow_right (by omega) (by omega)))] at h2
     cases h2
    exact absurd ⟨i,hm,h1,h2⟩ hc
  ·exact(h i h1).symm
 obtain⟨i,him,h1,h2⟩:=hi;clear hs ht hne
 induction m with
 |zero=>omega
 |succ m ih=>
  by_cases he:i=m
  ·subst he
   rw[j6 h1,qp h2];have:=z2Z (m:=i) h;simp;omega
  ·have:=ih (by omega)
   cases hs:s.testBit m
   ·rw[j6 hs]
    cases ht:t.testBit m
    ·rw[j6 ht];exact this
    ·rw[qp ht];simp;omega
   ·rw[qp hs,qp (h m hs)];simp;exact this
theorem Zu {s m:Nat} {ls:List Pr} (hs:s<2^m) (h0:0<(memS s m).length) (hl:∀l∈ls,l.1.toNat <m∧l.2.toNat <m):zV (zp s ls m) ls=zp s ls m:=by
 apply Classical.byContradiction
 intro hc
 have stay:∀k j,zV (zp s ls k) ls=zp s ls k→zp s ls (k+j)=zp s ls k:=by
  intro k j hk
  induction j with
  |zero=>rfl
  |succ j ih=>show zV (zp s ls (k+j)) ls=_;rw[ih,hk]
 have hne:∀k,k≤m→zV (zp s ls k) ls≠zp s ls k:=by
  intro k hk he;have:=stay k (m -k) he;rw[show k+(m -k)=m by omega] at this;rw[this] at hc;exact hc he
 have grow:∀k,k≤m→k<(memS (zp s ls k) m).length :=by
  intro k
  induction k with
  |zero=>intro _;exact h0
  |succ k ih=>
   intro hk;have h1:=ih (by omega);have h2:=z0I (s:=zp s ls k) (t:=zV (zp s ls k) ls) (m:=m) (fun i hi=>yw ls _ hi) (vO hs hl k) (kK ls _ (vO hs hl k) hl) (fun e=>hne k (by omega) e.symm)
   show k+1<(memS (zV (zp s ls k) ls) m).length
   omega
 have h1:=grow m (Nat.le_refl _);have h2:=z2s (zp s ls m) m;omega
theorem QA (a b x:Int):vU a b x=x∨(x=mx2 a b∧vU a b x=mn2 a b):=by
 unfold vU;split
 ·rename_i h;exact .inr ⟨h,rfl⟩
 ·exact .inl rfl
theorem mxmn (a b:Int):(mx2 a b=a∧mn2 a b=b)∨(mx2 a b=b∧mn2 a b=a):=by
 rw[vh,xv];omega
theorem ky {g:List Int} {f:Int→Int} {i:Nat} (h:i<g.length):(g.map f).getD i 0=f (g.getD i 0):=by
 simp[List.getD,h]
def xm (n:Nat) (ls:List Pr):Prop:=∀j:Nat,j<ls.length→∃p q:Nat,(ndI ls j).1=p∧(ndI ls j).2=q∧p<n∧q<n
theorem xV {n:Nat} {ls:List Pr} (hl:xm n ls):∀k,k≤ls.length→∀i,i<n→0≤(zh n ls k).getD i 0∧(zh n ls k).getD i 0≤i
 |0,_,i,hi=>by
  rw[QG];have:(natI (List.range n)).getD i 0=(i:Int):=by simp[natI,List.getD,hi]
  rw[this];omega
 |k+1,hk,i,hi=>by
  obtain⟨p,q,h1,h2,h3,h4⟩:=hl k (by omega);rw[yK n ls k (by omega) p q h1 h2,ky (by rw[qG];exact hi)];have hb:=xV hl k (by omega);have hp:=hb p h3;have hq:=hb q h4;have h0:=hb i hi
  rcases QA ((zh n ls k).getD p 0) ((zh n ls k).getD q 0) ((zh n ls k).getD i 0) with h|⟨h,h'⟩
  ·rw[h];exact h0
  ·rw[h']
   rw[vh] at h;rw[xv];omega
theorem ym {n:Nat} {ls:List Pr} (hl:xm n ls) (C:Nat→Prop) (hC:∀j:Nat,j<ls.length→∀p q:Nat,(ndI ls j).1=p→(ndI ls j).2=q→(C p↔C q)):∀k,k≤ls.length→∀i,i<n→(C i↔C ((zh n ls k).getD i 0).toNat)
 |0,_,i,hi=>by
  rw[QG];have:(natI (List.range n)).getD i 0=(i:Int):=by simp[natI,List.getD,hi]
  rw[this,Int.toNat_natCast]
 |k+1,hk,i,hi=>by
  obtain⟨p,q,h1,h2,h3,h4⟩:=hl k (by omega);rw[yK n ls k (by omega) p q h1 h2,ky (by rw[qG];exact hi)];have ih:=ym hl C hC k (by omega);have hp:=ih p h3;have hq:=ih q h4;have h0:=ih i hi;have hpq:=hC k (by omega) p q h1 h2;generalize (zh n ls k).getD p 0=a at*;generalize (zh n ls k).getD q 0=b at*;generalize (zh n ls k).getD i 0=x at*
  rcases QA a b x with h|⟨h,h'⟩
  ·rw[h];exact h0
  ·rw[h',h0,h]
   rcases mxmn a b with ⟨e1,e2⟩|⟨e1,e2⟩<;>rw[e1,e2]
   ·rw[←hp,←hq,hpq]
   ·rw[←hp,←hq,hpq]
theorem xf {n:Nat} {ls:List Pr} (hl:xm n ls):∀k,k≤ls.length→∀j,j<k→∀p q:Nat,(ndI ls j).1=p→(ndI ls j).2=q→(zh n ls k).getD p 0=(zh n ls k).getD q 0
 |0,_,j,hj,_,_,_,_=>absurd hj (by omega)
 |k+1,hk,j,hj,p,q,hp,hq=>by
  obtain⟨p',q',h1,h2,h3,h4⟩:=hl k (by omega);obtain⟨p2,q2,g1,g2,g3,g4⟩:=hl j (by omega);have e1:p2=p:=by rw[hp] at g1;omega
  have e2:q2=q:=by rw[hq] at g2;omega
  subst e1 e2;rw[yK n ls k (by omega) p' q' h1 h2,ky (by rw[qG];exact g3),ky (by rw[qG];exact g4)]
  by_cases he:j=k
  ·subst he
   have e3:p'=p2:=by rw[hp] at h1;omega
   have e4:q'=q2:=by rw[hq] at h2;omega
   subst e3 e4;generalize (zh n ls j).getD p' 0=a;generalize (zh n ls j).getD q' 0=b;unfold vU
   rcases mxmn a b with ⟨x1,x2⟩|⟨x1,x2⟩<;>rw[x1,x2]<;>split<;>split<;>simp_all
  ·rw[xf hl k (by omega) j (by omega) p2 q2 hp hq]
theorem z3c {n:Nat} {ls:List Pr} (hl:xm n ls) (hn:0<n):
  (memS (zp 1 ls n) n).length =n↔(zh n ls ls.length).all (· ==0)=true:=by
 have hl':∀l∈ls,l.1.toNat <n∧l.2.toNat <n:=by
  intro l hm;obtain⟨j,hj,e⟩:=List.getElem_of_mem hm;obtain⟨p,q,h1,h2,h3,h4⟩:=hl j hj;rw[zT ls j hj,e] at h1 h2;rw[h1,h2,Int.toNat_natCast,Int.toNat_natCast];exact⟨h3,h4⟩
 have h1:(1:Nat)<2^n:=Nat.one_lt_two_pow (by omega);have hm1:0<(memS 1 n).length :=List.length_pos_of_mem (a:=0) (by simp[memS,hn]);have hf:=V6 (Zu h1 hm1 hl')
 have hsub:∀k,(zp 1 ls k).testBit 0=true:=by
  intro k
  induction k with
  |zero=>show(1:Nat).testBit 0=true;decide
  |succ k ih=>exact yw ls _ ih
 generalize hS:zp 1 ls n=S at*;rw[z4p,List.all_eq_true]
 constructor
 ·intro hall x hx
  obtain⟨i,hi,e⟩:=List.getElem_of_mem hx;have hin:i<n:=by rw[qG] at hi;exact hi
  have lab:∀k,∀i,i<n→(zp 1 ls k).testBit i=true→(zh n ls ls.length).getD i 0=(zh n ls ls.length).getD 0 0:=by
   have step:∀(m:Nat),m≤ls.length→∀s:Nat,(∀i,i<n→s.testBit i=true→(zh n ls ls.length).getD i 0=(zh n ls ls.length).getD 0 0)→∀i,i<n→(zV s (ls.take m)).testBit i=true→(zh n ls ls.length).getD i 0=(zh n ls ls.length).getD 0 0:=by
    intro m
    induction m with
    |zero=>intro _ s h i hi hb;exact h i hi (by simpa[zV] using hb)
    |succ m ih=>
     intro hm s h i hi hb;have ih':=ih (by omega) s h;rw[List.take_succ_eq_append_getElem (by omega),yZ] at hb;generalize zV s (ls.take m)=t at*;obtain⟨p,q,g1,g2,g3,g4⟩:=hl m (by omega);have hpq:=xf hl ls.length (Nat.le_refl _) m (by omega) p q g1 g2;rw[zT ls m (by omega)] at g1 g2;have hb':(addS t ls[m]).testBit i=true:=hb;unfold addS at hb';rw[g1,g2,Int.toNat_natCast,Int.toNat_natCast] at hb'
     split at hb'
     ·rename_i hor
      rw[Nat.testBit_or,Nat.testBit_or,Bool.or_eq_true,Bool.or_eq_true] at hb'
      have hlab:(zh n ls ls.length).getD p 0=(zh n ls ls.length).getD 0 0:=by
       rw[Bool.or_eq_true] at hor
       rcases hor with h5|h5
       ·exact ih' p g3 h5
       ·rw[hpq];exact ih' q g4 h5
      rcases hb' with h5|h5|h5
      ·exact ih' i hi h5
      ·rw[Nat.testBit_two_pow] at h5
       have:p=i:=by simpa using h5
       rw[←this];exact hlab
      ·rw[Nat.testBit_two_pow] at h5
       have:q=i:=by simpa using h5
       rw[←this,←hpq];exact hlab
     ·exact ih' i hi hb'
   intro k
   induction k with
   |zero=>
    intro i hi hb
    have:i=0:=by
     apply Classical.byContradiction
     intro h;rw[show zp 1 ls 0=2^0 from rfl,Nat.testBit_two_pow] at hb;have:0=i:=by simpa using hb
     omega
    rw[this]
   |succ k ih=>
    intro i hi hb;have:=step ls.length (Nat.le_refl _) (zp 1 ls k) ih i hi;rw[List.take_length] at this;exact this hb
  have h2:=lab n i hin (by rw[hS];exact hall i hin);have h3:=xV hl ls.length (Nat.le_refl _) 0 hn;have h4:(zh n ls ls.length).getD i 0=x:=by simp[List.getD,hi,e]
  rw[h4] at h2;have:x=0:=by omega
  simp[this]
 ·intro hall i hi
  have hc:=ym hl (fun i=>S.testBit i=true) (fun j hj p q hp hq=>by
   have:=hf ls[j] (List.getElem_mem hj);rw[zT ls j hj] at hp hq;rw[hp,hq,Int.toNat_natCast,Int.toNat_natCast] at this;exact this) ls.length (Nat.le_refl _) i hi
  rw[hc];have hlen:i<(zh n ls ls.length).length :=by rw[qG];exact hi
  have h2:=hall (zh n ls ls.length)[i] (List.getElem_mem hlen);have h3:(zh n ls ls.length).getD i 0=0:=by simpa[List.getD,hlen] using h2
  rw[h3];have:=hsub n;rw[hS] at this;exact this
open Go.RowKit
theorem z3d (x:Int) (w:World) (h0:0≤x) (h:x≤12):
  Calls Tryz.prog 285 #[.int .u64 x] w fun e w'=>(∃k:Int,e= .returned (.int .i64 k))∧w=w':=by
 go_enter Tryz.func285,Tryz.ntmps285
 go_wp2
 all_goals go_ret
 all_goals exact⟨⟨_,rfl⟩,rfl⟩
theorem z2C (x:Int) (w:World) (h0:0≤x) (h:x≤12):
  Calls Tryz.prog 274 #[.int .u64 x] w fun e w'=>(∃k:Int,e= .returned (.int .i64 k))∧w=w':=by
 go_enter Tryz.func274,Tryz.ntmps274
 go_wp2_with (go_at_call 285;refine(z3d _ _ h0 h).mono ?_;rintro e w' ⟨⟨k,rfl⟩,rfl⟩)
 all_goals go_ret
 all_goals exact⟨⟨_,rfl⟩,rfl⟩
theorem XV {bf:Nat→Bool} {d e:Nat} {G:List Nat}:e∈insN bf d G↔e=d∨e∈G:=by
 constructor
 ·exact Jg
 ·intro h
  unfold insN;rw[List.mem_append,List.mem_cons]
  rcases h with h|h
  ·exact .inr (.inl h)
  ·rw[←List.take_append_drop (posN bf G G.length) G,List.mem_append] at h
   rcases h with h|h
   ·exact .inl h
   ·exact .inr (.inr h)
theorem z1W {bf:Nat→Bool} {d:Nat} {G:List Nat} (h:G.Nodup) (hd:d∉G):(insN bf d G).Nodup :=by
 unfold insN;have hs:=List.take_append_drop (posN bf G G.length) G;generalize G.take (posN bf G G.length)=a at*;generalize G.drop (posN bf G G.length)=b at*;subst hs;rw[List.nodup_append] at h⊢;rw[List.mem_append,not_or] at hd;obtain⟨h1,h2,h3⟩:=h;refine⟨h1,List.nodup_cons.2 ⟨hd.2,h2⟩,fun x hx y hy=>?_⟩
 rcases List.mem_cons.1 hy with rfl|hy
 ·rintro rfl;exact hd.1 hx
 ·exact h3 x hx y hy
theorem jz (ns ls:List Pr) (k:Nat):∀(m e:Nat),e∈ardS ns ls k m↔e<m∧zd ls e=k
 |0,e=>by simp[ardS]
 |m+1,e=>by
  by_cases h:zd ls m=k
  ·rw[vm h,XV,jz ns ls k m]
   constructor
   ·rintro(rfl|⟨h1,h2⟩)
    ·exact⟨by omega,h⟩
    ·exact⟨by omega,h2⟩
   ·rintro⟨h1,h2⟩
    by_cases he:e=m
    ·exact .inl he
    ·exact .inr ⟨by omega,h2⟩
  ·rw[kO h,jz ns ls k m]
   constructor
   ·rintro⟨h1,h2⟩;exact⟨by omega,h2⟩
   ·rintro⟨h1,h2⟩
    refine⟨?_,h2⟩
    by_cases he:e=m
    ·subst he;exact absurd h2 h
    ·omega
theorem yA (ns ls:List Pr) (k:Nat):∀m,(ardS ns ls k m).Nodup
 |0=>by simp[ardS]
 |m+1=>by
  by_cases h:zd ls m=k
  ·rw[vm h]
   exact z1W (yA ns ls k m) (fun hm=>by have:=((jz ns ls k m m).1 hm).1;omega)
  ·rw[kO h];exact yA ns ls k m
def twin (d:Nat):Nat:=if d%2=0 then d+1 else d -1
theorem vp (d:Nat):twin (twin d)=d:=by unfold twin;split<;>split<;>omega
theorem jw {d m:Nat} (h:d<2*m):twin d<2*m:=by unfold twin;split<;>omega
theorem j5 (ls:List Pr) (d:Nat):zd ls (twin d)=dTo ls d:=by
 unfold zd dTo twin
 by_cases h:d%2=0
 ·rw[if_pos h,if_pos (by omega),if_neg (by omega),show(d+1)/2=d/2 by omega]
 ·rw[if_neg h,if_neg (by omega),if_pos (by omega),show(d -1)/2=d/2 by omega]
theorem z0A (ls:List Pr) (d:Nat):dTo ls (twin d)=zd ls d:=by
 have:=j5 ls (twin d);rw[vp] at this;exact this.symm
def qi (ns ls:List Pr) (d:Nat):List Nat:=ardS ns ls (zd ls d).toNat (2*ls.length)
def ye (ns ls:List Pr) (d:Nat):Nat:=(qi ns ls d).getD (((qi ns ls d).idxOf d+(qi ns ls d).length -1)%(qi ns ls d).length) 0
theorem qh {ns ls:List Pr} (hld:∀j:Nat,j<ls.length→zj ns (ndI ls j)=true) {d:Nat} (hd:d<2*ls.length):∃t:Nat,zd ls d=(t:Int)∧t<ns.length:=by
 have:=jh hld (jw hd);rw[z0A] at this;exact this
theorem Xl {i j n:Nat} (hi:i<n) (hj:j<n) (h:(i+n -1)%n=(j+n -1)%n):i=j:=by
 rcases Nat.eq_zero_or_pos i with rfl|hi0
 ·rcases Nat.eq_zero_or_pos j with rfl|hj0
  ·rfl
  ·rw[show 0+n -1=n -1 by omega,Nat.mod_eq_of_lt (by omega),show j+n -1=(j -1)+n by omega,Nat.add_mod_right,Nat.mod_eq_of_lt (by omega)] at h
   omega
 ·rcases Nat.eq_zero_or_pos j with rfl|hj0
  ·rw[show 0+n -1=n -1 by omega,Nat.mod_eq_of_lt (show n -1<n by omega),show i+n -1=(i -1)+n by omega,Nat.add_mod_right,Nat.mod_eq_of_lt (show i -1<n by omega)] at h
   omega
  ·rw[show i+n -1=(i -1)+n by omega,show j+n -1=(j -1)+n by omega,Nat.add_mod_right,Nat.add_mod_right,Nat.mod_eq_of_lt (show i -1<n by omega),Nat.mod_eq_of_lt (show j -1<n by omega)] at h
   omega
section
variable {ns ls:List Pr} (hld:∀j:Nat,j<ls.length→zj ns (ndI ls j)=true)
include hld
theorem Zw {d:Nat} (hd:d<2*ls.length) (e:Nat):e∈qi ns ls d↔e<2*ls.length∧zd ls e=zd ls d:=by
 obtain⟨t,ht,_⟩:=qh hld hd;unfold qi;rw[jz,ht,Int.toNat_natCast]
theorem vu {d:Nat} (hd:d<2*ls.length):d∈qi ns ls d:=(Zw hld hd d).2 ⟨hd,rfl⟩
theorem z0l {d:Nat} (hd:d<2*ls.length):ye ns ls d∈qi ns ls d:=by
 have h:=List.length_pos_of_mem (vu hld hd);unfold ye;have hk:((qi ns ls d).idxOf d+(qi ns ls d).length -1)%(qi ns ls d).length <(qi ns ls d).length :=Nat.mod_lt _ h;rw[List.getD,List.getElem?_eq_getElem hk];exact List.getElem_mem hk
theorem z5k {d:Nat} (hd:d<2*ls.length):ye ns ls d<2*ls.length:=((Zw hld hd _).1 (z0l hld hd)).1
theorem Qx {d:Nat} (hd:d<2*ls.length):zd ls (ye ns ls d)=zd ls d:=((Zw hld hd _).1 (z0l hld hd)).2
theorem z3I {d e:Nat} (hd:d<2*ls.length) (he:e<2*ls.length) (h:ye ns ls d=ye ns ls e):d=e:=by
 have hf:zd ls d=zd ls e:=by rw[←Qx hld hd,h,Qx hld he]
 have hr:qi ns ls d=qi ns ls e:=by unfold qi;rw[hf]
 have h1:=vu hld hd;have h2:=vu hld he;rw[hr] at h1;have hp:=List.length_pos_of_mem h2;have hn:(qi ns ls e).Nodup :=yA _ _ _ _;unfold ye at h;rw[hr] at h;have k1:((qi ns ls e).idxOf d+(qi ns ls e).length -1)%(qi ns ls e).length <(qi ns ls e).length :=Nat.mod_lt _ hp;have k2:((qi ns ls e).idxOf e+(qi ns ls e).length -1)%(qi ns ls e).length <(qi ns ls e).length :=Nat.mod_lt _ hp;rw[List.getD,List.getD,List.getElem?_eq_getElem k1,List.getElem?_eq_getElem k2] at h;simp only[Option.getD_some] at h
 have hi:=(List.getElem_inj hn).1 h;have hx:=Xl (List.idxOf_lt_length_of_mem h1) (List.idxOf_lt_length_of_mem h2) hi;have g1:=List.getElem_idxOf (List.idxOf_lt_length_of_mem h1);have g2:=List.getElem_idxOf (List.idxOf_lt_length_of_mem h2);refine g1.symm.trans (Eq.trans ?_ g2)
 simp only[hx]
end
theorem pigeon:∀(n:Nat) (f:Nat→Nat),(∀i,i≤n→f i<n)→∃i j,i<j∧j≤n∧f i=f j
 |0,f,h=>absurd (h 0 (Nat.le_refl _)) (by omega)
 |n+1,f,h=>by
  by_cases hc:∃i,i<n+1∧f i=f (n+1)
  ·obtain⟨i,hi,e⟩:=hc
   exact⟨i,n+1,hi,Nat.le_refl _,e⟩
  ·have hne:∀i,i<n+1→f i≠f (n+1):=fun i hi e=>hc ⟨i,hi,e⟩
   have hl:=h (n+1) (Nat.le_refl _)
   obtain⟨i,j,h1,h2,h3⟩:=pigeon n (fun i=>if f i<f (n+1) then f i else f i -1) (fun i hi=>by
    have h4:=hne i (by omega);have h5:=h i (by omega)
    show(if f i<f (n+1) then f i else f i -1)<n
    split<;>omega)
   refine⟨i,j,h1,by omega,?_⟩
   have h4:=hne i (by omega);have h5:=hne j (by omega);have h3':(if f i<f (n+1) then f i else f i -1)=(if f j<f (n+1) then f j else f j -1):=h3;clear h3
   split at h3'<;>split at h3'<;>omega
def qv (ns ls:List Pr) (d:Nat):Nat:=ye ns ls (twin d)
section
variable {ns ls:List Pr} (hld:∀j:Nat,j<ls.length→zj ns (ndI ls j)=true)
include hld
theorem Vu {d:Nat} (hd:d<2*ls.length):qv ns ls d<2*ls.length:=z5k hld (jw hd)
theorem z4a {d e:Nat} (hd:d<2*ls.length) (he:e<2*ls.length) (h:qv ns ls d=qv ns ls e):d=e:=by
 have:=z3I hld (jw hd) (jw he) h;rw[←vp d,this,vp]
theorem z3w {d:Nat} (hd:d<2*ls.length):zd ls (qv ns ls d)=dTo ls d:=by
 unfold qv;rw[Qx hld (jw hd),j5]
end
def orbD (ns ls:List Pr) (d:Nat):Nat→Nat
 |0=>d
 |k+1=>qv ns ls (orbD ns ls d k)
section
variable {ns ls:List Pr} (hld:∀j:Nat,j<ls.length→zj ns (ndI ls j)=true)
include hld
theorem kl {d:Nat} (hd:d<2*ls.length):∀k,orbD ns ls d k<2*ls.length
 |0=>hd
 |k+1=>Vu hld (kl hd k)
theorem ZC {d:Nat} (hd:d<2*ls.length):∀i j,orbD ns ls d i=orbD ns ls d (i+j)→orbD ns ls d j=d
 |0,j,h=>by rw[Nat.zero_add] at h;exact h.symm
 |i+1,j,h=>by
  refine ZC hd i j ?_
  rw[show i+1+j=(i+j)+1 by omega] at h;exact z4a hld (kl hld hd i) (kl hld hd (i+j)) h
theorem z3k {d:Nat} (hd:d<2*ls.length):∃p,0<p∧p≤2*ls.length∧orbD ns ls d p=d:=by
 obtain⟨i,j,h1,h2,h3⟩:=pigeon (2*ls.length) (orbD ns ls d) (fun i _=>kl hld hd i);refine⟨j -i,by omega,by omega,ZC hld hd i (j -i) ?_⟩
 rw[h3,show i+(j -i)=j by omega]
end
def perF (ns ls:List Pr) (d:Nat):Nat→Nat→Nat
 |0,k=>k
 |m+1,k=>if orbD ns ls d k=d then k else perF ns ls d m (k+1)
def perD (ns ls:List Pr) (d:Nat):Nat:=perF ns ls d (2*ls.length) 1
theorem Vh (ns ls:List Pr) (d:Nat):∀(m k:Nat),(∃p,k≤p∧p<k+m∧orbD ns ls d p=d)→
  k≤perF ns ls d m k∧perF ns ls d m k<k+m∧orbD ns ls d (perF ns ls d m k)=d∧∀j,k≤j→j<perF ns ls d m k→orbD ns ls d j≠d
 |0,k,⟨p,h1,h2,_⟩=>absurd h2 (by omega)
 |m+1,k,⟨p,h1,h2,h3⟩=>by
  unfold perF
  split
  ·rename_i h
   exact⟨Nat.le_refl _,by omega,h,fun j hj hj'=>by omega⟩
  ·rename_i h
   have hp:k≠p:=fun e=>h (e▸h3)
   obtain⟨g1,g2,g3,g4⟩:=Vh ns ls d m (k+1) ⟨p,by omega,by omega,h3⟩;refine⟨by omega,by omega,g3,fun j hj hj'=>?_⟩
   by_cases e:j=k
   ·subst e;exact h
   ·exact g4 j (by omega) hj'
theorem vx {ns ls:List Pr} (hld:∀j:Nat,j<ls.length→zj ns (ndI ls j)=true) {d:Nat} (hd:d<2*ls.length):
  0<perD ns ls d∧perD ns ls d≤2*ls.length∧orbD ns ls d (perD ns ls d)=d∧∀j,0<j→j<perD ns ls d→orbD ns ls d j≠d:=by
 obtain⟨p,h1,h2,h3⟩:=z3k hld hd;obtain⟨g1,g2,g3,g4⟩:=Vh ns ls d (2*ls.length) 1 ⟨p,by omega,by omega,h3⟩;exact⟨g1,by unfold perD;omega,g3,fun j hj hj'=>g4 j (by omega) hj'⟩
def qV (ns ls:List Pr) (d k:Nat):List Nat:=(List.range k).map (orbD ns ls d)
theorem Jp (ns ls:List Pr) (d k:Nat):qV ns ls d (k+1)=qV ns ls d k++[orbD ns ls d k]:=by simp[qV,List.range_succ]
theorem vB (ns ls:List Pr) (d k:Nat):(qV ns ls d k).length =k:=by simp[qV]
def qe (ns ls:List Pr) (d:Nat):List Nat:=qV ns ls d (perD ns ls d)
def isoK (lt:Nat→Nat→Bool) (G:List Nat) (i:Nat):List Nat:=(G.take i).foldl (fun S d=>insN (lt d) d S) []
theorem V2 (lt:Nat→Nat→Bool) (G:List Nat):isoK lt G 0=[]:=rfl
theorem Qf (lt:Nat→Nat→Bool) (G:List Nat) (i:Nat) (h:i<G.length):isoK lt G (i+1)=insN (lt G[i]) G[i] (isoK lt G i):=by
 unfold isoK;rw[List.take_succ_eq_append_getElem h,List.foldl_append];rfl
theorem ja (lt:Nat→Nat→Bool) (G:List Nat):∀i,i≤G.length→(isoK lt G i).length =i
 |0,_=>rfl
 |i+1,h=>by rw[Qf lt G i (by omega),QU,ja lt G i (by omega)]
def isoR (lt:Nat→Nat→Bool) (G:List Nat) (i p:Nat):List Int:=gapI (isoK lt G i) p ((G.getD i 0:Nat):Int)++natI (G.drop (i+1))
def isoH (lt:Nat→Nat→Bool) (G:List Nat) (i:Nat):List Int:=natI (isoK lt G i)++natI (G.drop i)
theorem Qj (lt:Nat→Nat→Bool) (G:List Nat):isoH lt G 0=natI G:=by simp[isoH,V2,natI]
theorem XA (lt:Nat→Nat→Bool) (G:List Nat):isoH lt G G.length=natI (isoK lt G G.length):=by simp[isoH,natI]
theorem z0s (lt:Nat→Nat→Bool) (G:List Nat) (i p:Nat) (h:i<G.length) (hp:p≤i):(isoR lt G i p).length =G.length:=by
 unfold isoR;rw[List.length_append,qT _ _ _ (by rw[ja lt G i (by omega)];exact hp),ja lt G i (by omega),zc,List.length_drop];omega
theorem xy (lt:Nat→Nat→Bool) (G:List Nat) (i:Nat) (h:i<G.length):isoR lt G i i=isoH lt G i:=by
 unfold isoR isoH;have hl:=ja lt G i (by omega)
 have e:gapI (isoK lt G i) i ((G.getD i 0:Nat):Int)=natI (isoK lt G i)++[((G.getD i 0:Nat):Int)]:=by
  have:=Ql (isoK lt G i) ((G.getD i 0:Nat):Int);rw[hl] at this;exact this
 rw[e,List.append_assoc,List.drop_eq_getElem_cons h,show G.getD i 0=G[i] by simp[List.getD,h]];rfl
theorem V1 (lt:Nat→Nat→Bool) (G:List Nat) (i p:Nat) (h:i<G.length) (hp:p≤i):(isoR lt G i p).getD p 0=((G.getD i 0:Nat):Int):=by
 have hl:=ja lt G i (by omega);unfold isoR gapI natI;have e:(List.map (fun (d:Nat)=>(d:Int)) ((isoK lt G i).take p)).length =p:=by simp;omega
 rw[List.getD,List.append_assoc,List.getElem?_append_right (by omega),e,Nat.sub_self];rfl
theorem ZR (lt:Nat→Nat→Bool) (G:List Nat) (i p:Nat) (h:i<G.length) (hp:p<i):(isoR lt G i (p+1)).getD p 0=(((isoK lt G i).getD p 0:Nat):Int):=by
 have hl:=ja lt G i (by omega);have h1:=ka (isoK lt G i) p ((G.getD i 0:Nat):Int) (by omega);have h2:=qT (isoK lt G i) (p+1) ((G.getD i 0:Nat):Int) (by omega);unfold isoR;rw[List.getD,List.getElem?_append_left (by omega)];exact h1
theorem Vq (lt:Nat→Nat→Bool) (G:List Nat) (i p:Nat) (h:i<G.length) (hp:p<i):
  ((isoR lt G i (p+1)).set (p+1) (((isoK lt G i).getD p 0:Nat):Int)).set p ((G.getD i 0:Nat):Int)=isoR lt G i p:=by
 have hl:=ja lt G i (by omega);have h1:=Qp (isoK lt G i) p ((G.getD i 0:Nat):Int) (by omega);have h2:=qT (isoK lt G i) (p+1) ((G.getD i 0:Nat):Int) (by omega);have h3:=qT (isoK lt G i) p (((isoK lt G i).getD p 0:Nat):Int) (by omega);have h4:=ki (isoK lt G i) p (((isoK lt G i).getD p 0:Nat):Int) (G.getD i 0) (by omega);unfold isoR;rw[List.set_append,if_pos (by omega),h1,List.set_append,if_pos (by omega),h4]
 congr 1
 simp[gapI,natI]
theorem ZB (lt:Nat→Nat→Bool) (G:List Nat) (i:Nat) (h:i<G.length):isoR lt G i (posN (lt G[i]) (isoK lt G i) i)=isoH lt G (i+1):=by
 have hl:=ja lt G i (by omega);unfold isoR isoH;rw[Qf lt G i h];unfold insN gapI natI;rw[hl];simp[List.getD,h]
def frD (ls:List Pr) (k:Nat):Nat→List Nat
 |0=> []
 |d+1=>if zd ls d=k then frD ls k d++[d] else frD ls k d
theorem Xa {ls:List Pr} {k d:Nat} (h:¬zd ls d=k):frD ls k (d+1)=frD ls k d:=by simp[frD,h]
theorem Z4 {ls:List Pr} {k d:Nat} (h:zd ls d=k):frD ls k (d+1)=frD ls k d++[d]:=by simp[frD,h]
theorem z4o (lt:Nat→Nat→Bool) (G:List Nat) (d:Nat):isoK lt (G++[d]) (G++[d]).length =insN (lt d) d (isoK lt G G.length):=by
 unfold isoK;rw[List.take_length,List.take_length,List.foldl_append];rfl
theorem Z9 (ns ls:List Pr) (k:Nat):∀m,isoK (bfD ns ls k) (frD ls k m) (frD ls k m).length =ardS ns ls k m
 |0=>rfl
 |m+1=>by
  by_cases h:zd ls m=k
  ·rw[Z4 h,z4o,Z9 ns ls k m,vm h]
  ·rw[Xa h,Z9 ns ls k m,kO h]
theorem ZL (ls:List Pr) (k:Nat):∀m e,e∈frD ls k m→e<m∧zd ls e=k
 |0,e,h=>by simp[frD] at h
 |m+1,e,h=>by
  by_cases hf:zd ls m=k
  ·rw[Z4 hf,List.mem_append,List.mem_singleton] at h
   rcases h with h|rfl
   ·have:=ZL ls k m e h;exact⟨by omega,this.2⟩
   ·exact⟨by omega,hf⟩
  ·rw[Xa hf] at h
   have:=ZL ls k m e h;exact⟨by omega,this.2⟩
end Go.Proofs.YtnjcpljhmhdhkaaGreat
