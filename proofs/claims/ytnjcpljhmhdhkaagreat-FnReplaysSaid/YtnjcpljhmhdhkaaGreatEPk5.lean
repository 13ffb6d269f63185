/- part 5 -/
import Derived.Test.YtnjcpljhmhdhkaaGreatEPk4
set_option linter.unusedSimpArgs false
set_option linter.unusedVariables false
set_option maxRecDepth 100000
set_option maxHeartbeats 4000000
namespace Go.Proofs.YtnjcpljhmhdhkaaGreat
theorem z1A {bf:Nat->Bool} {d e:Nat} {G:List Nat}:e∈insN bf d G↔e=d∨e∈G:=by
 constructor
 ·exact VI
 ·intro h
  unfold insN;rw[aaI,List.mem_cons]
  rcases h with h|h
  ·exact .inr (.inl h)
  ·rw[<-abo (posN bf G G.length) G,aaI] at h
   rcases h with h|h
   ·exact .inl h
   ·exact .inr (.inr h)
theorem z3E {bf:Nat->Bool} {d:Nat} {G:List Nat} (h:G.Nodup) (hd:d∉G):(insN bf d G).Nodup :=by
 unfold insN;have hs:=abo (posN bf G G.length) G;generalize G.take (posN bf G G.length)=a at*;generalize G.drop (posN bf G G.length)=b at*;subst hs;rw[List.nodup_append] at h⊢;rw[aaI,not_or] at hd;obtain⟨h1,h2,h3⟩:=h;refine⟨h1,List.nodup_cons.2 ⟨hd.2,h2⟩,fun x hx y hy=>?_⟩
 rcases List.mem_cons.1 hy with rfl|hy
 ·rintro rfl;exact hd.1 hx
 ·exact h3 x hx y hy
theorem y9 (ns ls:List Pr) (k:Nat):∀(m e:Nat),e∈ardS ns ls k m↔e<m/\zc ls e=k
 |0,e=>by simp[ardS]
 |m+1,e=>by
  by_cases h:zc ls m=k
  ·rw[kt h,z1A,y9 ns ls k m]
   constructor
   ·rintro(rfl|⟨h1,h2⟩)
    ·exact⟨by omega,h⟩
    ·exact⟨by omega,h2⟩
   ·rintro⟨h1,h2⟩
    by_cases he:e=m
    ·exact .inl he
    ·exact .inr ⟨by omega,h2⟩
  ·rw[xQ h,y9 ns ls k m]
   constructor
   ·rintro⟨h1,h2⟩;exact⟨by omega,h2⟩
   ·rintro⟨h1,h2⟩
    refine⟨?_,h2⟩
    by_cases he:e=m
    ·subst he;exact absurd h2 h
    ·omega
theorem vu (ns ls:List Pr) (k:Nat):∀m,(ardS ns ls k m).Nodup
 |0=>by simp[ardS]
 |m+1=>by
  by_cases h:zc ls m=k
  ·rw[kt h]
   exact z3E (vu ns ls k m) (fun hm=>by have:=((y9 ns ls k m m).1 hm).1;omega)
  ·rw[xQ h];exact vu ns ls k m
def twin (d:Nat):Nat:=if d%2=0 then d+1 else d -1
theorem vo (d:Nat):twin (twin d)=d:=by unfold twin;split<;>split<;>omega
theorem js {d m:Nat} (h:d<2*m):twin d<2*m:=by unfold twin;split<;>omega
theorem jt (ls:List Pr) (d:Nat):zc ls (twin d)=dTo ls d:=by
 unfold zc dTo twin
 by_cases h:d%2=0
 ·rw[aao h,aao o_,aaq o_,show(d+1)/2=d/2 by omega]
 ·rw[aaq h,aaq o_,aao o_,show(d -1)/2=d/2 by omega]
theorem z16 (ls:List Pr) (d:Nat):dTo ls (twin d)=zc ls d:=by
 have:=jt ls (twin d);rw[vo] at this;exact this.symm
def qG (ns ls:List Pr) (d:Nat):List Nat:=ardS ns ls (zc ls d).toNat (2*ls.length)
def yU (ns ls:List Pr) (d:Nat):Nat:=(qG ns ls d).getD (((qG ns ls d).idxOf d+(qG ns ls d).length -1)%(qG ns ls d).length) 0
theorem qE {ns ls:List Pr} (Ho:∀j:Nat,j<ls.length->zv ns (ndI ls j)=true) {d:Nat} (hd:d<2*ls.length):∃t:Nat,zc ls d=(t:Int)/\t<ns.length:=by
 have:=jG Ho (js hd);rw[z16] at this;exact this
theorem z12 {i j n:Nat} (hi:i<n) (hj:j<n) (h:(i+n -1)%n=(j+n -1)%n):i=j:=by
 rcases abv i with rfl|hi0
 ·rcases abv j with rfl|hj0
  ·rfl
  ·rw[show 0+n -1=n -1 by omega,abu o_,show j+n -1=(j -1)+n by omega,Nat.add_mod_right,abu o_] at h
   omega
 ·rcases abv j with rfl|hj0
  ·rw[show 0+n -1=n -1 by omega,abu (show n -1<n by omega),show i+n -1=(i -1)+n by omega,Nat.add_mod_right,abu (show i -1<n by omega)] at h
   omega
  ·rw[show i+n -1=(i -1)+n by omega,show j+n -1=(j -1)+n by omega,Nat.add_mod_right,Nat.add_mod_right,abu (show i -1<n by omega),abu (show j -1<n by omega)] at h
   omega
section
variable {ns ls:List Pr} (Ho:∀j:Nat,j<ls.length->zv ns (ndI ls j)=true)
include Ho
theorem JP {d:Nat} (hd:d<2*ls.length) (e:Nat):e∈qG ns ls d↔e<2*ls.length/\zc ls e=zc ls d:=by
 obtain⟨t,ht,_⟩:=qE Ho hd;unfold qG;rw[y9,ht,aa5]
theorem kj {d:Nat} (hd:d<2*ls.length):d∈qG ns ls d:=(JP Ho hd d).2 ⟨hd,rfl⟩
theorem z1V {d:Nat} (hd:d<2*ls.length):yU ns ls d∈qG ns ls d:=by
 have h:=abh (kj Ho hd);unfold yU;have hk:((qG ns ls d).idxOf d+(qG ns ls d).length -1)%(qG ns ls d).length <(qG ns ls d).length :=Nat.mod_lt _ h;rw[List.getD,aac hk];exact abg hk
theorem z87 {d:Nat} (hd:d<2*ls.length):yU ns ls d<2*ls.length:=((JP Ho hd _).1 (z1V Ho hd)).1
theorem QZ {d:Nat} (hd:d<2*ls.length):zc ls (yU ns ls d)=zc ls d:=((JP Ho hd _).1 (z1V Ho hd)).2
theorem z5Z {d e:Nat} (hd:d<2*ls.length) (he:e<2*ls.length) (h:yU ns ls d=yU ns ls e):d=e:=by
 have hf:zc ls d=zc ls e:=by rw[<-QZ Ho hd,h,QZ Ho he]
 have hr:qG ns ls d=qG ns ls e:=by unfold qG;rw[hf]
 have h1:=kj Ho hd;have h2:=kj Ho he;rw[hr] at h1;have hp:=abh h2;have hn:(qG ns ls e).Nodup :=vu _ _ _ _;unfold yU at h;rw[hr] at h;have k1:((qG ns ls e).idxOf d+(qG ns ls e).length -1)%(qG ns ls e).length <(qG ns ls e).length :=Nat.mod_lt _ hp;have k2:((qG ns ls e).idxOf e+(qG ns ls e).length -1)%(qG ns ls e).length <(qG ns ls e).length :=Nat.mod_lt _ hp;rw[List.getD,List.getD,aac k1,aac k2] at h;simp only[Option.getD_some] at h
 have hi:=(List.getElem_inj hn).1 h;have hx:=z12 (abt h1) (abt h2) hi;have g1:=List.getElem_idxOf (abt h1);have g2:=List.getElem_idxOf (abt h2);refine g1.symm.trans (Eq.trans ?_ g2)
 simp only[hx]
end
theorem pigeon:∀(n:Nat) (f:Nat->Nat),(∀i,i<=n->f i<n)->∃i j,i<j/\j<=n/\f i=f j
 |0,f,h=>absurd (h 0 (aaa _)) o_
 |n+1,f,h=>by
  by_cases hc:∃i,i<n+1/\f i=f (n+1)
  ·obtain⟨i,hi,e⟩:=hc
   exact⟨i,n+1,hi,aaa _,e⟩
  ·have gd:∀i,i<n+1->f i≠f (n+1):=fun i hi e=>hc ⟨i,hi,e⟩
   have hl:=h (n+1) (aaa _)
   obtain⟨i,j,h1,h2,h3⟩:=pigeon n (fun i=>if f i<f (n+1) then f i else f i -1) (fun i hi=>by
    have h4:=gd i o_;have h5:=h i o_
    show(if f i<f (n+1) then f i else f i -1)<n
    split<;>omega)
   refine⟨i,j,h1,by omega,?_⟩
   have h4:=gd i o_;have h5:=gd j o_;have Yw:(if f i<f (n+1) then f i else f i -1)=(if f j<f (n+1) then f j else f j -1):=h3
   split at Yw<;>split at Yw<;>omega
def j5 (ns ls:List Pr) (d:Nat):Nat:=yU ns ls (twin d)
section
variable {ns ls:List Pr} (Ho:∀j:Nat,j<ls.length->zv ns (ndI ls j)=true)
include Ho
theorem z0y {d:Nat} (hd:d<2*ls.length):j5 ns ls d<2*ls.length:=z87 Ho (js hd)
theorem z6U {d e:Nat} (hd:d<2*ls.length) (he:e<2*ls.length) (h:j5 ns ls d=j5 ns ls e):d=e:=by
 have:=z5Z Ho (js hd) (js he) h;rw[<-vo d,this,vo]
end
def orbD (ns ls:List Pr) (d:Nat):Nat->Nat
 |0=>d
 |k+1=>j5 ns ls (orbD ns ls d k)
section
variable {ns ls:List Pr} (Ho:∀j:Nat,j<ls.length->zv ns (ndI ls j)=true)
include Ho
theorem xo {d:Nat} (hd:d<2*ls.length):∀k,orbD ns ls d k<2*ls.length
 |0=>hd
 |k+1=>z0y Ho (xo hd k)
theorem JJ {d:Nat} (hd:d<2*ls.length):∀i j,orbD ns ls d i=orbD ns ls d (i+j)->orbD ns ls d j=d
 |0,j,h=>by rw[aaF] at h;exact h.symm
 |i+1,j,h=>by
  refine JJ hd i j ?_
  rw[show i+1+j=(i+j)+1 by omega] at h;exact z6U Ho (xo Ho hd i) (xo Ho hd (i+j)) h
theorem z4w {d:Nat} (hd:d<2*ls.length):∃p,0<p/\p<=2*ls.length/\orbD ns ls d p=d:=by
 obtain⟨i,j,h1,h2,h3⟩:=pigeon (2*ls.length) (orbD ns ls d) (fun i _=>xo Ho hd i);refine⟨j -i,by omega,by omega,JJ Ho hd i (j -i) ?_⟩
 rw[h3,show i+(j -i)=j by omega]
end
def perF (ns ls:List Pr) (d:Nat):Nat->Nat->Nat
 |0,k=>k
 |m+1,k=>if orbD ns ls d k=d then k else perF ns ls d m (k+1)
def perD (ns ls:List Pr) (d:Nat):Nat:=perF ns ls d (2*ls.length) 1
theorem XU (ns ls:List Pr) (d:Nat):∀(m k:Nat),(∃p,k<=p/\p<k+m/\orbD ns ls d p=d)->
  k<=perF ns ls d m k/\perF ns ls d m k<k+m/\orbD ns ls d (perF ns ls d m k)=d/\∀j,k<=j->j<perF ns ls d m k->orbD ns ls d j≠d
 |0,k,⟨p,h1,h2,_⟩=>absurd h2 o_
 |m+1,k,⟨p,h1,h2,h3⟩=>by
  unfold perF
  split
  ·rename_i h
   exact⟨aaa _,by omega,h,fun j hj Bj=>by omega⟩
  ·rename_i h
   have hp:k≠p:=fun e=>h (e▸h3)
   obtain⟨g1,g2,g3,g4⟩:=XU ns ls d m (k+1) ⟨p,by omega,by omega,h3⟩;refine⟨by omega,by omega,g3,fun j hj Bj=>?_⟩
   by_cases e:j=k
   ·subst e;exact h
   ·exact g4 j o_ Bj
theorem kl {ns ls:List Pr} (Ho:∀j:Nat,j<ls.length->zv ns (ndI ls j)=true) {d:Nat} (hd:d<2*ls.length):
  0<perD ns ls d/\perD ns ls d<=2*ls.length/\orbD ns ls d (perD ns ls d)=d/\∀j,0<j->j<perD ns ls d->orbD ns ls d j≠d:=by
 obtain⟨p,h1,h2,h3⟩:=z4w Ho hd;obtain⟨g1,g2,g3,g4⟩:=XU ns ls d (2*ls.length) 1 ⟨p,by omega,by omega,h3⟩;exact⟨g1,by unfold perD;omega,g3,fun j hj Bj=>g4 j o_ Bj⟩
def jo (ns ls:List Pr) (d k:Nat):List Nat:=(List.range k).map (orbD ns ls d)
theorem Jr (ns ls:List Pr) (d k:Nat):jo ns ls d (k+1)=jo ns ls d k++[orbD ns ls d k]:=by simp[jo,abe]
theorem kM (ns ls:List Pr) (d k:Nat):(jo ns ls d k).length =k:=by simp[jo]
def qA (ns ls:List Pr) (d:Nat):List Nat:=jo ns ls d (perD ns ls d)
open Go.RowKit
attribute [local go_sem ↓] zr zt zR zQ
def othI (l:Pr) (k:Int):Int:=if k=l.1 then l.2 else if k=l.2 then l.1 else -1
theorem z3B (a b k:Int) (w:World):
  CB_ 249 #[.agg #[.int .i64 a,.int .i64 b],.int .i64 k] w (.int .i64 (othI (a,b) k)):=by
 go_enter Tryz.func249,Tryz.ntmps249
 go_wp2
 all_goals go_ret
 all_goals refine⟨zo ?_,by exact bel_⟩
 all_goals (unfold othI;simp_all)
theorem z30 (a b k:Int) (w:World):
  CB_ 188 #[.agg #[.int .i64 a,.int .i64 b],.int .i64 k] w (.int .i64 (othI (a,b) k)):=by
 go_enter Tryz.func188,Tryz.ntmps188
 go_wp2
 all_goals go_ret
 all_goals refine⟨zo ?_,by exact bel_⟩
 all_goals (unfold othI;simp_all)
theorem kW {ns ls:List Pr} {k:Int} (h:hasN ns ls k=true):winB ns ls=true/\∃m:Nat,k=(m:Int)/\m<ns.length:=by
 unfold hasN at h;rw[aaG] at h;have:=zf.1 h.2;exact⟨h.1,k.toNat,by omega,by omega⟩
theorem z0i (ls:List Pr) (k:Int):∀m,∀i∈atN ls k m,i<m/\jN ls k i=true
 |0,i,h=>by simp[atN] at h
 |m+1,i,h=>by
  cases ht:jN ls k m
  ·rw[z0F ht] at h
   have:=z0i ls k m i h;exact⟨by omega,this.2⟩
  ·rw[J8 ht,aaI,aa9] at h
   rcases h with h|h
   ·have:=z0i ls k m i h
    exact⟨by omega,this.2⟩
   ·subst h;exact⟨by omega,ht⟩
def yO (ls:List Pr) (k:Int) (G:List Nat):List Int:=G.map fun (i:Nat)=>othI (ndI ls i) k
theorem z08 (ls:List Pr) (k:Int) (G:List Nat):(yO ls k G).length =G.length:=by simp[yO]
theorem Xf (vn vl:Value) (ns ls:List Pr) (k:Int) (w:World) (hn:RP w vn ns) (hl:RP w vl ls) (hk:hasN ns ls k=true):
  Calls Tryz.prog 217 #[.agg #[vn,vl],.int .i64 k] w (RetI (yO ls k (atN ls k ls.length)) w):=by
 have GD:ls.length<=20:=(zq.1 (kW hk).1).2.2.1;obtain⟨Al,cl,rfl,Hy,Gz,H9⟩:=hl.formI;obtain⟨i0,hi,iz0,iz1,iz2⟩:=info_parts qu;unfold maxLen at Gz
 go_enter Tryz.func217,Tryz.ntmps217
 go_wp2_with fail
 refine(kC _ _ ns ls _ _ (hn.below bel_) (hl.below bel_) hk).mono ?_
 rintro e w1 ⟨v1,rfl,Hi,h9⟩;have Rf:=h9.size;simp at Rf
 obtain⟨A1,c1,rfl⟩:=Hi.form;have Hz:Blk w1 w.heap.size 27 #[vn,.slice Al ls.length cl]:=Blk.below (Blk.newAt rfl) h9 sz_;have h8:Below w.heap.size w w1:=bel_
 have Nl:=Hi.reads;have hglen:=J4 ls k ls.length;have FZ:=h_ (z0i ls k ls.length);have fb:=za (atN ls k ls.length);obtain⟨A1',c1',e1,gc,hmG,My⟩:=Nl.form
 cases e1
 generalize atN ls k ls.length=G at*;rw[fb] at My;have mI:=h_ fb;obtain⟨a_0,a_1⟩:=Hz.c2;have hGm:((natI G).length :Int)=(G.length:Int):=by rw[mI.out]
 go_wp2
 go_loopw [5,12] (fun v i wr=>∃j:Nat,j<=G.length/\i= .int .i64 j/\OwnI w1.heap.size wr v (yO ls k (G.take j))/\Blk wr w.heap.size 27 #[vn,.slice Al ls.length cl]/\Below w1.heap.size w1 wr) (fun _ i _=>G.length -(intOf i).toNat)
 case atStart=>exact⟨0,aab _,rfl,OwnI.nil _ _,Hz,aaj _ _⟩
 case round=>
  obtain⟨j,hj,rfl,ho,hW,Hb⟩:=hrel;have gx:=hW.lt;have r4:=Hb.size;obtain⟨a_0,a_1⟩:=hW.c2
  by_cases Hf:j<G.length
  ·obtain⟨bg,og,rfl,Ce,hcg⟩:=My o_
   have q:=(Hb.cell (p:=⟨bg,og+j,none⟩) Ce).trans (hcg j Hf);have e2:(natI G).getD j 0=((G[j]:Nat):Int):=by simp[natI,List.getD,Hf]
   rw[e2] at q;have hgj:=(FZ.out G[j] (abg Hf)).1
   have HS:Hid (yO ls k (G.take (j+1))=yO ls k (G.take j)++[othI (ndI ls (G[j]:Nat)) k]):=h_ (by
    unfold yO;rw[aax Hf,aaz];rfl)
   have HL:Hid ((yO ls k (G.take j)).length =j):=h_ (by rw[z08];simp;omega);generalize G[j]=p at*;obtain⟨b,off,rfl,hb,Gj⟩:=H9 o_;obtain⟨k0,k1⟩:=Gj p hgj;have H8:Below w.heap.size w wr:=h8.trans (Hb.mono h8.size);have q0:=(H8.cell (p:=⟨b,off+p*2,none⟩) hb).trans k0;have q1:=(H8.cell (p:=⟨b,off+p*2+1,none⟩) hb).trans k1;have ct:(0:Int)<=(j:Int):=o_
   have Cq:(j:Int)<(G.length:Int):=o_
   have Mq:(0:Int)<=(p:Int):=o_
   have hi4:(p:Int)<(ls.length:Int):=o_
   generalize ndI ls (p:Int)=L at*;obtain⟨l1,l2⟩:=L;simp only at q0 q1
   go_wp2_with fail
   refine(z3B _ _ _ _).mono ?_
   rintro e w2 ⟨rfl,Hd⟩;have Gh:=Hd.size;have Hk:=ho.kept Hd;have gM:=hW.below Hd gx;have Gb:Below w1.heap.size w1 w2:=Hb.trans (Hd.mono r4);obtain⟨A2,c2,rfl⟩:=Hk.form;generalize othI (l1,l2) k=x at*
   go_wp2_with (at_builtin;refine wpList_append_own _ rfl _ _ 31 rfl w1.heap.size 3 i0 (.int .i64 0) 1 8 Tryz.underlying31 hi iz0 iz1 iz2 rfl (by decide) _ _ _ rfl (World.ownsRow.alloc Hk _) ⟨w2.heap.size,0,none⟩ 1 1 [.int .i64 _] rfl rfl (jn (by simp)) (by intro u hu;simp at hu;subst hu;rfl) (by rw[HL.out];unfold maxLen;omega) (by rw[HL.out];omega) (by simp;omega) ?_)
   intro v3 w3 cE gn _;have Hq:∀b,(Value.slice A2 (yO ls k (G.take j)).length c2).ownBlock =some b->w1.heap.size<=b:=fun b hb=>(Hk.lt b hb).1
   have GA:=(gM.alloc (.cells #[.int .i64 x] 3)).grownR gn (fun b hb=>by have:=Hq b hb;omega);have HO:OwnI w1.heap.size w3 v3 (yO ls k (G.take j)++[x]):=OwnI.snoc cE;have gq:Below w1.heap.size w1 w3:=(Below.alloc Gb o_ _).grown gn sz_ (fun b hb=>Hq b hb);go_wp2;go_roundw
   case rel=>exact⟨j+1,by omega,by go_num,by rw[HS.out];exact HO,GA,gq⟩
   case measure=>simp[intOf];omega
  ·have GP:j=G.length:=o_
   subst GP;rw[aaA] at ho;go_wp2;go_ret
   exact⟨_,rfl,ho.mono (show w.heap.size<=w1.heap.size by omega),h8.trans (Hb.mono h8.size)⟩
noncomputable def zT (ns ls:List Pr) (k:Int):Bool:=
 decide (degI ns ls k=2)&&jh (ndI ns ((yO ls k (atN ls k ls.length)).getD 0 0)) (ndI ns ((yO ls k (atN ls k ls.length)).getD 1 0)) (ndI ns k)
theorem deg2 {ns ls:List Pr} {k:Int} (h:degI ns ls k=2):hasN ns ls k=true/\(atN ls k ls.length).length =2:=by
 unfold degI at h
 cases hk:hasN ns ls k
 ·rw[hk] at h;simp at h
 ·rw[hk] at h
  simp at h
  exact⟨rfl,by omega⟩
theorem z3O {ns ls:List Pr} {k:Int} (hw:zC ns ls) {i:Nat} (hi:i<ls.length) (ht:jN ls k i=true):∃t:Nat,othI (ndI ls i) k=(t:Int)/\t<ns.length/\(t:Int)≠k:=by
 obtain⟨h1,h2,h3,_⟩:=zZ.1 ((hw.2.2.2.2.2 i hi).1);unfold othI
 by_cases e1:k=(ndI ls i).1
 ·rw[aao e1]
  exact⟨(ndI ls i).2.toNat,by omega,by omega,by omega⟩
 ·rw[aaq e1]
  have e2:=Z2 ht (fun h=>e1 h.symm);rw[aao e2.symm];exact⟨(ndI ls i).1.toNat,by omega,by omega,by omega⟩
theorem Vp {ns ls:List Pr} {k:Int} (hw:zC ns ls) (h2:(atN ls k ls.length).length =2):
  ∃p q t u:Nat,atN ls k ls.length=[p,q]/\p<ls.length/\q<ls.length/\yO ls k (atN ls k ls.length)=[(t:Int),(u:Int)]/\t<ns.length/\u<ns.length/\(t:Int)≠k/\(u:Int)≠k/\
   othI (ndI ls p) k=(t:Int)/\othI (ndI ls q) k=(u:Int):=by
 have Hf:=z0i ls k ls.length;generalize atN ls k ls.length=G at*
 obtain⟨p,q,rfl⟩:∃p q,G=[p,q]:=by
  match G,h2 with
  | [p,q],_=>exact⟨p,q,rfl⟩
 obtain⟨hp,tp⟩:=Hf p (by simp);obtain⟨hq,tq⟩:=Hf q (by simp);obtain⟨t,e1,ht,nL⟩:=z3O hw hp tp;obtain⟨u,e2,hu,mh⟩:=z3O hw hq tq;exact⟨p,q,t,u,rfl,hp,hq,by simp[yO,e1,e2],ht,hu,nL,mh,e1,e2⟩
theorem zbn (vn vl:Value) (ns ls:List Pr) (k:Int) (w:World) (hn:RP w vn ns) (hl:RP w vl ls):
  CB_ 216 #[.agg #[vn,vl],.int .i64 k] w (.bool (zT ns ls k)):=by
 by_cases hd:degI ns ls k=2
 case neg=>
  have HR:Hid (zT ns ls k=false):=h_ (by simp[zT,hd]);obtain⟨d,Cf⟩:∃d,degI ns ls k=d:=⟨_,rfl⟩;have hd2:(d != 2)=true:=by rw[<-Cf];simpa using hd
  have HD:=h_ Cf
  go_enter Tryz.func216,Tryz.ntmps216
  go_wp2_with fail
  refine(ZJ _ _ ns ls _ _ (hn.below bel_) (hl.below bel_)).mono ?_
  rw[HD.out];rintro e w1 ⟨rfl,h9⟩;go_wp2;go_ret
  exact⟨z8 HR.out.symm,by exact bel_⟩
 obtain⟨hk,h2⟩:=deg2 hd;obtain⟨hw,m,rfl,hm⟩:=kW hk;have Hh:=zq.1 hw;obtain⟨p,q,t,u,eG,hp,hq,eE,ht,hu,_,_,_,_⟩:=Vp Hh h2
 have HR:Hid (zT ns ls m=yy (ndI ns t).1 (ndI ns t).2 (ndI ns u).1 (ndI ns u).2 (ndI ns m).1 (ndI ns m).2):=h_ (by
  unfold zT;rw[hd,eE];simp[jh])
 have HD:=h_ hd;have f8:=Hh.2.1;obtain⟨An,cn,rfl,Fk,GL,Hl⟩:=hn.formI;unfold maxLen at GL;obtain⟨bn,offn,rfl,Gd,Gj⟩:=Hl o_;obtain⟨t0,t1⟩:=Gj t ht;obtain⟨u0,u1⟩:=Gj u hu;obtain⟨m0,m1⟩:=Gj m hm;have it1:(0:Int)<=(t:Int):=o_
 have it2:(t:Int)<(ns.length:Int):=o_
 have iu1:(0:Int)<=(u:Int):=o_
 have iu2:(u:Int)<(ns.length:Int):=o_
 have im1:(0:Int)<=(m:Int):=o_
 have im2:(m:Int)<(ns.length:Int):=o_
 have HE:=h_ eE
 go_enter Tryz.func216,Tryz.ntmps216
 go_wp2_with fail
 refine(ZJ _ _ ns ls _ _ (hn.below bel_) (hl.below bel_)).mono ?_
 rw[HD.out];rintro e w1 ⟨rfl,h9⟩;have Hz:Blk w1 w.heap.size 27 #[.slice (some ⟨bn,offn,none⟩) ns.length cn,vl]:=Blk.below (Blk.newAt rfl) h9 sz_;have h8:Below w.heap.size w w1:=bel_
 obtain⟨a_0,a_1⟩:=Hz.c2
 go_wp2_with fail
 refine(Xf _ _ ns ls _ _ (hn.below h8) (hl.below h8) hk).mono ?_
 rw[HE.out];rintro e w2 ⟨v2,rfl,Hk,Hd⟩;have gM:=Hz.below Hd Hz.lt;have Ha:Below w.heap.size w w2:=h8.trans (Hd.mono h8.size);obtain⟨A2,c2,e2,gE,_,GE⟩:=Hk.reads.form;subst e2;obtain⟨b2,o2,rfl,Mz,Gp⟩:=GE (by simp);have x0:=Gp 0 (by simp);have x1:=Gp 1 (by simp);simp only[List.getD_cons_zero,List.getD_cons_succ,aaf] at x0 x1
 have c0:=(Ha.cell (p:=⟨bn,offn+t*2,none⟩) Gd).trans t0;have c1':=(Ha.cell (p:=⟨bn,offn+t*2+1,none⟩) Gd).trans t1;have c3:=(Ha.cell (p:=⟨bn,offn+u*2,none⟩) Gd).trans u0;have c4:=(Ha.cell (p:=⟨bn,offn+u*2+1,none⟩) Gd).trans u1;have c5:=(Ha.cell (p:=⟨bn,offn+m*2,none⟩) Gd).trans m0;have c6:=(Ha.cell (p:=⟨bn,offn+m*2+1,none⟩) Gd).trans m1;have z1:w.heap.size<w2.heap.size:=gM.lt;have z2:bn<w2.heap.size:=o_
 obtain⟨a_0,a_1⟩:=gM.c2;simp only[aaU,List.length_nil,aaF] at gE
 go_wp2_with fail
 (refine z7 k_ k_ (fun hG=>?_))
 repeat (go_big_quiet_step ((go_at_call 213;exact zI (kF _ _ _ _ _ _ _))))
 (refine wpQuiet_nil ?_);(clear hG);(rintro w3 ⟨⟨_,He⟩,rfl⟩);(try dsimp only)
 go_wp2;go_ret
 exact⟨z8 HR.out.symm,by exact bel_⟩
end Go.Proofs.YtnjcpljhmhdhkaaGreat
