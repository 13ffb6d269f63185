/- part 19 -/
import Derived.Test.YtnjcpljhmhdhkaaGreatUPk18
set_option linter.unusedSimpArgs false
set_option linter.unusedVariables false
set_option maxRecDepth 100000
set_option maxHeartbeats 8000000
namespace Go.Proofs.YtnjcpljhmhdhkaaGreat
def boxK (ns:List Pr) (G:List Int):Nat->Pr×Pr
 |0=>(ndI ns (G.getD 0 0),ndI ns (G.getD 0 0))
 |k+1=>((mn2 (boxK ns G k).1.1 (ndI ns (G.getD k 0)).1,mn2 (boxK ns G k).1.2 (ndI ns (G.getD k 0)).2),(mx2 (boxK ns G k).2.1 (ndI ns (G.getD k 0)).1,mx2 (boxK ns G k).2.2 (ndI ns (G.getD k 0)).2))
noncomputable def boxF (ns ls:List Pr) (f:Int):Pr×Pr:=if (qV ns ls f).length =0 then((0,0),(0,0)) else boxK ns (qV ns ls f) (qV ns ls f).length
noncomputable def cmpR (ns ls:List Pr) (f g:Nat):Int:=if (boxF ns ls f).2.2=(boxF ns ls g).2.2 then(boxF ns ls f).1.1 -(boxF ns ls g).1.1 else(boxF ns ls g).2.2 -(boxF ns ls f).2.2
noncomputable def ltR (ns ls:List Pr) (f g:Nat):Bool:=decide (cmpR ns ls f g<0)
noncomputable def facL (ns ls:List Pr) (k:Nat):List Nat:=(List.range k).filter (fun f:Nat=> !decide ((f:Int)=je ns ls))
noncomputable def ordL (ns ls:List Pr) (k:Nat):List Nat:=isoK (ltR ns ls) (facL ns ls k) (facL ns ls k).length
noncomputable def ordW (ns ls:List Pr):List Nat:=ordL ns ls (z9 ns ls).length
noncomputable def numN (ns ls:List Pr) (f:Nat):Int:=idxN (ordW ns ls) f+1
theorem ZV {ns ls:List Pr} {k:Nat} (h:(k:Int)=je ns ls):facL ns ls (k+1)=facL ns ls k:=by
 unfold facL;rw[abf,abg];simp[h]
theorem Ve {ns ls:List Pr} {k:Nat} (h:¬(k:Int)=je ns ls):facL ns ls (k+1)=facL ns ls k++[k]:=by
 unfold facL;rw[abf,abg];simp[h]
theorem Zp (ns ls:List Pr) (k:Nat):(facL ns ls k).length <=k:=by
 have:=List.length_filter_le (fun f:Nat=> !decide ((f:Int)=je ns ls)) (List.range k)
 simpa[facL] using this
theorem z36 (lt:Nat->Nat->Bool) (G:List Nat):isoK lt G G.length=G.foldl (fun S d=>insN (lt d) d S) []:=by unfold isoK;rw[aaB]
theorem z3u {ns ls:List Pr} {k:Nat} (h:(k:Int)=je ns ls):ordL ns ls (k+1)=ordL ns ls k:=by unfold ordL;rw[ZV h]
theorem z5T {ns ls:List Pr} {k:Nat} (h:¬(k:Int)=je ns ls):ordL ns ls (k+1)=insN (ltR ns ls k) k (ordL ns ls k):=by
 unfold ordL;rw[Ve h,z36,z36,List.foldl_append];rfl
theorem Qk (ns ls:List Pr) (k:Nat):(ordL ns ls k).length =(facL ns ls k).length :=jC _ _ _ (aaa _)
theorem XQ {ns ls:List Pr} {f:Nat}:∀k,f∈ordL ns ls k↔f∈facL ns ls k
 |0=>by simp[ordL,facL,isoK]
 |k+1=>by
  by_cases h:(k:Int)=je ns ls
  ·rw[z3u h,ZV h];exact XQ k
  ·rw[z5T h,Ve h,z3I,XQ k,aaJ,aba]
   exact⟨fun h=>h.symm,fun h=>h.symm⟩
def zaE (ns:List Pr) (G:List Int):Prop:=∀k,k<G.length->∃q:Nat,G.getD k 0=(q:Int)/\q<ns.length
theorem Z6 {ns ls:List Pr} {f:Int}:zaE ns (qV ns ls f):=by
 intro k hk
 cases h:inB f 0 (((z9 ns ls).length :Int) -1)
 ·rw[kF h] at hk;simp at hk
 ·obtain⟨j,rfl⟩:∃j:Nat,f=j:=⟨f.toNat,by have:=zd.1 h;omega⟩
  have hj:j<(z9 ns ls).length :=by have:=zd.1 h;omega
  obtain⟨Hn,Nf,NJ,BN⟩:=y6 hj;have Hu:∀j:Nat,j<ls.length->zp ns (ndI ls j)=true:=fun j hj=>(Hn.2.2.2.2.2 j hj).1
  rw[QJ hj,VQ] at*;have hd:=Nf _ (abh hk)
  have hg:(nodF ls ((z9 ns ls).getD j [])).getD k 0=zc ls (((z9 ns ls).getD j [])[k]):=by
   unfold nodF nodK;rw[aaB,aa7,aau,aac hk];rfl
  rw[hg];exact qE Hu hd
def bd20 (p:Pr):Prop:=0<=p.1/\p.1<=20/\0<=p.2/\p.2<=20
theorem z9W {ns:List Pr} {G:List Int} (Ng:zW ns=true) (hG:zaE ns G) (h0:0<G.length):∀k,k<=G.length->bd20 (boxK ns G k).1/\bd20 (boxK ns G k).2:=by
 have hb:∀j,j<G.length->bd20 (ndI ns (G.getD j 0)):=by
  intro j hj;obtain⟨q,e,hq⟩:=hG j hj;rw[e];exact zx (y7 Ng q hq)
 intro k
 induction k with
 |zero=>intro _;exact⟨hb 0 h0,hb 0 h0⟩
 |succ k ih=>
  intro hk;have a:=hb k o_;obtain⟨⟨b1,b2,b3,b4⟩,c1,c2,c3,c4⟩:=ih o_;obtain⟨a1,a2,a3,a4⟩:=a;simp only[boxK,bd20,mn2,mx2]
  refine⟨⟨?_,?_,?_,?_⟩,?_,?_,?_,?_⟩<;>split<;>omega
theorem z6f {ns ls:List Pr} {f:Int}:bd20 (boxF ns ls f).1/\bd20 (boxF ns ls f).2:=by
 unfold boxF
 split
 ·exact⟨⟨by decide,by decide,by decide,by decide⟩,by decide,by decide,by decide,by decide⟩
 ·rename_i h
  have hw:zW ns=true:=by
   cases Gp:inB f 0 (((z9 ns ls).length :Int) -1)
   ·rw[kF Gp] at h;simp at h
   ·obtain⟨j,rfl⟩:∃j:Nat,f=j:=⟨f.toNat,by have:=zd.1 Gp;omega⟩
    have hj:j<(z9 ns ls).length :=by have:=zd.1 Gp;omega
    exact(y6 hj).1.2.2.2.1
  exact z9W hw Z6 o_ _ (aaa _)
theorem Jt (g:List Int) (f:List Nat) (k d:Nat) (hd:d<g.length):∀j,j<=f.length->(qc g f k j).getD d 0=if d∈f.take j then(k:Int) else g.getD d 0
 |0,_=>by simp[qc]
 |j+1,h=>by
  have ih:=Jt g f k d hd j o_;have hl:=vp g f k j;have hf:f.getD j 0=f[j]:=by simp[List.getD,show j<f.length by omega]
  show((qc g f k j).set (f.getD j 0) k).getD d 0=_
  rw[hf,aax (show j<f.length by omega)]
  by_cases he:f[j]=d
  ·rw[he]
   have:d<(qc g f k j).length :=o_
   simp[List.getD,aa1,this]
  ·have h1:((qc g f k j).set f[j] (k:Int)).getD d 0=(qc g f k j).getD d 0:=by
    simp[List.getD,aa1,he]
   rw[h1,ih]
   have h2:(d∈f.take j++[f[j]])↔d∈f.take j:=by
    rw[aaJ,aba];exact⟨fun h=>h.resolve_right (fun hc=>he hc.symm),.inl⟩
   by_cases h3:d∈f.take j
   ·rw[aao h3,aao (h2.2 h3)]
   ·rw[aaq h3,aaq (fun hc=>h3 (h2.1 hc))]
theorem JP {F:List (List Nat)} (hnd:F.flatten.Nodup) {z:List Int} {d:Nat} (hd:d<z.length) (hm:d∈F.flatten):∀k,k<=F.length->(qK F z k).getD d 0=if qB F d<k then(qB F d:Int) else z.getD d 0
 |0,_=>by simp[qK]
 |k+1,h=>by
  have ih:=JP hnd hd hm k o_;have hl:=vk F z k;obtain⟨s1,s2⟩:=yr hm
  show(qc (qK F z k) (F.getD k []) k (F.getD k []).length).getD d 0=_
  rw[Jt _ _ _ _ o_ _ (aaa _),aaB,ih]
  by_cases he:qB F d=k
  ·rw[aao (by rw[<-he];exact s2),aao o_,he]
  ·have hn:¬d∈F.getD k []:=fun hc=>he (j9 hnd s1 o_ s2 hc)
   rw[aaq hn]
   by_cases h1:qB F d<k
   ·rw[aao h1,aao o_]
   ·rw[aaq h1,aaq o_]
theorem zE {ns ls:List Pr} (hw:zf ns ls=true):z9 ns ls=zg ns ls:=by unfold z9;rw[hw];rfl
theorem yF {ns ls:List Pr} (hw:zf ns ls=true) {d:Nat} (hd:d<2*ls.length):(zF ns ls).getD d 0=(fcD ns ls d:Int):=by
 obtain⟨h,_⟩:=zI hw;have Hu:=z5O h;obtain⟨f1,f2,f3⟩:=qS Hu (2*ls.length) (aaa _);unfold zF;rw[zE hw,JP (F:=zg ns ls) f2 (by simp;exact hd) (f1 d hd) _ (aaa _),aao (show qB (zg ns ls) d<(zg ns ls).length from z3o h hd)];rfl
noncomputable def adB (ns ls:List Pr) (f g:Nat):Bool:= @decide (adjF ns ls f g) (Classical.propDecidable _)
theorem kf {ns ls:List Pr} {f g:Nat}:adB ns ls f g=true↔adjF ns ls f g:=by unfold adB;simp
theorem z2O (ns ls:List Pr) (f g:Nat):adB ns ls f g=adB ns ls g f:=by
 rw[aa0,kf,kf];exact⟨kM,kM⟩
theorem z8t {ns ls:List Pr} (hw:zf ns ls=true) {f g:Nat}:adjF ns ls f g↔f≠g/\∃k,k<ls.length/\(((zF ns ls).getD (2*k) 0=(f:Int)/\(zF ns ls).getD (2*k+1) 0=(g:Int))∨((zF ns ls).getD (2*k) 0=(g:Int)/\(zF ns ls).getD (2*k+1) 0=(f:Int))):=by
 constructor
 ·rintro⟨d,hd,h1,h2,h3⟩
  refine⟨h3,d/2,by omega,?_⟩
  rw[yF hw o_,yF hw o_]
  rcases z0Y d with ⟨z1,z2⟩|⟨z1,z2⟩
  ·left
   have e1:fcD ns ls (2*(d/2))=f:=(congrArg (fcD ns ls) z1).symm.trans h1;have e2:fcD ns ls (2*(d/2)+1)=g:=(congrArg (fcD ns ls) z2).symm.trans h2;rw[e1,e2];exact⟨rfl,rfl⟩
  ·right
   have e1:fcD ns ls (2*(d/2)+1)=f:=(congrArg (fcD ns ls) z1).symm.trans h1;have e2:fcD ns ls (2*(d/2))=g:=(congrArg (fcD ns ls) z2).symm.trans h2;rw[e1,e2];exact⟨rfl,rfl⟩
 ·rintro⟨h3,k,hk,h⟩
  rw[yF hw o_,yF hw o_] at h;have t0:twin (2*k)=2*k+1:=by unfold twin;rw[aao o_]
  have t1:twin (2*k+1)=2*k:=by unfold twin;rw[aaq o_];omega
  rcases h with ⟨a,b⟩|⟨a,b⟩
  ·exact⟨2*k,by omega,by omega,by rw[t0];omega,h3⟩
  ·exact⟨2*k+1,by omega,by omega,by rw[t1];omega,h3⟩
noncomputable def yb (ns ls:List Pr) (n:Int):Option (List Int):=if zf ns ls&&inB n 1 6 then srch (adB ns ls) (List.replicate (zg ns ls).length (-1)) n.toNat (zg ns ls).length [] else none
theorem z1C {ns ls:List Pr} {n:Int} {L:List Int} (h:yb ns ls n=some L):zY ns ls L=true:=by
 unfold yb at h
 split at h
 ·rename_i hc
  rw[aaH] at hc;obtain⟨hw,hn⟩:=hc;rw[zd] at hn;obtain⟨W,_⟩:=zI hw;obtain⟨e1,_,e3,e4⟩:=z0I _ [] L h (fun j hj=>by simp at hj) (fun j hj=>by simp at hj);have Hi:L.length=(zg ns ls).length :=by simpa using e1
  have hcb:qk ns ls L=true:=by
   unfold qk;rw[hw,zE hw,Hi];simp only[aaS,decide_true]
   rw[jS];intro j hj;have:=e3 j hj;rw[zd];omega
  have Ho:∀m k,k+m<=ls.length->jd ns ls L m k= -1:=by
   intro m
   induction m with
   |zero=>intro k _;rfl
   |succ m ih=>
    intro k hk;unfold jd
    have FA:¬vu ns ls L k=true:=by
     intro hc;unfold vu at hc;rw[aaH,aa5,aa5,yF hw o_,yF hw o_,aa6,aa6] at hc;obtain⟨c1,c2⟩:=hc;have l0:=z3o W (show 2*k<2*ls.length by omega);have l1:=z3o W (show 2*k+1<2*ls.length by omega);have t0:twin (2*k)=2*k+1:=by unfold twin;rw[aao o_]
     have ha:adjF ns ls (fcD ns ls (2*k)) (fcD ns ls (2*k+1)):=⟨2*k,by omega,rfl,by rw[t0],fun hc=>c1 (by rw[hc])⟩
     rcases Nat.lt_trichotomy (fcD ns ls (2*k)) (fcD ns ls (2*k+1)) with g|g|g
     ·exact e4 _ _ g o_ (kf.2 ha) c2
     ·exact c1 (by rw[g])
     ·exact e4 _ _ g o_ (kf.2 (kM ha)) c2.symm
    rw[aaq FA];exact ih (k+1) o_
  unfold zY;rw[hcb];simp only[aaS,aa5]
  unfold jJ;rw[aao hcb,Ho _ 0 o_];omega
 ·cases h
open Go.RowKit
theorem kB {P:Program} {w:World} {t ty e:TypeId} {i:TypeInfo} {base:Nat} {z:Value} {sz by_:Nat} (ht:P.underlying t=some (.slice e)) (hi:P.info? e=some i) (hz:i.zero=some z) (H7:i.size=sz) (gG:i.bytes=by_) (NZ:z.cells.size=sz) (gj:0<sz)
  {v u:Value} {n m:Nat} {xs l:List Value} (hown:w.ownsRow base e sz v n xs) (hr:RS w sz u m l) (fL:∀x∈l,x.oneCell'=true) (Hi:n+m<=1048576+1048576) (gc:by_<=100) (H9:base<=w.heap.size):
  ∃A c w',(Builtin.append_ #[t,t] ty #[v,u]).run P w= .ok (.slice A (n+m) c) w'/\w'.ownsRow base e sz (.slice A (n+m) c) (n+m) (xs++l)/\w.grownBy w' v.ownBlock/\
   ((Value.slice A (n+m) c).ownBlock =v.ownBlock∨(Value.slice A (n+m) c).ownBlock =some w.heap.size):=by
 have Vc:∀ {w0:World} {v0:Value} {n0:Nat} {xs0:List Value},w0.ownsRow base e sz v0 n0 xs0->∃A c,v0= .slice A n0 c/\n0<=c:=by
  intro w0 v0 n0 xs0 h
  rcases h.2 with ⟨rfl,hn⟩|⟨g,cap,cur,rfl,_,_,cO,_⟩
  ·exact⟨none,0,by rw[hn],by omega⟩
  ·exact⟨_,cap,rfl,cO⟩
 obtain⟨Bu,A,c,rfl,hc,hm,hcell⟩:=hr
 cases A with
 |none=>
  have uD:m=0:=by
   rcases abw m with h|h
   ·exact h
   ·obtain⟨b,off,h1,_⟩:=hcell h
    cases h1
  subst uD;have hl:l=[]:=aby o_;subst hl;obtain⟨A,cp,rfl,uq⟩:=Vc hown;refine⟨A,cp,w,?_,by rw[List.append_nil];exact hown,World.grownBy.refl _ _,.inl rfl⟩
  exact vq ht hi A _ cp c uq
 |some a=>
  have hn:∀(j:Nat) (x:Value),l[j]? =some x->w.cell? (a.add j)=some x:=by
   intro j x hx;have hj:=(List.getElem?_eq_some_iff.1 hx).1
   have F4:0<m:=by
    rcases abw m with h|h
    ·subst h;omega
    ·exact h
   obtain⟨b,off,e5,_,e6⟩:=hcell F4
   cases e5
   rw[kL];exact e6 j x hx
  have hbm:(n+m)*by_<=(1048576+1048576)*100:=Nat.mul_le_mul Hi gc;obtain⟨v',w',h1,h2,h3,_,h5⟩:=run_append_own_at (P:=P) w base t ty e i z sz by_ ht hi hz H7 gG NZ gj v n xs hown a m c l Bu hn fL (by unfold maxLen;omega) o_ H9;obtain⟨A',c',rfl,_⟩:=Vc h2;exact⟨A',c',w',h1,h2,h3,h5⟩
theorem zM {P:Program} {w:World} {ops:Array Oper} {rest:List Oper} {o:Oper} {a:Act} {Q:Exit->Act->World->Prop} (FH:o.guard=none) (s x:Operand) (t:TypeId)
  (ho:o.op= .call { callee:= .builtin .append,args:= #[s,x],argTypes:= #[t,t] })
  (base:Nat) (e:TypeId) (i:TypeInfo) (z:Value) (sz by_:Nat) (ht:P.underlying t=some (.slice e)) (hi:P.info? e=some i) (hz:i.zero=some z) (H7:i.size=sz) (gG:i.bytes=by_) (NZ:z.cells.size=sz) (gj:0<sz)
  (v u:Value) (n m:Nat) (xs l:List Value) (hs:a.eval s=v) (hx:a.eval x=u) (hown:w.ownsRow base e sz v n xs) (hr:RS w sz u m l) (fL:∀x∈l,x.oneCell'=true) (Hi:n+m<=1048576+1048576) (gc:by_<=100) (H9:base<=w.heap.size)
  (h:∀A c w',w'.ownsRow base e sz (.slice A (n+m) c) (n+m) (xs++l)->w.grownBy w' v.ownBlock->((Value.slice A (n+m) c).ownBlock =v.ownBlock∨(Value.slice A (n+m) c).ownBlock =some w.heap.size)->wpList P ops Q rest (a.put o.dst (.slice A (n+m) c)) w'):
  wpList P ops Q (o::rest) a w:=
 wpList_plain FH fun K hK=>by
  obtain⟨A,c,w',GC,h2,h3,h4⟩:=kB (ty:=o.type) ht hi hz H7 gG NZ gj hown hr fL Hi gc H9;unfold Oper.wp execOp;simp only[ho,resolve,invoke,builtin,Sem.run_bind,Sem.run_pure,aaZ,List.map_toArray,aaT,aaU,hs,hx,GC]
  exact hK _ _ (h A c w' h2 h3 h4)
theorem Qh {P:Program} {w:World} {ops:Array Oper} {o:Oper} {a:Act} {K:Act->World->Prop} {Q:Exit->Act->World->Prop} {E:Prop} (FH:o.guard=none) (s x:Operand) (t:TypeId)
  (ho:o.op= .call { callee:= .builtin .append,args:= #[s,x],argTypes:= #[t,t] })
  (base:Nat) (e:TypeId) (i:TypeInfo) (z:Value) (sz by_:Nat) (ht:P.underlying t=some (.slice e)) (hi:P.info? e=some i) (hz:i.zero=some z) (H7:i.size=sz) (gG:i.bytes=by_) (NZ:z.cells.size=sz) (gj:0<sz)
  (v u:Value) (n m:Nat) (xs l:List Value) (hs:a.eval s=v) (hx:a.eval x=u) (hown:w.ownsRow base e sz v n xs) (hr:RS w sz u m l) (fL:∀x∈l,x.oneCell'=true) (Hi:n+m<=1048576+1048576) (gc:by_<=100) (H9:base<=w.heap.size)
  (h:∀A c w',w'.ownsRow base e sz (.slice A (n+m) c) (n+m) (xs++l)->w.grownBy w' v.ownBlock->((Value.slice A (n+m) c).ownBlock =v.ownBlock∨(Value.slice A (n+m) c).ownBlock =some w.heap.size)->K (a.put o.dst (.slice A (n+m) c)) w'):
  if Region.wanted o (yielded ops a.tmps)=true then Oper.wp P o a w K Q else E:=by
 have hw:Region.wanted o (yielded ops a.tmps)=true:=by simp[Region.wanted,FH]
 rw[aao hw];obtain⟨A,c,w',GC,h2,h3,h4⟩:=kB (ty:=o.type) ht hi hz H7 gG NZ gj hown hr fL Hi gc H9;unfold Oper.wp execOp;simp only[ho,resolve,invoke,builtin,Sem.run_bind,Sem.run_pure,aaZ,List.map_toArray,aaT,aaU,hs,hx,GC]
 exact h A c w' h2 h3 h4
theorem yc (zs:List Int):∀x∈zs.map vI,x.oneCell'=true:=by
 intro x hx;rw[List.mem_map] at hx;obtain⟨z,_,rfl⟩:=hx;rfl
theorem jD (l:List Dp):∀x∈l.flatMap Dp.cs,x.oneCell'=true:=by
 intro x hx;rw[List.mem_flatMap] at hx;obtain⟨d,_,hd⟩:=hx;simp only[Dp.cs,List.mem_cons,List.mem_nil_iff,or_false] at hd
 rcases hd with rfl|rfl|rfl<;>rfl
theorem kx (v:Value) (zs:List Int) (w:World) (h:RI w v zs) (hle:zs.length<=1048576):
  Calls Tryz.prog 133 #[v] w (RetI zs w):=by
 obtain⟨i0,hi,iz0,iz1,iz2⟩:=info_parts ql;have HR:=h_ h;clear h
 go_enter Tryz.func133,Tryz.ntmps133
 go_wp2_with (at_builtin;refine zM rfl _ _ _ rfl w.heap.size 3 i0 (.int .i64 0) 1 8 Tryz.underlying31 hi iz0 iz1 iz2 rfl (by decide) (.slice none 0 0) v 0 zs.length [] (zs.map vI) rfl rfl (World.ownsRow_nil _ _ _ _) HR.out (yc zs) o_ (by decide) (aaa _) ?_)
 intro A c w1 ho hg ha;have hb:=kN hg;have HO:Hid (OwnI w.heap.size w1 (.slice A zs.length c) zs):=h_ ho;clear ho hg ha;go_wp2;go_ret
 exact⟨_,rfl,HO.out,hb⟩
theorem z9q:(Tryz.prog.info? 48).map (fun i=>(i.zero,i.size,i.bytes))=some (some (.agg #[.int .i64 0,.int .i64 0,.int .i64 0]),3,24):=vB
theorem yj (v:Value) (l:List Dp) (w:World) (h:RDp w v l) (hle:l.length<=1048576):
  Calls Tryz.prog 134 #[v] w (zaD l w):=by
 obtain⟨i0,hi,iz0,iz1,iz2⟩:=info_parts vB;have HR:=h_ h;clear h
 go_enter Tryz.func134,Tryz.ntmps134
 go_wp2_with (at_builtin;refine zM rfl _ _ _ rfl w.heap.size 48 i0 (.agg #[.int .i64 0,.int .i64 0,.int .i64 0]) 3 24 Tryz.underlying32 hi iz0 iz1 iz2 rfl (by decide) (.slice none 0 0) v 0 l.length [] (l.flatMap Dp.cs) rfl rfl (World.ownsRow_nil _ _ _ _) HR.out (jD l) o_ (by decide) (aaa _) ?_)
 intro A c w1 ho hg ha;have hb:=kN hg;have HO:Hid (zk w.heap.size w1 (.slice A l.length c) l):=h_ ho;clear ho hg ha;go_wp2;go_ret
 exact⟨_,rfl,HO.out,hb⟩
def yi (S:St):Nat:=cntD S.D+S.cs.length+3*S.ds.length
def Z2 (x:Int) (S:St):St:=⟨z0A x S.D,runI (x+cntD S.D) S.cs.length,kr (x+cntD S.D+S.cs.length) S.ds.length,S.fund⟩
def z1I (x:Int) (D:Dr) (fs:List SF):List SF:=vU (x+2*D.fn.length+2*D.fl.length+2*D.nn.length+2*D.nl.length) fs
theorem StLe.cnt {S:St} (h:StLe S):yi S<=30000000:=by
 have:=h.D.cnt;have:=h.cs;have:=h.ds;unfold yi;omega
theorem vS {a b c d e:Value} {D:Dr} {fs:List SF} {x:Int} (k:Nat) (h:qn a b c d e (z1I x D fs) k):qn a b c d e fs k:=by
 rcases h with h|h|h
 ·exact .inl h
 ·exact .inr (.inl h)
 ·exact .inr (.inr (Zg k h))
theorem xX (base:Nat) (va vb vc vd ve vf vg:Value) (S:St) (fs:List SF) (x:Int) (w:World) (h:OwnSt base w va vb vc vd ve vf vg S fs) (hx:0<=x) (hm:x+yi S<=1000000000000):
  Calls Tryz.prog 31 #[.agg #[va,vb,vc,vd,ve,vf,vg,.int .i64 S.fund],.int .i64 x] w fun e w'=>e= .returned (.int .i64 (x+yi S))/\
   OwnSt base w' va vb vc vd ve vf vg (Z2 x S) (z1I x S.D fs)/\Turns (qv va vb vc vd ve vf vg fs) w w':=by
 have F0:=h_ h.lt;have HDC:=h_ h.d_c;have Vt:=h_ h.d_d;have HCD:=h_ h.c_d;have hD:(yi S:Int)=cntD S.D+S.cs.length+3*S.ds.length:=by unfold yi;omega
 obtain⟨m,c9⟩:∃m,cntD S.D=m:=⟨_,rfl⟩;have HM:=h_ c9;rw[c9] at hD;have hE:x+(yi S:Int)=x+m+S.cs.length+3*S.ds.length:=o_
 rw[hE];have ce:x+m+S.cs.length+3*S.ds.length<=1000000000000:=o_
 have ma:Z2 x S=⟨z0A x S.D,runI (x+m) S.cs.length,kr (x+m+S.cs.length) S.ds.length,S.fund⟩:=by unfold Z2;rw[c9]
 have HMK:=h_ ma;have HO:=h_ (h.alloc (.cells #[va,vb,vc,vd,ve,vf,vg,.int .i64 S.fund] 34));clear h hm hD hE c9 ma
 go_enter Tryz.func31,Tryz.ntmps31
 go_wp2_with fail
 obtain⟨w0,Ge⟩:∃w0,w0=w.alloc (.cells #[va,vb,vc,vd,ve,vf,vg,.int .i64 S.fund] 34):=⟨_,rfl⟩;have FQ:Blk w0 w.heap.size 34 #[va,vb,vc,vd,ve,vf,vg,.int .i64 S.fund]:=Ge▸Blk.newAt rfl;have N5:Turns (qv va vb vc vd ve vf vg fs) w w0:=Ge▸Turns.ofBelow ((aaj _ _).alloc (aaa _) _);rw[<-Ge] at HO⊢;clear Ge;have hnX:¬qv va vb vc vd ve vf vg fs w.heap.size:=fun hk=>by have:=(F0.out _ hk).2;omega
 have h0:=HO.out;clear HO;have F4:x+(cntD S.D:Int)<=1000000000000:=by rw[HM.out];omega
 refine(z07 base _ _ _ _ _ S.D fs x _ h0.dr hx F4).mono ?_
 rintro e w1 ⟨rfl,Hj,uG⟩;rw[HM.out];clear F4;have gh:=FQ.turned uG (fun hk=>hnX (.inl hk));have hC1:OwnI base w1 vf S.cs:=zQ h0.cs uG (fun k hk gH=>HDC.out k gH hk);have nh:zk base w1 vg S.ds:=zQ h0.ds uG (fun k hk gH=>Vt.out k gH hk);have uH:=N5.trans (uG.mono (S':=qv va vb vc vd ve vf vg fs) (fun k hk=> .inl hk));clear uG h0 FQ N5;obtain⟨y_0,y_1,y_2,y_3,y_4,y_5,y_6,y_7⟩:=gh.c8
 go_wp2_with fail
 refine(Zx base _ S.cs (x+m) _ hC1 o_ o_).mono ?_
 rintro e w2 ⟨rfl,Hm,Gr⟩;have CS:Turns (fun k=>vf.ownBlock=some k) w1 w2:=Turns.ofGrown Gr (fun k hk=>hk);have G7:=gh.turned CS (fun hk=>hnX (.inr (.inl hk)));have hF2:=Hj.turned CS (fun k hk gH=>HDC.out k (vS k hk) gH);have fh:zk base w2 vg S.ds:=zQ nh CS (fun k hk gH=>HCD.out k gH hk);have UU:=uH.trans (CS.mono (S':=qv va vb vc vd ve vf vg fs) (fun k hk=> .inr (.inl hk)));clear CS Gr gh hC1 nh uH Hj y_0 y_1 y_2 y_3 y_4 y_5 y_6 y_7;obtain⟨y_0,y_1,y_2,y_3,y_4,y_5,y_6,y_7⟩:=G7.c8
 go_wp2_with fail
 refine(Js base _ S.ds (x+m+S.cs.length) _ fh o_ o_).mono ?_
 rintro e w3 ⟨rfl,Hq,gM⟩;have BZ:Turns (fun k=>vg.ownBlock=some k) w2 w3:=Turns.ofGrown gM (fun k hk=>hk);have Nc:=hF2.turned BZ (fun k hk gH=>Vt.out k (vS k hk) gH);have hC3:OwnI base w3 vf (runI (x+m) S.cs.length):=zQ Hm BZ (fun k hk gH=>HCD.out k hk gH);have Ur:=UU.trans (BZ.mono (S':=qv va vb vc vd ve vf vg fs) (fun k hk=> .inr (.inr hk)));have HF:Hid (OwnSt base w3 va vb vc vd ve vf vg (Z2 x S) (z1I x S.D fs)):=h_ (by rw[HMK.out];exact⟨Nc,hC3,Hq,fun k hk gH=>HDC.out k (vS k hk) gH,fun k hk gH=>Vt.out k (vS k hk) gH,HCD.out⟩);have HT:=h_ Ur;clear BZ gM G7 hF2 fh UU Ur Hm Hq Nc hC3 y_0 y_1 y_2 y_3 y_4 y_5 y_6 y_7;go_wp2;go_ret
 exact⟨rfl,HF.out,HT.out⟩
theorem QT (va vb vc vd ve vf vg:Value) (S:St) (x:Int) (w:World) (h:RSt w va vb vc vd ve vf vg (Z2 x S)) (hx:0<=x) (hm:x+yi S<=1000000000000):
  CB_ 32 #[.agg #[va,vb,vc,vd,ve,vf,vg,.int .i64 S.fund],.int .i64 x] w (.int .i64 (x+yi S)):=by
 have hD:(yi S:Int)=cntD S.D+S.cs.length+3*S.ds.length:=by unfold yi;omega
 obtain⟨m,c9⟩:∃m,cntD S.D=m:=⟨_,rfl⟩;have HM:=h_ c9;rw[c9] at hD;have hE:x+(yi S:Int)=x+m+S.cs.length+3*S.ds.length:=o_
 rw[hE];have ce:x+m+S.cs.length+3*S.ds.length<=1000000000000:=o_
 have ma:Z2 x S=⟨z0A x S.D,runI (x+m) S.cs.length,kr (x+m+S.cs.length) S.ds.length,S.fund⟩:=by unfold Z2;rw[c9]
 rw[ma] at h;have c1:¬x+(m:Int)<0:=o_
 have c2:¬x+(m:Int)+S.cs.length<0:=o_
 have c3:¬x+(m:Int)+S.cs.length+3*S.ds.length<0:=o_
 have h1:=h.dr;have h2:=h.cs;have h3:=h.ds;clear hm hD hE c9 ma h
 go_enter Tryz.func32,Tryz.ntmps32
 go_wp2_with fail
 have F4:x+(cntD S.D:Int)<=1000000000000:=by rw[HM.out];omega
 refine(z2w _ _ _ _ _ S.D x _ (h1.below bel_) hx F4).mono ?_
 rintro e w1 ⟨rfl,h9⟩;rw[HM.out];have h8:Below w.heap.size w w1:=bel_
 have gh:Blk w1 w.heap.size 34 #[va,vb,vc,vd,ve,vf,vg,.int .i64 S.fund]:=Blk.below (Blk.newAt rfl) h9 sz_;clear h9 F4;obtain⟨y_0,y_1,y_2,y_3,y_4,y_5,y_6,y_7⟩:=gh.c8
 go_wp2_with fail
 refine(z2n _ S.cs.length (x+m) _ (h2.below h8) o_ o_).mono ?_
 rintro e w' ⟨rfl,rfl⟩
 go_wp2_with fail
 refine(JW _ S.ds.length (x+m+S.cs.length) _ (h3.below h8) o_ o_).mono ?_
 rintro e w' ⟨rfl,rfl⟩;go_wp2;go_ret
 exact⟨rfl,h8⟩
theorem Vn {P:Program} {w:World} {t ty e:TypeId} {i:TypeInfo} {base g:Nat} {z:Value} {sz by_:Nat} (ht:P.underlying t=some (.slice e)) (hi:P.info? e=some i) (hz:i.zero=some z) (H7:i.size=sz) (gG:i.bytes=by_) (NZ:z.cells.size=sz) (gj:0<sz)
  {u:Value} {m:Nat} {l:List Value} (hown:w.ownsRow base e sz (.slice (some ⟨g,0,none⟩) 0 0) 0 []) (hr:RS w sz u m l) (fL:∀x∈l,x.oneCell'=true) (Hi:m<=1048576) (gc:by_<=100) (H9:base<=w.heap.size):
  ∃A c w',(Builtin.append_ #[t,t] ty #[.slice (some ⟨g,0,none⟩) 0 0,u]).run P w= .ok (.slice A m c) w'/\w'.ownsRow base e sz (.slice A m c) m l/\Below w.heap.size w w'/\
   (∀k,(Value.slice A m c).ownBlock =some k->k=g∨k=w.heap.size):=by
 obtain⟨A,c,w',GC,ho,hg,ha⟩:=kB (ty:=ty) ht hi hz H7 gG NZ gj hown hr fL o_ gc H9;simp only[aaG,List.nil_append] at GC ho ha
 refine⟨A,c,w',GC,ho,?_,?_⟩
 ·have key:w'.heap[g]? =w.heap[g]? :=by
   rcases hown.2 with ⟨h,_⟩|⟨g',cap,cur,h,_,UZ,_,_,Gu,_⟩
   ·cases h
   ·cases h
    subst H7;have M3:cur= #[]:=Array.eq_empty_of_size_eq_zero (by simpa using Gu);subst M3;obtain⟨Bu,A0,c0,rfl,hc,hm,hcell⟩:=hr
    cases A0 with
    |none=>
     have VB:=vq (P:=P) (w:=w) (ty:=ty) ht hi (some ⟨g,0,none⟩) 0 0 c0 (aaa _)
     have uD:m=0:=by
      rcases abw m with h|h
      ·exact h
      ·obtain⟨b,off,h1,_⟩:=hcell h
       cases h1
     subst uD;have:=GC.symm.trans VB
     cases this
     rfl
    |some a=>
     have hn:∀(j:Nat) (x:Value),l[j]? =some x->w.cell? (a.add j)=some x:=by
      intro j x hx;have hj:=(List.getElem?_eq_some_iff.1 hx).1
      have F4:0<m:=by
       rcases abw m with h|h
       ·subst h;omega
       ·exact h
      obtain⟨b,off,e5,_,e6⟩:=hcell F4
      cases e5
      rw[kL];exact e6 j x hx
     by_cases uD:m=0
     ·subst uD
      have hl0:l=[]:=aby (by simpa using Bu);subst hl0;have VB:=run_append_room (P:=P) w t ty e i ht hi g 0 0 #[] UZ a 0 c0 [] (by simp) (by simp) (by simp) o_ (by simp);have:=GC.symm.trans VB
      cases this
      rw[setRow_heap w g #[] _ e _ UZ,UZ];simp
     ·have hbm:m*i.bytes<=1048576*100:=Nat.mul_le_mul Hi o_
      have VB:=run_append_grow (P:=P) w t ty e i z ht hi hz ⟨g,0,none⟩ 0 0 [] (by simp) (by simp) a m c0 l Bu hn o_ o_ (growslice_fits o_ (by simp only[aaG];omega));simp only[aaG] at VB
      have:=GC.symm.trans VB
      cases this
      exact heap_alloc_old w.drew _ (Array.getElem?_eq_some_iff.1 UZ).1
  have hg':w.grownBy w' (Value.slice none 0 0).ownBlock :=⟨hg.os,hg.tape,hg.output,hg.size,fun k hk _=>by
   by_cases hkg:k=g
   ·subst hkg;exact key
   ·exact hg.block k hk (by simpa[Value.ownBlock] using hkg)⟩
  exact kN hg'
 ·intro k hk
  rcases ha with h|h
  ·rw[h] at hk
   simp[Value.ownBlock] at hk
   exact .inl hk.symm
  ·rw[h] at hk
   cases hk
   exact .inr rfl
theorem qe {P:Program} {w:World} {ops:Array Oper} {o:Oper} {a:Act} {K:Act->World->Prop} {Q:Exit->Act->World->Prop} {E:Prop} (FH:o.guard=none) (s x:Operand) (t:TypeId)
  (ho:o.op= .call { callee:= .builtin .append,args:= #[s,x],argTypes:= #[t,t] })
  (base g:Nat) (e:TypeId) (i:TypeInfo) (z:Value) (sz by_:Nat) (ht:P.underlying t=some (.slice e)) (hi:P.info? e=some i) (hz:i.zero=some z) (H7:i.size=sz) (gG:i.bytes=by_) (NZ:z.cells.size=sz) (gj:0<sz)
  (u:Value) (m:Nat) (l:List Value) (hs:a.eval s= .slice (some ⟨g,0,none⟩) 0 0) (hx:a.eval x=u) (hown:w.ownsRow base e sz (.slice (some ⟨g,0,none⟩) 0 0) 0 []) (hr:RS w sz u m l) (fL:∀x∈l,x.oneCell'=true) (Hi:m<=1048576) (gc:by_<=100) (H9:base<=w.heap.size)
  (h:∀A c w',w'.ownsRow base e sz (.slice A m c) m l->Below w.heap.size w w'->(∀k,(Value.slice A m c).ownBlock =some k->k=g∨k=w.heap.size)->K (a.put o.dst (.slice A m c)) w'):
  if Region.wanted o (yielded ops a.tmps)=true then Oper.wp P o a w K Q else E:=by
 have hw:Region.wanted o (yielded ops a.tmps)=true:=by simp[Region.wanted,FH]
 rw[aao hw];obtain⟨A,c,w',GC,h2,h3,h4⟩:=Vn (ty:=o.type) ht hi hz H7 gG NZ gj hown hr fL Hi gc H9;unfold Oper.wp execOp;simp only[ho,resolve,invoke,builtin,Sem.run_bind,Sem.run_pure,aaZ,List.map_toArray,aaT,aaU,hs,hx,GC]
 exact h A c w' h2 h3 h4
theorem jU {w:World} {base:Nat} {e:TypeId} {sz n:Nat} {v:Value} {xs:List Value} (h:w.ownsRow base e sz v n xs):w.drew.ownsRow base e sz v n xs:=h
theorem zG {w:World} {base g:Nat} {e:TypeId} {sz:Nat} (hb:base<=w.heap.size) (hg:w.heap.size=g):(w.alloc (.cells #[] e)).ownsRow base e sz (.slice (some ⟨g,0,none⟩) 0 0) 0 []:=by
 subst hg;exact World.ownsRow_made w #[] 0 hb (by decide) (by simp)
def setN (l:List Nat) (a b:Nat):List Nat:=l.set a (l.getD a 0 ||| 2^b)
def jg (s:List Int) (F:Nat):Nat->List Nat
 |0=>List.replicate F 0
 |k+1=>if s.getD (2*k) 0=s.getD (2*k+1) 0 then jg s F k else setN (setN (jg s F k) (s.getD (2*k) 0).toNat (s.getD (2*k+1) 0).toNat) (s.getD (2*k+1) 0).toNat (s.getD (2*k) 0).toNat
def setT (l:List (List Bool)) (a b:Nat):List (List Bool):=l.set a ((l.getD a []).set b true)
def besK (s:List Int) (F:Nat):Nat->List (List Bool)
 |0=>List.replicate F (List.replicate F false)
 |k+1=>if s.getD (2*k) 0=s.getD (2*k+1) 0 then besK s F k else setT (setT (besK s F k) (s.getD (2*k) 0).toNat (s.getD (2*k+1) 0).toNat) (s.getD (2*k+1) 0).toNat (s.getD (2*k) 0).toNat
theorem Z7 (s:List Int) (F k:Nat):jg s F (k+1)=if s.getD (2*k) 0=s.getD (2*k+1) 0 then jg s F k else setN (setN (jg s F k) (s.getD (2*k) 0).toNat (s.getD (2*k+1) 0).toNat) (s.getD (2*k+1) 0).toNat (s.getD (2*k) 0).toNat :=rfl
theorem Jq (s:List Int) (F k:Nat):besK s F (k+1)=if s.getD (2*k) 0=s.getD (2*k+1) 0 then besK s F k else setT (setT (besK s F k) (s.getD (2*k) 0).toNat (s.getD (2*k+1) 0).toNat) (s.getD (2*k+1) 0).toNat (s.getD (2*k) 0).toNat :=rfl
theorem vY (l:List Nat) (a b:Nat):(setN l a b).length =l.length:=by simp[setN]
theorem VJ {l:List Nat} {a b f:Nat} (hf:f<l.length):(setN l a b).getD f 0=if f=a then l.getD a 0 ||| 2^b else l.getD f 0:=by
 by_cases h:f=a
 ·subst h;simp[setN,List.getD,aa1,hf]
 ·have h':¬a=f:=fun e=>h e.symm
  simp[setN,List.getD,aa1,h,h']
theorem z2B {l:List Nat} {a b f g:Nat} (hf:f<l.length):((setN l a b).getD f 0).testBit g=((l.getD f 0).testBit g||(decide (f=a)&&decide (b=g))):=by
 rw[VJ hf]
 by_cases h:f=a
 ·subst h;simp[aa2,aa3]
 ·simp[h]
theorem z5S {l:List Nat} {a b m:Nat} (hb:b<m) (h:∀f,f<l.length->l.getD f 0<2^m):∀f,f<(setN l a b).length ->(setN l a b).getD f 0<2^m:=by
 intro f hf;rw[vY] at hf;rw[VJ hf]
 split
 ·rename_i e;subst e
  exact Nat.or_lt_two_pow (h _ hf) (aa4 o_ hb)
 ·exact h f hf
theorem jY (s:List Int) (F:Nat):∀k,(jg s F k).length =F
 |0=>by simp[jg]
 |k+1=>by
  rw[Z7]
  split
  ·exact jY s F k
  ·rw[vY,vY];exact jY s F k
theorem vR (l:List (List Bool)) (a b:Nat):(setT l a b).length =l.length:=by simp[setT]
theorem z33 {l:List (List Bool)} {a b f:Nat} (hf:f<l.length):(setT l a b).getD f []=if f=a then(l.getD a []).set b true else l.getD f []:=by
 by_cases h:f=a
 ·subst h;simp[setT,List.getD,aa1,hf]
 ·have h':¬a=f:=fun e=>h e.symm
  simp[setT,List.getD,aa1,h,h']
theorem Vr {l:List (List Bool)} {a b F:Nat} (h:∀f,f<l.length->(l.getD f []).length =F):∀f,f<(setT l a b).length ->((setT l a b).getD f []).length =F:=by
 intro f hf;rw[vR] at hf;rw[z33 hf]
 split
 ·rename_i e;subst e
  simp only[aar];exact h _ hf
 ·exact h f hf
theorem z3z {l:List (List Bool)} {a b f g:Nat} (hf:f<l.length) (hg:g<(l.getD f []).length):((setT l a b).getD f []).getD g false=((l.getD f []).getD g false||(decide (f=a)&&decide (b=g))):=by
 rw[z33 hf]
 by_cases h:f=a
 ·subst h
  by_cases e:b=g
  ·subst e;simp[List.getD,aa1] at hg⊢;simp[hg]
  ·simp[List.getD,aa1,e]
 ·simp[h]
theorem jT (s:List Int) (F:Nat):∀k,(besK s F k).length =F
 |0=>by simp[besK]
 |k+1=>by
  rw[Jq]
  split
  ·exact jT s F k
  ·rw[vR,vR];exact jT s F k
theorem vZ (s:List Int) (F:Nat):∀k f,f<F->((besK s F k).getD f []).length =F
 |0,f,hf=>by simp[besK,List.getD,hf]
 |k+1,f,hf=>by
  have ih:∀f,f<(besK s F k).length ->((besK s F k).getD f []).length =F:=fun f hf=>vZ s F k f (by rw[jT] at hf;exact hf)
  rw[Jq]
  split
  ·exact vZ s F k f hf
  ·exact Vr (Vr ih) f (by rw[vR,vR,jT];exact hf)
def besP (s:List Int) (k f g:Nat):Prop:=∃j,j<k/\s.getD (2*j) 0≠s.getD (2*j+1) 0/\(((s.getD (2*j) 0).toNat =f/\(s.getD (2*j+1) 0).toNat =g)∨((s.getD (2*j) 0).toNat =g/\(s.getD (2*j+1) 0).toNat =f))
theorem z1d {s:List Int} {k f g:Nat}:besP s (k+1) f g↔besP s k f g∨(s.getD (2*k) 0≠s.getD (2*k+1) 0/\(((s.getD (2*k) 0).toNat =f/\(s.getD (2*k+1) 0).toNat =g)∨((s.getD (2*k) 0).toNat =g/\(s.getD (2*k+1) 0).toNat =f))):=by
 constructor
 ·rintro⟨j,hj,h⟩
  by_cases e:j=k
  ·subst e;exact .inr h
  ·exact .inl ⟨j,by omega,h⟩
 ·rintro(⟨j,hj,h⟩|h)
  ·exact⟨j,by omega,h⟩
  ·exact⟨k,by omega,h⟩
theorem z1b (s:List Int) (F:Nat):∀k f g,f<F->(((jg s F k).getD f 0).testBit g=true↔besP s k f g)
 |0,f,g,hf=>by
  simp[jg,List.getD,hf,besP]
 |k+1,f,g,hf=>by
  have ih:=z1b s F k f g hf;rw[z1d,<-ih];rw[Z7]
  split
  ·rename_i e
   exact⟨.inl,fun h=>h.resolve_right (fun q=>q.1 e)⟩
  ·rename_i e
   rw[z2B (by rw[vY,jY];exact hf),z2B (by rw[jY];exact hf)];simp only[aaI,aaH,aa5]
   constructor
   ·rintro((h|⟨h1,h2⟩)|⟨h1,h2⟩)
    ·exact .inl h
    ·exact .inr ⟨e,.inl ⟨h1.symm,h2⟩⟩
    ·exact .inr ⟨e,.inr ⟨h2,h1.symm⟩⟩
   ·rintro(h|⟨_,⟨h1,h2⟩|⟨h1,h2⟩⟩)
    ·exact .inl (.inl h)
    ·exact .inl (.inr ⟨h1.symm,h2⟩)
    ·exact .inr ⟨h2.symm,h1⟩
theorem z4p (s:List Int) (F:Nat):∀k f g,f<F->g<F->(((besK s F k).getD f []).getD g false=true↔besP s k f g)
 |0,f,g,hf,hg=>by
  simp[besK,List.getD,hf,hg,besP]
 |k+1,f,g,hf,hg=>by
  have ih:=z4p s F k f g hf hg;rw[z1d,<-ih];have hr:∀f,f<(besK s F k).length ->((besK s F k).getD f []).length =F:=fun f hf=>vZ s F k f (by rw[jT] at hf;exact hf)
  rw[Jq]
  split
  ·rename_i e
   exact⟨.inl,fun h=>h.resolve_right (fun q=>q.1 e)⟩
  ·rename_i e
   rw[z3z (by rw[vR,jT];exact hf) (by rw[Vr hr f (by rw[vR,jT];exact hf)];exact hg),z3z (by rw[jT];exact hf) (by rw[vZ s F k f hf];exact hg)];simp only[aaI,aaH,aa5]
   constructor
   ·rintro((h|⟨h1,h2⟩)|⟨h1,h2⟩)
    ·exact .inl h
    ·exact .inr ⟨e,.inl ⟨h1.symm,h2⟩⟩
    ·exact .inr ⟨e,.inr ⟨h2,h1.symm⟩⟩
   ·rintro(h|⟨_,⟨h1,h2⟩|⟨h1,h2⟩⟩)
    ·exact .inl (.inl h)
    ·exact .inl (.inr ⟨h1.symm,h2⟩)
    ·exact .inr ⟨h2.symm,h1⟩
theorem XE (s:List Int) (F:Nat):∀k,(∀j,j<2*k->0<=s.getD j 0/\s.getD j 0<F)->∀f,f<F->(jg s F k).getD f 0<2^F
 |0,_,f,hf=>by simp[jg,List.getD,hf];exact Nat.two_pow_pos F
 |k+1,h,f,hf=>by
  have ih:=XE s F k (fun j hj=>h j o_);have h0:=h (2*k) o_;have h1:=h (2*k+1) o_;have ih':∀f,f<(jg s F k).length ->(jg s F k).getD f 0<2^F:=fun f hf=>ih f (by rw[jY] at hf;exact hf)
  rw[Z7]
  split
  ·exact ih f hf
  ·exact z5S o_ (z5S o_ ih') f (by rw[vY,vY,jY];exact hf)
noncomputable def qX (ns ls:List Pr):List Nat:=jg (zF ns ls) (zg ns ls).length ls.length
noncomputable def besW (ns ls:List Pr):List (List Bool):=besK (zF ns ls) (zg ns ls).length ls.length
theorem VS {ns ls:List Pr} (hw:zf ns ls=true) {j:Nat} (hj:j<2*ls.length):0<=(zF ns ls).getD j 0/\(zF ns ls).getD j 0<(zg ns ls).length :=by
 obtain⟨W,_⟩:=zI hw;have:=z3o W hj;rw[yF hw hj];omega
theorem z3M {ns ls:List Pr} (hw:zf ns ls=true) {f g:Nat}:besP (zF ns ls) ls.length f g↔adjF ns ls f g:=by
 rw[z8t hw]
 constructor
 ·rintro⟨j,hj,gr,h⟩
  have a:=VS hw (show 2*j<2*ls.length by omega);have b:=VS hw (show 2*j+1<2*ls.length by omega);refine⟨?_,j,hj,?_⟩
  ·rcases h with ⟨h1,h2⟩|⟨h1,h2⟩<;>omega
  ·rcases h with ⟨h1,h2⟩|⟨h1,h2⟩
   ·left;omega
   ·right;omega
 ·rintro⟨gr,j,hj,h⟩
  refine⟨j,hj,?_,?_⟩
  ·rcases h with ⟨h1,h2⟩|⟨h1,h2⟩<;>omega
  ·rcases h with ⟨h1,h2⟩|⟨h1,h2⟩
   ·left;omega
   ·right;omega
theorem z4l {ns ls:List Pr} (hw:zf ns ls=true) {f g:Nat} (hf:f<(zg ns ls).length):((qX ns ls).getD f 0).testBit g=adB ns ls f g:=by
 rw[aa0,kf,<-z3M hw];exact z1b _ _ _ f g hf
theorem z63 {ns ls:List Pr} (hw:zf ns ls=true) {f g:Nat} (hf:f<(zg ns ls).length) (hg:g<(zg ns ls).length):((besW ns ls).getD f []).getD g false=adB ns ls f g:=by
 rw[aa0,kf,<-z3M hw];exact z4p _ _ _ f g hf hg
theorem z1T {ns ls:List Pr} (hw:zf ns ls=true) {f:Nat} (hf:f<(zg ns ls).length):(qX ns ls).getD f 0<2^(zg ns ls).length :=
 XE _ _ _ (fun j hj=>VS hw hj) f hf
def z0N (L:List Int) (b:Bool) (w:World) (e:Ending) (w':World):Prop:=∃v,e= .returned (.tuple #[v,.bool b])/\OwnI w.heap.size w' v L/\Below w.heap.size w w'
def RetN (G:List Int) (w:World) (e:Ending) (w':World):Prop:=∃v,e= .returned v/\OwnI w.heap.size w' v G/\(G.length=0->v= .slice none 0 0)/\Below w.heap.size w w'
def rowV (F:Nat) (g:Nat):Value:= .slice (some ⟨g,0,none⟩) F F
structure OwnTab (base:Nat) (w:World) (v:Value) (F:Nat) (gs:List Nat) (T:List (List Bool)):Prop where
 out:OwnE 182 (rowV F) base w v gs
 len:gs.length=T.length
 nd:gs.Nodup
 row:∀k,k<T.length->OwnE 4 Value.bool base w (rowV F (gs.getD k 0)) (T.getD k [])
section
variable {base:Nat} {w w':World} {v v':Value} {F:Nat} {gs:List Nat} {T:List (List Bool)}
theorem OwnTab.kept (h:OwnTab base w v F gs T) (hb:Below w.heap.size w w'):OwnTab base w' v F gs T:=⟨h.out.kept hb,h.len,h.nd,fun k hk=>(h.row k hk).kept hb⟩
theorem z8k:4≠182:=by decide
theorem za7:182≠4:=by decide
theorem z40 (h:OwnTab base w v F gs T) {k:Nat} (hk:k<T.length):base<=gs.getD k 0/\gs.getD k 0<w.heap.size:=(h.row k hk).lt _ rfl
theorem zaH (h:OwnTab base w v F gs T) {j k:Nat} (hj:j<T.length) (hk:k<T.length) (gr:j≠k):gs.getD j 0≠gs.getD k 0:=by
 have hl:=h.len;rw[aa7,aa7,aac (show j<gs.length by omega),aac (show k<gs.length by omega)];intro e;have hp:=List.pairwise_iff_getElem.1 (List.nodup_iff_pairwise_ne.1 h.nd);have e':gs[j]'o_=gs[k]'o_:=e
 rcases Nat.lt_trichotomy j k with q|q|q
 ·exact hp j k o_ o_ q e'
 ·exact gr q
 ·exact hp k j o_ o_ q e'.symm
theorem OwnTab.snoc {g:Nat} {r:List Bool} (h:OwnTab base w v F gs T) (hr:OwnE 4 Value.bool base w (rowV F g) r) (hg:∀k,k<T.length->gs.getD k 0≠g) (fY:w.grownBy w' v.ownBlock)
  (ho:w'.ownsRow base 182 1 v' (T.length+1) (gs.map (rowV F)++[rowV F g])):OwnTab base w' v' F (gs++[g]) (T++[r]):=by
 have hl:=h.len;refine⟨?_,by simp[hl],?_,fun k hk=>?_⟩
 ·have e:(gs++[g]).map (rowV F)=gs.map (rowV F)++[rowV F g]:=by simp
  unfold OwnE;rw[e,aaX,aa9,hl];exact ho
 ·rw[List.nodup_append]
  refine⟨h.nd,by simp,fun a ha b hb=>?_⟩
  rw[aba] at hb;subst hb;obtain⟨k,hk,e⟩:=abb ha;have:=hg k o_;rw[aa7,aac hk] at this;rw[<-e];exact this
 ·rw[aaX,aa9] at hk
  have kp:∀x zs,OwnE 4 Value.bool base w x zs->OwnE 4 Value.bool base w' x zs:=fun x zs hx=>OwnE.other hx h.out z8k fY
  by_cases e:k=T.length
  ·subst e
   rw[aa7,abc o_,hl,aae,aa7,abc (aaa _),aae];exact kp _ _ hr
  ·have Hd:k<T.length:=o_
   have e1:(gs++[g]).getD k 0=gs.getD k 0:=by rw[aa7,aa7,abd o_]
   have e2:(T++[r]).getD k []=T.getD k []:=by rw[aa7,aa7,abd Hd]
   rw[e1,e2];exact kp _ _ (h.row k Hd)
theorem OwnTab.set_ (h:OwnTab base w v F gs T) {a:Nat} (ha:a<T.length) (b:Nat) (x:Bool):OwnTab base (w.setCell ⟨gs.getD a 0,b,none⟩ (.bool x)) v F gs (T.set a ((T.getD a []).set b x)):=by
 have hra:=h.row a ha;have hg:w.grownBy (w.setCell ⟨gs.getD a 0,b,none⟩ (.bool x)) (some (gs.getD a 0)):=qs (qt _ _) b _;refine⟨OwnE.other h.out hra za7 hg,by simp[h.len],h.nd,fun k hk=>?_⟩
 rw[aar] at hk
 by_cases e:k=a
 ·subst e
  have e2:(T.set k ((T.getD k []).set b x)).getD k []=(T.getD k []).set b x:=by simp[aa7,aa1,hk]
  rw[e2];exact OwnE.set_ hra b x
 ·have e':¬a=k:=fun q=>e q.symm
  have e2:(T.set a ((T.getD a []).set b x)).getD k []=T.getD k []:=by simp[aa7,aa1,e']
  rw[e2];refine World.ownsRow.kept (h.row k hk) hg (.inr ?_)
  intro q;have q':gs.getD k 0=gs.getD a 0:=by injection q
  exact zaH h hk ha e q'
theorem OwnTab.cell {g n cap:Nat} (h:OwnTab base w (.slice (some ⟨g,0,none⟩) n cap) F gs T) {k:Nat} (hk:k<T.length):w.cell? ⟨g,k,none⟩=some (.slice (some ⟨gs.getD k 0,0,none⟩) F F):=
 OwnE.cell h.out 0 (by rw[h.len];exact hk)
theorem OwnTab.cell2 (h:OwnTab base w v F gs T) {k j:Nat} (hk:k<T.length) (hj:j<(T.getD k []).length):w.cell? ⟨gs.getD k 0,j,none⟩=some (.bool ((T.getD k []).getD j false)):=
 OwnE.cell (h.row k hk) false hj
theorem OwnTab.blk (h:OwnTab base w v F gs T) (hn:0<T.length):∃g c,v= .slice (some ⟨g,0,none⟩) gs.length c/\base<=g/\g<w.heap.size:=by
 rcases h.out.2 with ⟨_,h0⟩|⟨g,cap,cur,rfl,hb,_⟩
 ·have:=h.len;omega
 ·exact⟨g,cap,rfl,hb,(h.out.lt g rfl).2⟩
theorem OwnTab.apart (h:OwnTab base w v F gs T) {k g:Nat} (hk:k<T.length) (hg:v.ownBlock=some g):g≠gs.getD k 0:=by
 have hr:=h.row k hk
 rcases h.out.2 with ⟨rfl,_⟩|⟨g1,cap,cur,rfl,_,hh,_⟩
 ·cases hg
 ·rcases hr.2 with ⟨e,_⟩|⟨g2,cap2,cur2,e,_,UY,_⟩
  ·cases e
  ·injection e with e1 _ _
   injection e1 with e1
   injection e1 with e1 _
   injection hg with hg
   have hg':g1=g:=hg;intro e3;rw[<-hg'] at e3;rw[e3,e1,UY] at hh
   injection hh with hh
   injection hh with _ hh _
   exact z8k hh
theorem OwnTab.frz2 (h:OwnTab base w v F gs T) {k:Nat} (hk:k<T.length) (j:Nat):w.frozen? ⟨gs.getD k 0,j,none⟩=false:=OwnE.frz (h.row k hk) j
end
def Xm (w:World) (b off F:Nat) (adj:Nat->Nat->Bool):Prop:=b<w.heap.size/\∀i,i<F->∃bi,bi<w.heap.size/\w.cell? ⟨b,off+i,none⟩=some (.slice (some ⟨bi,0,none⟩) F F)/\∀j,j<F->w.cell? ⟨bi,j,none⟩=some (.bool (adj i j))
theorem Xm.below {w w':World} {b off F:Nat} {adj:Nat->Nat->Bool} (h:Xm w b off F adj) (hb:Below w.heap.size w w'):Xm w' b off F adj:=by
 refine⟨aaE h.1 hb.size,fun i hi=>?_⟩
 obtain⟨bi,h1,h2,h3⟩:=h.2 i hi;exact⟨bi,aaE h1 hb.size,(hb.cell (p:=⟨b,off+i,none⟩) h.1).trans h2,fun j hj=>(hb.cell (p:=⟨bi,j,none⟩) h1).trans (h3 j hj)⟩
end Go.Proofs.YtnjcpljhmhdhkaaGreat
