/- part 6 -/
import Derived.Test.YtnjcpljhmhdhkaaGreatUPk4
set_option linter.unusedSimpArgs false
set_option linter.unusedVariables false
set_option maxRecDepth 100000
set_option maxHeartbeats 4000000
namespace Go.Proofs.YtnjcpljhmhdhkaaGreat
open Go.RowKit
def tk (L:Array Bool) (j:Nat):Bool:=L.getD j true
theorem z29 (L:Array Bool) (i:Nat):tk (L.setIfInBounds i true) i=true:=by
 unfold tk
 rcases abk i L.size with h|h
 ·simp[h]
 ·simp[h]
theorem y9 {L:Array Bool} {i j:Nat} (h:i≠j):tk (L.setIfInBounds i true) j=tk L j:=getD_set_ne true h
theorem Jv {L:Array Bool} {j:Nat} (h:tk L j=false):j<L.size:=by
 unfold tk at h
 rcases abk j L.size with h'|h'
 ·exact h'
 ·simp[h'] at h
theorem zaw {L:Array Bool} {j:Nat} (h:L.getD j false=true):tk L j=true:=by
 unfold tk
 rcases abk j L.size with h'|h'
 ·simp[h'] at h⊢;exact h
 ·simp[h'] at h
theorem preS {L:Array Bool} {i:Nat} {l:List Nat} (h:∀j∈l,tk L j=true):∀j∈l,tk (L.setIfInBounds i true) j=true:=by
 intro j hj
 by_cases nU:i=j
 ·subst nU;exact z29 L i
 ·rw[y9 nU];exact h j hj
def Aft (L:Array Bool) (j:Nat) (p:Prop):Prop:=tk L j=true->p
theorem Aft.keep {L:Array Bool} {i j:Nat} {p:Prop} (h:Aft L j p) (gr:i≠j):Aft (L.setIfInBounds i true) j p:=fun ht=>h (by rw[y9 gr] at ht;exact ht)
theorem Aft.new {L:Array Bool} {j:Nat} {p:Prop} (h:p):Aft L j p:=fun _=>h
theorem Aft.no {L:Array Bool} {j:Nat} {p:Prop} (h:tk L j=false):Aft L j p:=fun ht=>by rw[h] at ht;cases ht
def QN (base:Nat) (t:TypeId) (cs:Array Value) (v:Value) (w:World):Prop:=∃g,v= .pointer (some ⟨g,0,none⟩)/\base<=g/\Blk w g t cs
theorem QN.below {base:Nat} {t:TypeId} {cs:Array Value} {v:Value} {w w':World} (h:QN base t cs v w) (hb:Below w.heap.size w w'):QN base t cs v w':=by
 obtain⟨g,h1,h2,h3⟩:=h;exact⟨g,h1,h2,h3.below hb h3.lt⟩
theorem QN.ne {base:Nat} {t:TypeId} {cs:Array Value} {v:Value} {w:World} (h:QN base t cs v w):v≠ .pointer (some ⟨w.heap.size,0,none⟩):=by
 obtain⟨g,h1,h2,h3⟩:=h;have:=h3.lt;rintro rfl
 injection h1 with h1
 injection h1 with h1
 injection h1 with h1
 omega
theorem QN.far {base:Nat} {t:TypeId} {cs:Array Value} {v:Value} {w:World} (h:QN base t cs v w) {g i:Nat} (gr:v≠ .pointer (some ⟨g,0,none⟩)) (x:Value):QN base t cs v (w.setCell ⟨g,i,none⟩ x):=by
 obtain⟨g',h1,h2,h3⟩:=h;exact⟨g',h1,h2,h3.far (p:=⟨g,i,none⟩) (fun e=>gr (by rw[h1,show g'=g from e])) x⟩
structure One (L:Array Bool) (i s base:Nat) (t:TypeId) (z f:Array Value) (v:Value) (w:World):Prop where
 ord:tk L s=true->tk L i=true
 zero:tk L i=true->tk L s=false->QN base t z v w
 full:tk L s=true->QN base t f v w
theorem One.start {L:Array Bool} {i s base:Nat} {t:TypeId} {z f:Array Value} {v:Value} {w:World} (hi:tk L i=false) (hs:tk L s=false):One L i s base t z f v w:=
 ⟨fun h=>by(rw[hs] at h;cases h),fun h=>by(rw[hi] at h;cases h),fun h=>by(rw[hs] at h;cases h)⟩
theorem One.step {L:Array Bool} {i s base k:Nat} {t:TypeId} {z f:Array Value} {v:Value} {w w':World} (h:One L i s base t z f v w) (h1:k≠i) (h2:k≠s) (hb:Below w.heap.size w w'):One (L.setIfInBounds k true) i s base t z f v w':=
 ⟨by rw[y9 h1,y9 h2];exact h.ord,by rw[y9 h1,y9 h2];exact fun a b=>(h.zero a b).below hb,by rw[y9 h2];exact fun a=>(h.full a).below hb⟩
theorem One.far {L:Array Bool} {i s base k g:Nat} {t:TypeId} {z f:Array Value} {v:Value} {w:World} (h:One L i s base t z f v w) (h1:k≠i) (h2:k≠s) (gr:tk L i=true->v≠ .pointer (some ⟨g,0,none⟩)) (a b:Nat) (x y:Value):
  One (L.setIfInBounds k true) i s base t z f v ((w.setCell ⟨g,a,none⟩ x).setCell ⟨g,b,none⟩ y):=
 ⟨by rw[y9 h1,y9 h2];exact h.ord,by rw[y9 h1,y9 h2];exact fun p q=>((h.zero p q).far (gr p) x).far (gr p) y,by rw[y9 h2];exact fun p=>((h.full p).far (gr (h.ord p)) x).far (gr (h.ord p)) y⟩
theorem One.lay {L:Array Bool} {i s base:Nat} {t:TypeId} {z f:Array Value} {v:Value} {w:World} (h:One L i s base t z f v w) (GQ:tk L i=false) (his:i≠s) (hb:base<=w.heap.size):One (L.setIfInBounds i true) i s base t z f (.pointer (some ⟨w.heap.size,0,none⟩)) (w.alloc (.cells z t)):=by
 have hs:tk L s=false:=by
  cases hc:tk L s
  ·rfl
  ·have:=h.ord hc
   rw[GQ] at this;cases this
 exact⟨(by rw[y9 his,hs];exact(fun h=>by cases h)),fun _ _=>⟨_,rfl,hb,Blk.new w t z⟩,(by rw[y9 his,hs];exact(fun h=>by cases h))⟩
theorem One.fill {L:Array Bool} {i s base:Nat} {t:TypeId} {x y p q:Value} {v:Value} {w:World} {g:Nat} (h:One L i s base t #[x,y] #[p,q] v w) (hi:tk L i=true) (hs:tk L s=false) (hv:v= .pointer (some ⟨g,0,none⟩)) (his:s≠i):
  One (L.setIfInBounds s true) i s base t #[x,y] #[p,q] v ((w.setCell ⟨g,0,none⟩ p).setCell ⟨g,1,none⟩ q):=by
 obtain⟨g',h1,h2,h3⟩:=h.zero hi hs;rw[hv] at h1
 injection h1 with h1
 injection h1 with h1
 injection h1 with h1
 subst h1;refine⟨fun _=>by rw[y9 his];exact hi,fun _ hc=>(by rw[z29] at hc;cases hc),fun _=>⟨g,hv,h2,?_⟩⟩
 have:=(h3.set_ 0 p).set_ 1 q
 simpa using this
def Apart2 (L:Array Bool) (i j:Nat) (v u:Value):Prop:=tk L i=true->tk L j=true->v≠u
theorem Apart2.start {L:Array Bool} {i j:Nat} {v u:Value} (h:tk L i=false):Apart2 L i j v u:=fun h1=>by rw[h] at h1;cases h1
theorem Apart2.step {L:Array Bool} {i j k:Nat} {v u:Value} (h:Apart2 L i j v u) (h1:k≠i) (h2:k≠j):Apart2 (L.setIfInBounds k true) i j v u:=by
 unfold Apart2;rw[y9 h1,y9 h2];exact h
theorem One.old {L:Array Bool} {i s base:Nat} {t:TypeId} {z f:Array Value} {v:Value} {w:World} (h:One L i s base t z f v w) (hi:tk L i=true):v≠ .pointer (some ⟨w.heap.size,0,none⟩):=by
 cases hs:tk L s
 ·exact(h.zero hi hs).ne
 ·exact(h.full hs).ne
theorem Apart2.newR {L:Array Bool} {i j s base:Nat} {t:TypeId} {z f:Array Value} {v:Value} {w:World} (h:One L i s base t z f v w) (h1:j≠i):Apart2 (L.setIfInBounds j true) i j v (.pointer (some ⟨w.heap.size,0,none⟩)):=by
 unfold Apart2;rw[y9 h1];exact fun hi _=>h.old hi
theorem Apart2.newL {L:Array Bool} {i j s base:Nat} {t:TypeId} {z f:Array Value} {v:Value} {w:World} (h:One L j s base t z f v w) (h1:i≠j):Apart2 (L.setIfInBounds i true) i j (.pointer (some ⟨w.heap.size,0,none⟩)) v:=by
 unfold Apart2;rw[y9 h1];exact fun _ hj=>(h.old hj).symm
section
variable {P:Program} {md:Region.Mode} {ops:Array Oper} {Q:Exit->Act->World->Prop} {S:World->Prop}
theorem z04 {i:Nat} {L:Array Bool} (h:i∈Region.ready md ops L):tk L i=false:=(mem_ready.1 h).1
theorem qU {i j:Nat} {o:Oper} {L:Array Bool} (h:i∈Region.ready md ops L) (ho:(ops.toList.drop i).head? =some o) (hw:(o.after.any fun e=>Region.binds md e&&e.on==j)=true):tk L j=true:=by
 obtain⟨_,o',cU,fb⟩:=mem_ready.1 h;rw[qJ ho] at cU
 cases cU
 rw[Array.any_eq_true] at hw;obtain⟨k,hk,h2⟩:=hw;rw[aaH] at h2;have:=fb o.after[k] (Array.getElem_mem hk) h2.1;rw[show o.after[k].on =j by simpa using h2.2] at this;exact zaw this
def z9j (md:Region.Mode) (ops:Array Oper):Bool:=(List.range ops.size).all fun i=>((ops[i]?).map (·.after.all fun e=> !Region.binds md e||decide (e.on<i))).getD true
def z97 (md:Region.Mode) (ops:Array Oper) (n:Nat):Bool:=
 ((ops[n]?).map fun o=>(List.range n).all fun j=>o.after.any fun e=>Region.binds md e&&e.on==j).getD false&&
 (List.range ops.size).all fun i=>decide (i<=n)||((ops[i]?).map fun o=>o.after.any fun e=>Region.binds md e&&e.on==n).getD true
theorem qD {i:Nat} {o:Oper} {K:Act->World->Prop} {a:Act} {w:World} (ho:(ops.toList.drop i).head? =some o)
  (h:∀K':Act->World->Prop,(∀a w,K a w->K' a w)->if Region.wanted o (yielded ops a.tmps)=true then Oper.wp P o a w K' Q else K' (a.put o.dst undef) w):wpOp P ops Q i K a w:=
 wpOp_step (qJ ho) h
theorem z4V (hb:z9j md ops=true) {L:Array Bool} (hs:L.size=ops.size) {k:Nat} (hk:tk L k=false):Region.ready md ops L≠ []:=by
 intro hr
 have hex:∀m,m<=ops.size->∀j,j<m->tk L j=true:=by
  intro m
  induction m with
  |zero=>intro _ j hj;omega
  |succ m ih=>
   intro hm j hj
   rcases Nat.lt_succ_iff_lt_or_eq.1 hj with h|h
   ·exact ih o_ j h
   ·subst h
    apply abl
    intro hc;have Nn:tk L j=false:=by simpa using hc
    have hj2:j<ops.size:=o_
    have:j∈Region.ready md ops L:=by
     rw[mem_ready];refine⟨Nn,ops[j],by simp[hj2],fun e he fr=>?_⟩
     unfold z9j at hb;rw[aaM] at hb;have h1:=hb j (List.mem_range.2 hj2);simp only[abo hj2,aaw,Option.getD_some,Array.all_eq_true_iff_forall_mem] at h1
     have h2:=h1 e he;rw[fr] at h2;have h3:e.on<j:=by simpa using h2
     have h4:=ih o_ e.on h3;unfold tk at h4;have h5:e.on<L.size:=o_
     simp[h5] at h4⊢
     exact h4
    rw[hr] at this
    cases this
 have Gj:=Jv hk;have:=hex ops.size (aaa _) k o_;rw[this] at hk
 cases hk
def z17 (N:Nat) (L:Array Bool):Nat:=(List.range N).countP fun j=> !tk L j
theorem z7h {N i:Nat} {L:Array Bool} (hi:i<N) (h:tk L i=false):z17 N (L.setIfInBounds i true)+1=z17 N L:=by
 unfold z17
 induction N with
 |zero=>omega
 |succ N ih=>
  rw[abf,List.countP_append,List.countP_append]
  by_cases he:i=N
  ·subst he
   have e:(List.range i).countP (fun j=> !tk (L.setIfInBounds i true) j)=(List.range i).countP (fun j=> !tk L j):=by
    apply List.countP_congr
    intro j hj;have:=List.mem_range.1 hj;rw[y9 (show i≠j by omega)]
   rw[e];simp[List.countP_cons,z29,h]
  ·have:=ih o_
   have e: [N].countP (fun j=> !tk (L.setIfInBounds i true) j)=[N].countP (fun j=> !tk L j):=by
    simp[List.countP_cons,y9 he]
   rw[e];omega
def QR (n N:Nat):Array Bool:=Array.replicate n true++Array.replicate (N -n) false
theorem z9F {n:Nat} {L:Array Bool} (h1:∀j,j<n->tk L j=true) (h2:∀j,n<=j->j<L.size->tk L j=false) (hn:n<=L.size):L=QR n L.size:=by
 apply Array.ext
 ·simp[QR];omega
 ·intro j hj mz
  have e:tk L j=L[j]:=by unfold tk;simp[hj]
  rcases abk j n with h|h
  ·rw[<-e,h1 j h]
   simp[QR,Array.getElem_append,h]
  ·rw[<-e,h2 j h hj]
   simp[QR,Array.getElem_append,show ¬j<n by omega]
theorem z5M {n:Nat} {Inv:Array Bool->Act->World->Prop} (hn:n<ops.size) (hb:z9j md ops=true) (hl:z97 md ops n=true)
  (hstep:∀L a w,Inv L a w->∀i,i<n->i∈Region.ready md ops L->wpOp P ops Q i (fun a' w'=>S w'/\Inv (L.setIfInBounds i true) a' w') a w)
  (hend:∀a w,Inv (QR n ops.size) a w->anyE P md ops Q S n (ops.size -n) (QR n ops.size) a w):
  ∀(fuel:Nat) (L:Array Bool) (a:Act) (w:World),L.size=ops.size->(∀j,n<=j->j<ops.size->tk L j=false)->z17 ops.size L=fuel->Inv L a w->anyE P md ops Q S n fuel L a w:=by
 intro fuel
 induction fuel with
 |zero=>
  intro L a w hs GQ hc _
  exfalso
  have h0:=GQ n (aaa _) hn;unfold z17 at hc;rw[List.countP_eq_zero] at hc;have:=hc n (List.mem_range.2 hn);rw[h0] at this;exact this rfl
 |succ fuel ih=>
  intro L a w hs GQ hc hI
  by_cases uv:n∈Region.ready md ops L
  ·have fb:∀j,j<n->tk L j=true:=by
    intro j hj;unfold z97 at hl;rw[aaH] at hl;have h1:=hl.1;rw[abo hn,aaw,Option.getD_some,aaM] at h1;exact qU (o:=ops[n]) uv (by rw[List.head?_drop,Array.getElem?_toList,abo hn]) (h1 j (List.mem_range.2 hj))
   have hL:=z9F fb (fun j h1 h2=>GQ j h1 o_) o_;rw[hs] at hL
   have hcnt:fuel+1=ops.size -n:=by
    rw[<-hc,hL];unfold z17
    have e:∀N,n<=N->(List.range N).countP (fun j=> !tk (QR n N) j)=N -n:=by
     intro N hN
     have g:∀m,m<=N->(List.range m).countP (fun j=> !tk (QR n N) j)=m -n:=by
      intro m
      induction m with
      |zero=>intro _;simp
      |succ m ihm=>
       intro hm;rw[abf,List.countP_append,ihm o_]
       have hv:tk (QR n N) m=decide (m<n):=by
        unfold tk QR
        by_cases h:m<n
        ·simp[Array.getElem?_append,h]
        ·simp[Array.getElem?_append,h,show m -n<N -n by omega]
       by_cases h:m<n
       ·simp[List.countP_cons,hv,h];omega
       ·simp[List.countP_cons,hv,h];omega
     exact g N (aaa _)
    exact e ops.size o_
   rw[hcnt,hL];exact hend a w (by rw[hL] at hI;exact hI)
  ·refine⟨fun h0=>absurd h0 (z4V hb hs (GQ n (aaa _) hn)),fun i hi=>?_⟩
   have hun_i:=z04 hi;have Fm:i<ops.size:=by have:=Jv hun_i;omega
   have Gp:i<n:=by
    apply abl
    intro MY
    rcases Nat.lt_or_eq_of_le (Nat.le_of_not_lt MY) with h|h
    ·unfold z97 at hl
     rw[aaH] at hl;have h1:=List.all_eq_true.1 hl.2 i (List.mem_range.2 Fm);rw[abo Fm,aaw,Option.getD_some] at h1
     have h2:(ops[i].after.any fun e=>Region.binds md e&&e.on==n)=true:=by
      rcases Bool.or_eq_true_iff.1 h1 with h3|h3
      ·simp at h3;omega
      ·exact h3
     have:=qU (o:=ops[i]) hi (by rw[List.head?_drop,Array.getElem?_toList,abo Fm]) h2;rw[GQ n (aaa _) hn] at this
     cases this
    ·subst h;exact uv hi
   refine wpOp_mono (fun a' w' h'=>⟨fun _=>h'.1,ih (L.setIfInBounds i true) a' w' (by simpa using hs) (fun j h1 h2=>by rw[y9 o_];exact GQ j h1 h2) ?_ h'.2⟩) (hstep L a w hI i Gp hi)
   have:=z7h (N:=ops.size) Fm hun_i;omega
end
attribute [local go_sem ↓] zv zu qb qf
theorem z2I (d:Nat):d^^^1=twin d:=by
 apply Nat.eq_of_testBit_eq
 intro i;rw[Nat.testBit_xor]
 cases i with
 |zero=>
  rw[Nat.testBit_zero,Nat.testBit_zero,Nat.testBit_zero];unfold twin;have h:d%2=0∨d%2=1:=o_
  rcases h with h|h
  ·rw[aao h,h,show(d+1)%2=1 by omega];rfl
  ·rw[aaq o_,h,show(d -1)%2=0 by omega];rfl
 |succ i=>
  rw[Nat.testBit_succ,Nat.testBit_succ,Nat.testBit_succ,show twin d/2=d/2 by unfold twin;split<;>omega];simp
theorem yT (vn vl:Value) (ls:List Pr) (d:Nat) (w:World) (hl:RP w vl ls) (hd:d<2*ls.length):
  CB_ 241 #[.agg #[vn,vl],.int .i64 d] w (.int .i64 (zc ls d)):=by
 obtain⟨A,c,rfl,hc,hm,hcell⟩:=hl.formI;unfold maxLen at hm;clear hl;obtain⟨b,off,rfl,hb,Ho⟩:=hcell o_;obtain⟨k0,k1⟩:=Ho (d/2) o_;have t1:=tdiv2 d;have t2:=tmod2 d;have HF:Hid (zc ls d=if d%2=1 then(ndI ls (d/2:Nat)).2 else(ndI ls (d/2:Nat)).1):=h_ rfl;have hq:d/2<ls.length:=o_
 have UQ:((d/2:Nat):Int)<(ls.length:Int):=o_
 have hq2:(0:Int)<=((d/2:Nat):Int):=o_
 have hr:d%2=0∨d%2=1:=o_
 generalize d/2=q at*;generalize ndI ls (q:Int)=L at*;obtain⟨l1,l2⟩:=L;simp only at k0 k1 HF
 clear Ho hcell
 rcases hr with hr|hr
 ·rw[hr] at HF t2
  have e1:((0:Nat):Int)=0:=rfl
  go_enter Tryz.func241,Tryz.ntmps241
  go_wp2;go_ret
  exact⟨zb (by rw[HF.out];rfl),by exact bel_⟩
 ·rw[hr] at HF t2
  have e1:((1:Nat):Int)=1:=rfl
  go_enter Tryz.func241,Tryz.ntmps241
  go_wp2;go_ret
  exact⟨zb (by rw[HF.out];rfl),by exact bel_⟩
theorem z71 (ax ay bx by':Int) (w:World):
  CB_ 275 #[.agg #[.int .i64 ax,.int .i64 ay],.agg #[.int .i64 bx,.int .i64 by']] w (.int .i64 (ja ax ay bx by')):=by
 go_enter Tryz.func275,Tryz.ntmps275
 go_wp2
 all_goals go_ret
 all_goals refine⟨zb ?_,by exact bel_⟩
 all_goals unfold ja
 all_goals first|(rw[aao o_];done)|(rw[aaq o_];done)|(simp_all;done)|(simp_all;omega)
theorem z3f (ax ay bx by' cx cy:Int) (w:World):
  Calls Tryz.prog 269 #[.agg #[.int .i64 ax,.int .i64 ay],.agg #[.int .i64 bx,.int .i64 by'],.agg #[.int .i64 cx,.int .i64 cy]] w
   fun e w'=>e= .returned (.bool (befB ax ay bx by' cx cy))/\Below w.heap.size w w':=by
 by_cases hv:zh ax ay=true/\zh bx by'=true/\zh cx cy=true
 ·obtain⟨h1,h2,h3⟩:=hv
  have HN:Hid ((zh ax ay&&zh bx by'&&zh cx cy)=true):=h_ (by rw[h1,h2,h3];rfl);have HR:Hid (befB ax ay bx by' cx cy=(if ja ax ay bx by'=ja ax ay cx cy then decide (0<zU ax ay bx by' cx cy) else decide (ja ax ay bx by'<ja ax ay cx cy))):=h_ (by unfold befB;rw[h1,h2,h3];rfl)
  go_enter Tryz.func269,Tryz.ntmps269
  go_wp2_with fail
  refine(kc _ ax ay bx by' cx cy _ (jk (by simp) rfl rfl rfl (by simp[maxLen]))).mono ?_
  rintro e w1 ⟨rfl,h9⟩;(have Gb:=bcC h9);have H8:=h9.size;(try simp at H8);(try have gR:=p0_ w w1);(try have Gk:=p1_ w w1);(try have fZ:=p2_ w w1)
  rw[HN.out]
  go_wp2_with fail
  (refine z7 k_ k_ (fun hG=>?_))
  repeat (go_big_quiet_step ((go_at_call 275;exact zy (z71 _ _ _ _ _))))
  (refine wpQuiet_nil ?_);(clear hG);(rintro w4 ⟨⟨_,Hv⟩,rfl⟩);(try dsimp only);(have Cp:=bcC Hv);have Bg:=Hv.size;(try simp at Bg);(try have UN:=p0_ w w4);(try have UO:=p1_ w w4);(try have UP:=p2_ w w4);(try have hp4_3:=p3_ w w4)
  generalize hU:ja ax ay bx by'=u at*
  generalize hV:ja ax ay cx cy=v at*
  go_wp2_with (go_at_call 214;refine(QF _ _ _ _ _ _ _ h1 h2 h3).mono ?_;rintro e w5 ⟨rfl,gf⟩)
  all_goals go_ret
  all_goals refine⟨z8 ?_,by exact bel_⟩
  all_goals rw[HR.out]
  all_goals by_cases uO:u=v
  all_goals first|rw[aao uO]|rw[aaq uO]
  all_goals first|(simp_all;done)|(simp_all;omega)|(simp;omega)
 ·have HN:Hid ((zh ax ay&&zh bx by'&&zh cx cy)=false):=h_ (by
   cases h1:zh ax ay<;>cases h2:zh bx by'<;>cases h3:zh cx cy<;>simp_all)
  have HR:=h_ (V5 hv)
  go_enter Tryz.func269,Tryz.ntmps269
  go_wp2_with fail
  refine(kc _ ax ay bx by' cx cy _ (jk (by simp) rfl rfl rfl (by simp[maxLen]))).mono ?_
  rintro e w1 ⟨rfl,h9⟩;rw[HN.out];go_wp2;go_ret
  exact⟨z8 HR.out.symm,by exact bel_⟩
theorem z50 (a b c:Pr) (x:Bool) (w:World) (h:befB a.1 a.2 b.1 b.2 c.1 c.2=x):
  Calls Tryz.prog 269 #[.agg #[.int .i64 a.1,.int .i64 a.2],.agg #[.int .i64 b.1,.int .i64 b.2],.agg #[.int .i64 c.1,.int .i64 c.2]] w
   fun e w'=>e= .returned (.bool x)/\Below w.heap.size w w':=by
 subst h;exact z3f _ _ _ _ _ _ w
def jj (F:List (List Nat)) (d:Nat):Bool:=F.any (·.contains d)
def zr (ns ls:List Pr):Nat->List (List Nat)
 |0=> []
 |m+1=>if jj (zr ns ls m) m then zr ns ls m else zr ns ls m++[qF ns ls m]
theorem k9 {ns ls:List Pr} {m:Nat} (h:jj (zr ns ls m) m=true):zr ns ls (m+1)=zr ns ls m:=by simp[zr,h]
theorem kP {ns ls:List Pr} {m:Nat} (h:jj (zr ns ls m) m=false):zr ns ls (m+1)=zr ns ls m++[qF ns ls m]:=by simp[zr,h]
def zg (ns ls:List Pr):List (List Nat):=zr ns ls (2*ls.length)
theorem xv (ns ls:List Pr):∀m,(zr ns ls m).length <=m
 |0=>by simp[zr]
 |m+1=>by
  have:=xv ns ls m
  cases h:jj (zr ns ls m) m
  ·rw[kP h];simp;omega
  ·rw[k9 h];omega
theorem Qz {ns ls:List Pr} (Hu:∀j:Nat,j<ls.length->zp ns (ndI ls j)=true) {d:Nat} (hd:d<2*ls.length):∀e∈qF ns ls d,e<2*ls.length:=by
 intro e he;unfold qF jo at he;rw[List.mem_map] at he;obtain⟨i,_,rfl⟩:=he;exact xP Hu hd i
theorem Xa {ns ls:List Pr} (Hu:∀j:Nat,j<ls.length->zp ns (ndI ls j)=true) {d:Nat} (hd:d<2*ls.length):0<(qF ns ls d).length /\(qF ns ls d).length <=2*ls.length:=by
 unfold qF;rw[xu];have:=kI Hu hd;exact⟨this.1,this.2.1⟩
theorem J7 {ns ls:List Pr} (Hu:∀j:Nat,j<ls.length->zp ns (ndI ls j)=true):∀m,m<=2*ls.length->∀f∈zr ns ls m,(∀e∈f,e<2*ls.length)/\0<f.length/\f.length<=2*ls.length
 |0,_,f,hf=>by simp[zr] at hf
 |m+1,hm,f,hf=>by
  cases h:jj (zr ns ls m) m
  ·rw[kP h,aaJ,aba] at hf
   rcases hf with hf|rfl
   ·exact J7 Hu m o_ f hf
   ·exact⟨Qz Hu o_,Xa Hu o_⟩
  ·rw[k9 h] at hf;exact J7 Hu m o_ f hf
def yB (ns ls:List Pr) (d:Nat):Int:=(ndI ns (zc ls d)).1*(ndI ns (dTo ls d)).2 -(ndI ns (zc ls d)).2*(ndI ns (dTo ls d)).1
def yv (ns ls:List Pr) (f:List Nat):Nat->Int
 |0=>0
 |k+1=>yv ns ls f k+yB ns ls (f.getD k 0)
def jX (ns ls:List Pr) (f:List Nat):Int:=yv ns ls f f.length
theorem z8z {ns ls:List Pr} (h:zL ns ls) {d:Nat} (hd:d<2*ls.length): -400<=yB ns ls d/\yB ns ls d<=400:=by
 have Hu:∀j:Nat,j<ls.length->zp ns (ndI ls j)=true:=fun j hj=>(h.2.2.2.2.2 j hj).1
 obtain⟨t,ht,Bm⟩:=jK Hu hd;obtain⟨u,hu,GQ⟩:=qE Hu hd;unfold yB;rw[ht,hu];obtain⟨a0,a1,a2,a3⟩:=zx (y7 h.2.2.2.1 t Bm);obtain⟨b0,b1,b2,b3⟩:=zx (y7 h.2.2.2.1 u GQ);generalize (ndI ns (t:Int)).1=x at*;generalize (ndI ns (t:Int)).2=y at*;generalize (ndI ns (u:Int)).1=p at*;generalize (ndI ns (u:Int)).2=q at*;have m1:p*y<=20*20:=Int.mul_le_mul b1 a3 a2 o_;have m2:q*x<=20*20:=Int.mul_le_mul b3 a1 a0 o_;have m3:0<=p*y:=Int.mul_nonneg b0 a2;have m4:0<=q*x:=Int.mul_nonneg b2 a0;omega
theorem VG {ns ls:List Pr} (h:zL ns ls) {f:List Nat} (hf:∀e∈f,e<2*ls.length):∀k,k<=f.length-> -(400*k:Int)<=yv ns ls f k/\yv ns ls f k<=400*k
 |0,_=>by simp[yv]
 |k+1,hk=>by
  have ih:=VG h hf k o_;have hm:f.getD k 0∈f:=by rw[List.getD,aac o_];exact abh _
  have hc:=z8z h (hf _ hm);have e:yv ns ls f (k+1)=yv ns ls f k+yB ns ls (f.getD k 0):=rfl;omega
def jx (ns ls:List Pr) (F:List (List Nat)):Nat->Nat->Int
 |0,_=> -1
 |m+1,k=>if jX ns ls (F.getD k [])<=0 then(k:Int) else jx ns ls F m (k+1)
def z8x (ns ls:List Pr) (F:List (List Nat)):Int:=jx ns ls F F.length 0
theorem ZL (ns ls:List Pr) (d i:Nat):∀j,orbD ns ls d (i+j)=orbD ns ls (orbD ns ls d i) j
 |0=>rfl
 |j+1=>by show qZ ns ls (orbD ns ls d (i+j))=_;rw[ZL ns ls d i j];rfl
theorem z6k {ns ls:List Pr} {d p:Nat} (h:orbD ns ls d p=d):∀q,orbD ns ls d (p*q)=d
 |0=>rfl
 |q+1=>by rw[Nat.mul_succ,ZL,z6k h q,h]
section
variable {ns ls:List Pr} (Hu:∀j:Nat,j<ls.length->zp ns (ndI ls j)=true)
include Hu
theorem yx {d:Nat} (hd:d<2*ls.length) (e:Nat):e∈qF ns ls d↔∃i,orbD ns ls d i=e:=by
 obtain⟨h1,_,h3,_⟩:=kI Hu hd;unfold qF jo;rw[List.mem_map]
 constructor
 ·rintro⟨i,_,h⟩;exact⟨i,h⟩
 ·rintro⟨i,rfl⟩
  refine⟨i%perD ns ls d,List.mem_range.2 (Nat.mod_lt _ h1),?_⟩
  have e:orbD ns ls d (perD ns ls d*(i/perD ns ls d)+i%perD ns ls d)=orbD ns ls d (i%perD ns ls d):=by rw[ZL,z6k h3]
  rw[<-e,Nat.div_add_mod]
theorem z1u {d:Nat} (hd:d<2*ls.length):d∈qF ns ls d:=(yx Hu hd d).2 ⟨0,rfl⟩
theorem z4X {d:Nat} (hd:d<2*ls.length):(qF ns ls d).Nodup :=by
 obtain⟨_,_,_,h4⟩:=kI Hu hd;unfold qF jo;rw[List.nodup_iff_pairwise_ne,List.pairwise_map];refine List.Pairwise.imp_of_mem (R:=fun a b=>a<b) (fun {a b} ha hb Hd he=>?_) (List.pairwise_lt_range)
 have gw:=List.mem_range.1 hb;have:=VK Hu hd a (b -a) (by rw[he,show a+(b -a)=b by omega]);exact h4 (b -a) o_ o_ this
theorem z6Q {d e:Nat} (hd:d<2*ls.length) (h:e∈qF ns ls d):d∈qF ns ls e:=by
 have he:=Qz Hu hd e h;obtain⟨_,_,h3,_⟩:=kI Hu hd;unfold qF jo at h;rw[List.mem_map] at h;obtain⟨i,hi,rfl⟩:=h;have FV:=List.mem_range.1 hi;refine(yx Hu he d).2 ⟨perD ns ls d -i,?_⟩
 rw[<-ZL,show i+(perD ns ls d -i)=perD ns ls d by omega,h3]
theorem z4M {d e x:Nat} (hd:d<2*ls.length) (h:e∈qF ns ls d) (h2:x∈qF ns ls e):x∈qF ns ls d:=by
 obtain⟨i,hi⟩:=(yx Hu hd e).1 h;obtain⟨j,hj⟩:=(yx Hu (Qz Hu hd e h) x).1 h2;exact(yx Hu hd x).2 ⟨i+j,by rw[ZL,hi,hj]⟩
theorem qS:∀m,m<=2*ls.length->(∀d,d<m->d∈(zr ns ls m).flatten)/\(zr ns ls m).flatten.Nodup /\(∀f∈zr ns ls m,∃d,d<2*ls.length/\f=qF ns ls d)
 |0,_=>⟨fun d h=>absurd h o_,by simp[zr],by simp[zr]⟩
 |m+1,hm=>by
  obtain⟨h1,h2,h3⟩:=qS m o_
  cases h:jj (zr ns ls m) m
  ·rw[kP h]
   have uw:m∉(zr ns ls m).flatten :=by
    intro hc;rw[List.mem_flatten] at hc;obtain⟨f,hf,hmf⟩:=hc
    have:jj (zr ns ls m) m=true:=by
     unfold jj;rw[List.any_eq_true];exact⟨f,hf,by simpa using hmf⟩
    rw[h] at this;cases this
   refine⟨fun d hd=>?_,?_,fun f hf=>?_⟩
   ·rw[List.flatten_append,aaJ]
    by_cases he:d=m
    ·subst he;right;simpa using z1u Hu (show d<2*ls.length by omega)
    ·exact .inl (h1 d o_)
   ·rw[List.flatten_append,List.nodup_append]
    refine⟨h2,by simpa using z4X Hu (show m<2*ls.length by omega),fun x hx y hy=>?_⟩
    rintro rfl;have hy':x∈qF ns ls m:=by simpa using hy
    rw[List.mem_flatten] at hx;obtain⟨f,hf,WZ⟩:=hx;obtain⟨d,hd,rfl⟩:=h3 f hf
    apply uw
    rw[List.mem_flatten];exact⟨_,hf,z4M Hu hd WZ (z6Q Hu o_ hy')⟩
   ·rw[aaJ,aba] at hf
    rcases hf with hf|rfl
    ·exact h3 f hf
    ·exact⟨m,by omega,rfl⟩
  ·rw[k9 h]
   refine⟨fun d hd=>?_,h2,h3⟩
   by_cases he:d=m
   ·subst he
    unfold jj at h;rw[List.any_eq_true] at h;obtain⟨f,hf,ce⟩:=h;rw[List.mem_flatten];exact⟨f,hf,by simpa using ce⟩
   ·exact h1 d o_
theorem z5D:(zg ns ls).flatten.Perm (List.range (2*ls.length)):=by
 obtain⟨h1,h2,h3⟩:=qS Hu (2*ls.length) (aaa _);refine(List.perm_ext_iff_of_nodup h2 List.nodup_range).2 (fun d=>?_)
 rw[aaN]
 constructor
 ·intro h
  rw[List.mem_flatten] at h;obtain⟨f,hf,hd⟩:=h;obtain⟨e,he,rfl⟩:=h3 f hf;exact Qz Hu he d hd
 ·exact h1 d
end
def sumC (ns ls:List Pr) (f:List Nat):Int:=(f.map (yB ns ls)).sum
theorem kj (ns ls:List Pr) (a b:List Nat):sumC ns ls (a++b)=sumC ns ls a+sumC ns ls b:=by simp[sumC]
theorem z0W (ns ls:List Pr) (f:List Nat):∀k,k<=f.length->yv ns ls f k=sumC ns ls (f.take k)
 |0,_=>rfl
 |k+1,h=>by
  unfold yv;have hk:k<f.length:=o_
  rw[z0W ns ls f k o_,aax hk,kj,show f.getD k 0=f[k] by simp[List.getD,hk]];simp[sumC]
theorem z6I (ns ls:List Pr) (f:List Nat):jX ns ls f=sumC ns ls f:=by
 unfold jX;rw[z0W ns ls f f.length (aaa _),aaB]
theorem z6B (ns ls:List Pr) {a b:List Nat} (h:a.Perm b):sumC ns ls a=sumC ns ls b:=by
 induction h with
 |nil=>rfl
 |cons x _ ih=>simp only[sumC,aaT,List.sum_cons] at ih⊢;omega
 |swap x y l=>simp only[sumC,aaT,List.sum_cons];omega
 |trans _ _ h1 h2=>omega
theorem z4v (ns ls:List Pr) (j:Nat):yB ns ls (2*j)+yB ns ls (2*j+1)=0:=by
 have e1:zc ls (2*j+1)=dTo ls (2*j):=by unfold zc dTo;rw[aao o_,aaq o_,show(2*j+1)/2=j by omega,show 2*j/2=j by omega]
 have e2:dTo ls (2*j+1)=zc ls (2*j):=by unfold zc dTo;rw[aao o_,aaq o_,show(2*j+1)/2=j by omega,show 2*j/2=j by omega]
 unfold yB;rw[e1,e2];rw[Int.mul_comm (ndI ns (dTo ls (2*j))).1,Int.mul_comm (ndI ns (dTo ls (2*j))).2];omega
theorem z0p (ns ls:List Pr):∀m,sumC ns ls (List.range (2*m))=0
 |0=>rfl
 |m+1=>by
  rw[show 2*(m+1)=2*m+1+1 by omega,abf,abf,kj,kj,z0p ns ls m];have:=z4v ns ls m;simp[sumC]
  omega
theorem z0S (ns ls:List Pr):∀F:List (List Nat),sumC ns ls F.flatten=(F.map (jX ns ls)).sum
 | []=>rfl
 |f::F=>by rw[List.flatten_cons,kj,z0S ns ls F,aaT,List.sum_cons,z6I]
theorem z5N:∀l:List Int,l≠ []->(∀x∈l,0<x)->0<l.sum
 | [],h,_=>absurd rfl h
 | [x],_,h=>by have:=h x (by simp);simpa using this
 |x::y::l,_,h=>by
  have h1:=z5N (y::l) (by simp) (fun z hz=>h z (by simp at hz⊢;right;exact hz));have h2:=h x (by simp);rw[List.sum_cons];omega
theorem z9m {ns ls:List Pr} (Hu:∀j:Nat,j<ls.length->zp ns (ndI ls j)=true) (hl:0<ls.length):∃k,k<(zg ns ls).length /\jX ns ls ((zg ns ls).getD k [])<=0:=by
 apply abl
 intro hc;have hs:=z0S ns ls (zg ns ls);rw[z6B ns ls (z5D Hu),z0p] at hs
 have gr:(zg ns ls).map (jX ns ls)≠ []:=by
  intro he;have h0:=(qS Hu (2*ls.length) (aaa _)).1 0 o_;have:zg ns ls=[]:=by simpa using he
  unfold zg at this;rw[this] at h0;simp at h0
 have hp:=z5N _ gr (fun x hx=>by
  rw[List.mem_map] at hx;obtain⟨f,hf,rfl⟩:=hx;obtain⟨k,hk,rfl⟩:=abb hf
  apply abl
  intro hle;refine hc ⟨k,hk,?_⟩
  rw[List.getD,aac hk];simp only[Option.getD_some]
  omega)
 omega
theorem Jz (ns ls:List Pr) (F:List (List Nat)):∀(m k:Nat),(∃q,k<=q/\q<k+m/\jX ns ls (F.getD q [])<=0)->∃q:Nat,jx ns ls F m k=q/\k<=q/\q<k+m/\jX ns ls (F.getD q [])<=0
 |0,k,⟨q,h1,h2,_⟩=>absurd h2 o_
 |m+1,k,⟨q,h1,h2,h3⟩=>by
  unfold jx
  split
  ·rename_i h;exact⟨k,rfl,aaa _,by omega,h⟩
  ·rename_i h
   have hq:q≠k:=fun e=>h (e▸h3)
   obtain⟨r,g1,g2,g3,g4⟩:=Jz ns ls F m (k+1) ⟨q,by omega,by omega,h3⟩;exact⟨r,g1,by omega,by omega,g4⟩
attribute [local go_sem ↓] zv Z1 zu Z4
theorem JX (vn vl un ul:Value) (ns ls ns' ls':List (Int×Int)) (w:World) (hn:RP w vn ns) (hl:RP w vl ls) (FM:RP w un ns') (Gc:RP w ul ls'):
  CB_ 19 #[.agg #[vn,vl],.agg #[un,ul]] w (.bool (qL ns ls ns' ls')):=by
 obtain⟨A1,c1,rfl,Gb,F4,Fi⟩:=hn.form;obtain⟨A2,c2,rfl,fa,hm2,GX⟩:=hl.form;obtain⟨A3,c3,rfl,fU,hm3,FB⟩:=FM.form;obtain⟨A4,c4,rfl,Cp,hm4,Gm⟩:=Gc.form;unfold maxLen at F4 hm2 hm3 hm4;clear hn hl FM Gc
 by_cases h1:ns.length=ns'.length
 ·have e1:((ns.length:Int) != (ns'.length:Int))=false:=by simp[h1]
  by_cases h2:ls.length=ls'.length
  ·have e2:((ls.length:Int) != (ls'.length:Int))=false:=by simp[h2]
   have H1:=h_ h1;have H2:=h_ h2;clear h1 h2
   go_enter Tryz.func19,Tryz.ntmps19
   go_wp2;generalize BJ:(w.alloc _).alloc _=w0;have Hg:Below w.heap.size w w0:=by rw[<-BJ];exact bel_
   have hv0:w0.cell? ⟨w.heap.size,0,none⟩=some (.slice A1 ns.length c1):=by rw[<-BJ];simp[go_sem]
   have M1:w0.cell? ⟨w.heap.size,1,none⟩=some (.slice A2 ls.length c2):=by rw[<-BJ];simp[go_sem]
   have hu0:w0.cell? ⟨w.heap.size+1,0,none⟩=some (.slice A3 ns'.length c3):=by rw[<-BJ];simp[go_sem]
   have cE:w0.cell? ⟨w.heap.size+1,1,none⟩=some (.slice A4 ls'.length c4):=by rw[<-BJ];simp[go_sem]
   clear BJ
   go_loopw [5] (fun i wr=>∃k:Nat,∃n:Nat,k<=ns.length/\i= .int .i64 k/\Hid (ns.take k=ns'.take k)/\wr=w0.drewN n) (fun i _=>ns.length -(intOf i).toNat)
   case atStart=>exact⟨0,0,aab _,rfl,h_ (by simp),rfl⟩
   case round=>
    obtain⟨k,n,hk,rfl,HT,rfl⟩:=hrel
    by_cases Hd:k<ns.length
    ·obtain⟨b,off,rfl,hb,Ho⟩:=Fi o_
     have fJ:k<ns'.length:=by rw[<-H1.out];exact Hd
     obtain⟨b',off',rfl,gw,Gw⟩:=FB o_;obtain⟨k0,k1⟩:=Ho k Hd;obtain⟨j0,j1⟩:=Gw k fJ;have q0:=(Hg.cell (p:=⟨b,off+k*2,none⟩) hb).trans k0;have q1:=(Hg.cell (p:=⟨b,off+k*2+1,none⟩) hb).trans k1;have p0:=(Hg.cell (p:=⟨b',off'+k*2,none⟩) gw).trans j0;have p1:=(Hg.cell (p:=⟨b',off'+k*2+1,none⟩) gw).trans j1;have FT:(0:Int)<=(k:Int):=o_
     have cf:(k:Int)<(ns.length:Int):=o_
     have MZ:(k:Int)<(ns'.length:Int):=o_
     clear Ho Fi Gw FB GX Gm k0 k1 j0 j1
     cases GI:prB ns[k].1 ns[k].2 ns'[k].1 ns'[k].2
     ·have HF:Hid (qL ns ls ns' ls'=false):=h_ (by
       unfold qL;rw[Bool.and_eq_false_iff];left
       rw[aaK];intro h;have:ns[k]=ns'[k]:=by simp[h]
       rw[this,xY] at GI;cases GI)
      go_wp2
      go_quiet (fail)
      go_wp2;go_ret
      exact⟨z8 HF.out.symm,by exact bel_⟩
     ·have HE:Hid (ns[k]=ns'[k]):=h_ (kh.1 GI)
      go_wp2
      go_quiet (fail)
      go_wp2;go_roundw
      case rel=>exact⟨k+1,_,by omega,by go_num,h_ (yE HT.out Hd fJ HE.out),rfl⟩
      case measure=>simp[intOf];omega
    ·have Hw:ns.length<=k:=o_
     have Bf:ns=ns':=by
      have h:=HT.out;rw[aaL Hw,aaL (by rw[<-H1.out];exact Hw)] at h;exact h
     have HE:=h_ Bf;clear Bf Fi FB;go_wp2
     go_loopw [6] (fun i wr=>∃k:Nat,∃n:Nat,k<=ls.length/\i= .int .i64 k/\Hid (ls.take k=ls'.take k)/\wr=w0.drewN n) (fun i _=>ls.length -(intOf i).toNat)
     case atStart=>exact⟨0,_,aab _,rfl,h_ (by simp),rfl⟩
     case round=>
      obtain⟨k,n,hk,rfl,HT,rfl⟩:=hrel
      by_cases Hd:k<ls.length
      ·obtain⟨b,off,rfl,hb,Ho⟩:=GX o_
       have fJ:k<ls'.length:=by rw[<-H2.out];exact Hd
       obtain⟨b',off',rfl,gw,Gw⟩:=Gm o_;obtain⟨k0,k1⟩:=Ho k Hd;obtain⟨j0,j1⟩:=Gw k fJ;have q0:=(Hg.cell (p:=⟨b,off+k*2,none⟩) hb).trans k0;have q1:=(Hg.cell (p:=⟨b,off+k*2+1,none⟩) hb).trans k1;have p0:=(Hg.cell (p:=⟨b',off'+k*2,none⟩) gw).trans j0;have p1:=(Hg.cell (p:=⟨b',off'+k*2+1,none⟩) gw).trans j1;have FT:(0:Int)<=(k:Int):=o_
       have cf:(k:Int)<(ls.length:Int):=o_
       have MZ:(k:Int)<(ls'.length:Int):=o_
       clear Ho Gw GX Gm k0 k1 j0 j1
       cases GI:prB ls[k].1 ls[k].2 ls'[k].1 ls'[k].2
       ·have HF:Hid (qL ns ls ns' ls'=false):=h_ (by
         unfold qL;rw[Bool.and_eq_false_iff];right
         rw[aaK];intro h;have:ls[k]=ls'[k]:=by simp[h]
         rw[this,xY] at GI;cases GI)
        go_wp2
        go_quiet (fail)
        go_wp2;go_ret
        exact⟨z8 HF.out.symm,by exact bel_⟩
       ·have HE:Hid (ls[k]=ls'[k]):=h_ (kh.1 GI)
        go_wp2
        go_quiet (fail)
        go_wp2;go_roundw
        case rel=>exact⟨k+1,_,by omega,by go_num,h_ (yE HT.out Hd fJ HE.out),rfl⟩
        case measure=>simp[intOf];omega
      ·have Hw:ls.length<=k:=o_
       have Bf:ls=ls':=by
        have h:=HT.out;rw[aaL Hw,aaL (by rw[<-H2.out];exact Hw)] at h;exact h
       have HF:Hid (qL ns ls ns' ls'=true):=h_ (by simp[qL,HE.out,Bf]);clear Bf GX Gm;go_wp2;go_ret
       exact⟨z8 HF.out.symm,by exact bel_⟩
  ·have e2:((ls.length:Int) != (ls'.length:Int))=true:=by simp;omega
   have HF:Hid (qL ns ls ns' ls'=false):=h_ (by
    unfold qL;rw[Bool.and_eq_false_iff];right
    rw[aaK];intro h;exact h2 (by rw[h]))
   clear h1 Fi GX FB Gm
   go_enter Tryz.func19,Tryz.ntmps19
   go_wp2;go_ret
   exact⟨z8 HF.out.symm,by exact bel_⟩
 ·have e1:((ns.length:Int) != (ns'.length:Int))=true:=by simp;omega
  have HF:Hid (qL ns ls ns' ls'=false):=h_ (by
   unfold qL;rw[Bool.and_eq_false_iff];left
   rw[aaK];intro h;exact h1 (by rw[h]))
  clear Fi GX FB Gm
  go_enter Tryz.func19,Tryz.ntmps19
  go_wp2;go_ret
  exact⟨z8 HF.out.symm,by exact bel_⟩
theorem jb (vn vl:Value) (ns ls:List (Int×Int)) (n x:Int) (w:World) (hn:RP w vn ns) (hl:RP w vl ls) (h0:0<=n) (h1:n<=1000000000) (hx:Hid (szW n ns.length ls.length=x)):
  CB_ 164 #[.agg #[vn,vl],.int .i64 n] w (.int .i64 x):=
 (z1G vn vl ns ls n w hn hl h0 h1).mono fun e w' ⟨he,hw⟩=>⟨he.trans (zb hx.out),hw⟩
theorem xJ (vn vl un ul:Value) (ns ls ns' ls':List (Int×Int)) (b:Bool) (w:World) (hn:RP w vn ns) (hl:RP w vl ls) (FM:RP w un ns') (Gc:RP w ul ls') (hx:Hid (qL ns ls ns' ls'=b)):
  CB_ 19 #[.agg #[vn,vl],.agg #[un,ul]] w (.bool b):=
 (JX vn vl un ul ns ls ns' ls' w hn hl FM Gc).mono fun e w' ⟨he,hw⟩=>⟨he.trans (z8 hx.out),hw⟩
theorem xH (vn vl un ul:Value) (ns ls ns' ls':List (Int×Int)) (b:Bool) (w:World) (hn:RP w vn ns) (hl:RP w vl ls) (FM:RP w un ns') (Gc:RP w ul ls') (hx:Hid (qL ns ls ns' ls'=b)):
  CB_ 88 #[.agg #[vn,vl],.agg #[un,ul]] w (.bool b):=
 (JZ vn vl un ul ns ls ns' ls' w hn hl FM Gc).mono fun e w' ⟨he,hw⟩=>⟨he.trans (z8 hx.out),hw⟩
def Conn (n:Nat) (T:List (Nat×Nat)):Prop:=∀C:Nat->Prop,(∀e∈T,(C e.1↔C e.2))->∀i,i<n->(C i↔C 0)
def labE:List (Nat×Nat)->Nat->Nat
 | [],i=>i
 |e::T,i=>if labE T i=labE T e.2 then labE T e.1 else labE T i
theorem QB:∀(T:List (Nat×Nat)) (e:Nat×Nat),e∈T->labE T e.1=labE T e.2
 | [],e,h=>by simp at h
 |f::T,e,h=>by
  simp only[labE]
  rcases List.mem_cons.1 h with rfl|h
  ·by_cases h1:labE T e.1=labE T e.2
   ·rw[aao h1,aao rfl]
   ·rw[aaq h1,aao rfl]
  ·rw[QB T e h]
theorem Jo {p q:Nat->Bool} {z:Nat}:∀n,(∀i,i<n->i≠z->p i=true->q i=true)->((List.range n).filter p).length <=((List.range n).filter q).length +(if z<n then 1 else 0)
 |0,_=>by simp
 |n+1,h=>by
  have ih:=Jo n (fun i hi=>h i o_);rw[abf,abg,abg,aaX,aaX]
  by_cases hz:n=z
  ·subst hz
   rw[aaq (aaW n)] at ih;rw[aao (aaC n)];have:(List.filter p [n]).length <=1:=List.length_filter_le p [n];omega
  ·have h1:(List.filter p [n]).length <=(List.filter q [n]).length :=by
    cases hp:p n
    ·simp[hp]
    ·simp[hp,h n o_ hz hp]
   split at ih
   ·rw[aao o_];omega
   ·split<;>omega
theorem Vv (n:Nat):∀T:List (Nat×Nat),n<=((List.range n).filter fun i=>labE T i==i).length +T.length
 | []=>by
  have e:(List.range n).filter (fun i=>labE [] i==i)=List.range n:=List.filter_eq_self.2 (fun a _=>by simp[labE]);rw[e];simp
 |e::T=>by
  have ih:=Vv n T
  have h:=Jo (p:=fun i=>labE T i==i) (q:=fun i=>labE (e::T) i==i) (z:=labE T e.2) n (fun i _ hz hp=>by
   have hp':labE T i=i:=by simpa using hp
   show(labE (e::T) i==i)=true
   simp only[labE]
   rw[aaq (by rw[hp'];exact hz),hp'];simp)
  have h2:(if labE T e.2<n then 1 else 0)<=1:=by split<;>omega
  rw[aaV];omega
theorem z5z {n:Nat} {T:List (Nat×Nat)} (h:Conn n T):n<=T.length+1:=by
 have hc:=h (fun i=>labE T i=labE T 0) (fun e he=>by rw[QB T e he]);have h1:=Vv n T
 have h2:=Jo (p:=fun i=>labE T i==i) (q:=fun _=>false) (z:=labE T 0) n (fun i hi hz hp=>by
  have hp':labE T i=i:=by simpa using hp
  have:=(hc i hi).2 rfl;omega)
 have e:(List.range n).filter (fun _=>false)=[]:=by simp
 rw[e] at h2;have h3:(if labE T 0<n then 1 else 0)<=1:=by split<;>omega
 simp only[List.length_nil] at h2
 omega
def Xl (n m:Nat) (p q:Nat->Nat) (J:Nat->Bool):Prop:=∀C:Nat->Prop,(∀j,j<m->J j=true->(C (p j)↔C (q j)))->∀i,i<n->(C i↔C 0)
def cntJ (m:Nat) (J:Nat->Bool):Nat:=((List.range m).filter J).length
theorem QH (m:Nat) (J:Nat->Bool):cntJ (m+1) J=cntJ m J+(if J m=true then 1 else 0):=by
 unfold cntJ;rw[abf,abg,aaX]
 cases h:J m<;>simp[h]
theorem z3H:∀(m:Nat) (J:Nat->Bool),cntJ m J+cntJ m (fun j=> !J j)=m
 |0,_=>rfl
 |m+1,J=>by
  have:=z3H m J;rw[QH,QH]
  cases J m<;>simp<;>omega
theorem Jd {J:Nat->Bool} {t:Nat} (ht:J t=true):∀m,cntJ m (fun j=>J j&&j != t)+(if t<m then 1 else 0)=cntJ m J
 |0=>by simp[cntJ]
 |m+1=>by
  have ih:=Jd ht m;rw[QH,QH]
  by_cases h:m=t
  ·subst h
   rw[aaq (aaW m)] at ih;rw[aao (aaC m),aao ht];simp
   omega
  ·have e:(J m&&m != t)=J m:=by simp[h]
   rw[e]
   by_cases h2:t<m
   ·rw[aao h2] at ih;rw[aao (show t<m+1 by omega)];omega
   ·rw[aaq h2] at ih;rw[aaq (show ¬t<m+1 by omega)];omega
theorem z0M {n m:Nat} {p q:Nat->Nat}:∀(k:Nat) (J:Nat->Bool),cntJ m J<=k->Xl n m p q J->∃J',Xl n m p q J'/\∀t,t<m->J' t=true->¬Xl n m p q (fun j=>J' j&&j != t)
 |0,J,hk,h=>⟨J,h,fun t ht hJ _=>by
  have:=Jd hJ m;rw[aao ht] at this;omega⟩
 |k+1,J,hk,h=>by
  by_cases hc:∃t,t<m/\J t=true/\Xl n m p q (fun j=>J j&&j != t)
  ·obtain⟨t,ht,hJ,hC⟩:=hc
   have:=Jd hJ m;rw[aao ht] at this;exact z0M k _ o_ hC
  ·exact⟨J,h,fun t ht hJ hC=>hc ⟨t,ht,hJ,hC⟩⟩
theorem JO {n m:Nat} {p q:Nat->Nat} {J:Nat->Bool} (h:Xl n m p q J):n<=cntJ m J+1:=by
 have h1:Conn n (((List.range m).filter J).map fun j=>(p j,q j)):=by
  intro C hC i hi;refine h C (fun j hj hJ=>hC (p j,q j) ?_) i hi
  rw[List.mem_map];exact⟨j,List.mem_filter.2 ⟨List.mem_range.2 hj,hJ⟩,rfl⟩
 have:=z5z h1;rw[List.length_map] at this;exact this
def sumR:Nat->(Nat->Int)->Int
 |0,_=>0
 |n+1,f=>sumR n f+f n
theorem yL {f g:Nat->Int}:∀n,(∀i,i<n->f i=g i)->sumR n f=sumR n g
 |0,_=>rfl
 |n+1,h=>by simp only[sumR];rw[yL n (fun i hi=>h i o_),h n o_]
theorem Ji {f:Nat->Int}:∀n,(∀i,i<n->f i=0)->sumR n f=0
 |0,_=>rfl
 |n+1,h=>by simp only[sumR];rw[Ji n (fun i hi=>h i o_),h n o_];rfl
theorem z3s (f g:Nat->Int):∀n,sumR n (fun i=>f i+g i)=sumR n f+sumR n g
 |0=>rfl
 |n+1=>by simp only[sumR];rw[z3s f g n];omega
theorem z1m (f:Nat->Nat->Int) (m:Nat):∀n,sumR n (fun i=>sumR m (fun j=>f i j))=sumR m (fun j=>sumR n (fun i=>f i j))
 |0=>(Ji m (fun _ _=>rfl)).symm
 |n+1=>by
  simp only[sumR]
  rw[z1m f m n,<-z3s]
theorem J8 (f:Nat->Int) (k:Nat):∀n,sumR n (fun i=>if i=k then f i else 0)=if k<n then f k else 0
 |0=>by simp[sumR]
 |n+1=>by
  simp only[sumR]
  rw[J8 f k n]
  by_cases h:n=k
  ·subst h
   rw[aaq (aaW n),aao rfl,aao (aaC n)];omega
  ·rw[aaq h]
   by_cases h2:k<n
   ·rw[aao h2,aao o_];omega
   ·rw[aaq h2,aaq o_];omega
theorem z2A (f:Nat->Int):∀m,sumR (2*m) f=sumR m (fun j=>f (2*j)+f (2*j+1))
 |0=>rfl
 |m+1=>by
  rw[show 2*(m+1)=2*m+1+1 by omega];simp only[sumR]
  rw[z2A f m];omega
theorem Zi (f:Nat->Int):∀k,sumR (k+1) f=f 0+sumR k (fun i=>f (i+1))
 |0=>by simp[sumR]
 |k+1=>by
  have:=Zi f k;simp only[sumR] at this⊢
  omega
theorem z9w (f:Nat->Int) (n:Nat):sumR n (fun i=>f ((i+n -1)%n))=sumR n f:=by
 match n with
 |0=>rfl
 |k+1=>
  rw[Zi];have e0:(0+(k+1) -1)%(k+1)=k:=by rw[show 0+(k+1) -1=k by omega];exact abv (aaC k)
  rw[e0]
  have e1:sumR k (fun i=>f ((i+1+(k+1) -1)%(k+1)))=sumR k f:=yL k (fun i hi=>by
   rw[show i+1+(k+1) -1=i+(k+1) by omega,Nat.add_mod_right,abv o_])
  rw[e1];simp only[sumR]
  omega
theorem Xs (f:Nat->Int):∀R:List Nat,(R.map f).sum =sumR R.length (fun i=>f (R.getD i 0))
 | []=>rfl
 |a::R=>by
  rw[aaT,List.sum_cons,Xs f R,aaV,Zi];simp
noncomputable def cn (m:Nat) (p:Nat->Prop):Nat:=((List.range m).filter (fun i=> @decide (p i) (Classical.propDecidable _))).length
structure Swp (m n:Nat) where
 a:Nat->Nat
 b:Nat->Nat
 Bel:Nat->Nat->Prop
 low:Nat->Nat->Prop
 ab:∀j,j<m->a j<b j/\b j<n
 irr:∀j,j<m->¬Bel j j
 tot:∀s i j,i<m->j<m->a i<s->s<=b i->a j<s->s<=b j->i≠j->Bel i j∨Bel j i
 trans:∀s i j k,i<m->j<m->k<m->a i<s->s<=b i->a j<s->s<=b j->a k<s->s<=b k->Bel i j->Bel j k->Bel i k
 lowL:∀s i j,i<m->j<m->a i<s->s<b i->b j=s->(low s i->Bel i j)/\(¬low s i->Bel j i)
 lowR:∀s i j,i<m->j<m->a i<s->s<b i->a j=s->(low s i->Bel i j)/\(¬low s i->Bel j i)
 lowP:∀s i j,i<m->j<m->a i<s->s<b i->a j<s->s<b j->low s i->¬low s j->Bel i j
namespace Swp
variable {m n:Nat} (S:Swp m n)
def Cr (s j:Nat):Prop:=S.a j<s/\s<=S.b j
def Ps (s j:Nat):Prop:=S.a j<s/\s<S.b j
noncomputable def K (s:Nat):Nat:=cn m (S.Cr s)
noncomputable def pos (s j:Nat):Nat:=cn m (fun i=>S.Cr s i/\S.Bel i j)
noncomputable def bb (s:Nat):Nat:=cn m (fun i=>S.Ps s i/\S.low s i)
noncomputable def aa (s:Nat):Nat:=cn m (fun i=>S.Ps s i/\¬S.low s i)
noncomputable def ll (s:Nat):Nat:=cn m (fun i=>S.b i=s)
noncomputable def rr (s:Nat):Nat:=cn m (fun i=>S.a i=s)
noncomputable def off:Nat->Nat
 |0=>0
 |s+1=>off s+S.K s+1
noncomputable def eB (s:Nat):List (Nat×Nat):=(List.range (S.bb s+1)).map (fun i=>(S.off s+i,S.off (s+1)+i))
noncomputable def eA (s k:Nat):List (Nat×Nat):=(List.range k).map (fun i=>(S.off s+(S.bb s+S.ll s)+i,S.off (s+1)+(S.bb s+S.rr s)+i))
noncomputable def eUp:Nat->List (Nat×Nat)
 |0=> []
 |s+1=>eUp s++(S.eB s++S.eA s (S.aa s+1))
noncomputable def eAll (t:Nat):List (Nat×Nat):=S.eUp t++(S.eB t++S.eA t (S.aa t))
end Swp
namespace Swp
variable {m n:Nat} (S:Swp m n)
noncomputable def lab (x:Nat):Nat:=labE (S.eAll (n -1)) x
noncomputable def gap (fw:Bool) (s j:Nat):Nat:=if fw then S.off s+S.pos s j+1 else S.off s+S.pos s j
inductive Turn (s:Nat):Bool->Nat->Bool->Nat->Prop
 |upL {j j':Nat} (h:S.b j=s) (h':S.b j'=s) (hb:S.Bel j j') (hn:∀k,k<m->S.b k=s->¬(S.Bel j k/\S.Bel k j')):Turn s true j false j'
 |backL {j j':Nat} (h:S.b j=s) (h':S.b j'=s) (hj:∀i,i<m->S.b i=s->¬S.Bel j i) (mz:∀i,i<m->S.b i=s->¬S.Bel i j') (hn:∀i,i<m->S.a i≠s):Turn s true j false j'
 |over {j j':Nat} (h:S.b j=s) (h':S.a j'=s) (hj:∀i,i<m->S.b i=s->¬S.Bel j i) (mz:∀i,i<m->S.a i=s->¬S.Bel j' i):Turn s true j true j'
 |downR {j j':Nat} (h:S.a j=s) (h':S.a j'=s) (hb:S.Bel j' j) (hn:∀k,k<m->S.a k=s->¬(S.Bel j' k/\S.Bel k j)):Turn s false j true j'
 |backR {j j':Nat} (h:S.a j=s) (h':S.a j'=s) (hj:∀i,i<m->S.a i=s->¬S.Bel i j) (mz:∀i,i<m->S.a i=s->¬S.Bel j' i) (hn:∀i,i<m->S.b i≠s):Turn s false j true j'
 |under {j j':Nat} (h:S.a j=s) (h':S.b j'=s) (hj:∀i,i<m->S.a i=s->¬S.Bel i j) (mz:∀i,i<m->S.b i=s->¬S.Bel i j'):Turn s false j false j'
end Swp
theorem z7V (k a b:Int) (w:World):
  CB_ 59 #[.agg #[.int .i64 k,.int .i64 a,.int .i64 b]] w (.agg #[.int .i64 k,.int .i64 a,.int .i64 b]):=by
 go_enter Tryz.func59,Tryz.ntmps59
 go_wp2;exact bodyPost_ret (v:= .agg #[.int .i64 k,.int .i64 a,.int .i64 b]) (by simp[results,Tryz.results59,go_sem]) rfl ⟨rfl,by exact bel_⟩
def actB (k a b:Int):Bool:=
 if k==1||k==6 then inB a 0 40&&inB b 0 40
 else if k==7 then inB a 0 40&&inB b 1 50
 else if k==2||k==3||k==5||k==8 then inB a 0 40&&b==0
 else if k==4||k==9 then a==0&&b==0
 else false
theorem z4A (k a b:Int) (w:World):
  CB_ 67 #[.agg #[.int .i64 k,.int .i64 a,.int .i64 b]] w (.bool (actB k a b)):=by
 go_enter Tryz.func67,Tryz.ntmps67
 go_wp2_with (go_at_call 78;refine(yS _ _ _ _).mono ?_;rintro e w' ⟨rfl,rfl⟩)
 all_goals go_ret
 all_goals refine⟨z8 ?_,by exact bel_⟩
 all_goals simp_all[actB]
theorem z5p (k a b:Int) (w:World):
  CB_ 71 #[.agg #[.int .i64 k,.int .i64 a,.int .i64 b]] w (.bool (actB k a b)):=by
 go_enter Tryz.func71,Tryz.ntmps71
 go_wp2_with (go_at_call 138;refine(qa _ _ _ _).mono ?_;rintro e w' ⟨rfl,rfl⟩)
 all_goals go_ret
 all_goals refine⟨z8 ?_,by exact bel_⟩
 all_goals simp_all[actB]
theorem JJ {β:Type} {f:Nat->Option β} {x:Nat} {L:β} (hp:∀y,y<x->f y=none) (h:f x=some L):∀n,x<n->(List.range n).findSome? f=some L
 |0,hx=>absurd hx o_
 |n+1,hx=>by
  rw[abf,List.findSome?_append]
  by_cases hn:x<n
  ·rw[JJ hp h n hn];rfl
  ·have:x=n:=o_
   subst this
   have h0:(List.range x).findSome? f=none:=by
    rw[List.findSome?_eq_none_iff];intro y hy;exact hp y (List.mem_range.1 hy)
   rw[h0];simp[h]
theorem z4h {β:Type} {f:Nat->Option β} {n:Nat} (hp:∀y,y<n->f y=none):(List.range n).findSome? f=none:=by
 rw[List.findSome?_eq_none_iff];intro y hy;exact hp y (List.mem_range.1 hy)
def srF (adj:Nat->Nat->Bool) (gv:List Int) (n r:Nat) (hd:List Int) (x:Nat):Option (List Int):=if JA gv hd.length x&&okC adj hd hd.length x then srch adj gv n r (hd++[(x:Int)]) else none
theorem z3l {adj:Nat->Nat->Bool} {gv:List Int} {n r:Nat} {hd L:List Int} {x:Nat} (hx:x<n) (hp:∀y,y<x->srF adj gv n r hd y=none) (h:srF adj gv n r hd x=some L):srch adj gv n (r+1) hd=some L:=
 JJ hp h n hx
theorem z1s {adj:Nat->Nat->Bool} {gv:List Int} {n r:Nat} {hd:List Int} (hp:∀y,y<n->srF adj gv n r hd y=none):srch adj gv n (r+1) hd=none:=
 z4h hp
theorem z8y {adj:Nat->Nat->Bool} {gv:List Int} {n r:Nat} {hd:List Int} {x:Nat} (h:okC adj hd hd.length x=false):srF adj gv n r hd x=none:=by
 unfold srF;rw[h,Bool.and_false];rfl
theorem z8U {adj:Nat->Nat->Bool} {gv:List Int} {n r:Nat} {hd:List Int} {x:Nat} (h1:JA gv hd.length x=true) (h2:okC adj hd hd.length x=true):srF adj gv n r hd x=srch adj gv n r (hd++[(x:Int)]):=by
 unfold srF;rw[h1,h2];rfl
theorem QC {f:Nat->Option (List Int)} {x:Nat} (hp:∀y,y<x->f y=none) (h:f x=none):∀y,y<x+1->f y=none:=by
 intro y hy
 by_cases e:y=x
 ·subst e;exact h
 ·exact hp y o_
def okP (adj:Nat->Nat->Bool) (hd:List Int) (k:Nat) (x:Int) (i:Nat):Bool:=(List.range i).all (fun i=> !(adj i k&&(hd.getD i 0==x)))
theorem z2V {adj:Nat->Nat->Bool} {hd:List Int} {k:Nat} {x:Int} {i:Nat}:okP adj hd k x (i+1)=(okP adj hd k x i&& !(adj i k&&(hd.getD i 0==x))):=by
 unfold okP;rw[abf,List.all_append];simp
theorem z8S {adj:Nat->Nat->Bool} {gv:List Int} {n r:Nat} {hd L:List Int} (h:srch adj gv n r hd=some L):L.length=hd.length+r:=by
 induction r generalizing hd with
 |zero=>simp only[srch,Option.some.injEq] at h;subst h;rfl
 |succ r ih=>
  rw[srch] at h;obtain⟨x,hx,hf⟩:=List.exists_of_findSome?_eq_some h
  split at hf
  ·have:=ih hf
   rw[this];simp;omega
  ·cases hf
theorem z9Z {k a b:Int} (h:actB k a b=true):(1<=k/\k<=9)/\(0<=a/\a<=40)/\0<=b/\b<=50:=by
 unfold actB at h
 split at h
 ·rename_i hk
  rw[aaI,aaO,aaO] at hk;rw[aaH,zd,zd] at h;omega
 ·split at h
  ·rename_i hk
   rw[aaO] at hk;rw[aaH,zd,zd] at h;omega
  ·split at h
   ·rename_i hk
    simp only[aaI,aaO] at hk
    rw[aaH,zd,aaO] at h;omega
   ·split at h
    ·rename_i hk
     simp only[aaI,aaO] at hk
     rw[aaH,aaO,aaO] at h;omega
    ·cases h
theorem z7O (k a b:Int) (x:Bool) (w:World) (h:actB k a b=x):
  CB_ 67 #[.agg #[.int .i64 k,.int .i64 a,.int .i64 b]] w (.bool x):=by
 subst h;exact z4A k a b w
theorem z7M (k a b:Int) (x:Bool) (w:World) (h:actB k a b=x):
  CB_ 71 #[.agg #[.int .i64 k,.int .i64 a,.int .i64 b]] w (.bool x):=by
 subst h;exact z5p k a b w
end Go.Proofs.YtnjcpljhmhdhkaaGreat
