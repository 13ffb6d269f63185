/- part 32 -/
import Derived.Test.YtnjcpljhmhdhkaaGreatTPk29
import Derived.Test.YtnjcpljhmhdhkaaGreatTPk30
import Derived.Test.YtnjcpljhmhdhkaaGreatTPk31
set_option linter.unusedSimpArgs false
set_option linter.unusedVariables false
set_option maxRecDepth 100000
set_option maxHeartbeats 8000000
namespace Go.Proofs.YtnjcpljhmhdhkaaGreat
theorem z6w {ns ls:List Pr} (hw:zf ns ls=true):∃q:Nat,j7 ns ls=q/\q<(z9 ns ls).length :=by
 have Hk:=(zL hw).1;have fZ:=(zL hw).2;have Hr:∀j:Nat,j<ls.length->zt ns (ndI ls j)=true:=fun j hj=>(Hk.2.2.2.2.2 j hj).1
 have hF:z9 ns ls=zg ns ls:=by simp[z9,hw]
 obtain⟨k,hk,ha⟩:=z84 Hr fZ;obtain⟨q,h1,h2,h3,h4⟩:=ZR ns ls (zg ns ls) (zg ns ls).length 0 ⟨k,by omega,by omega,ha⟩;exact⟨q,by unfold j7 z7B;rw[hF];exact h1,by rw[hF];omega⟩
theorem V5 {ns ls:List Pr} {q:Nat} (h:j7 ns ls=q):∀k,(facL ns ls k).length +(if q<k then 1 else 0)=k
 |0=>by simp[facL]
 |k+1=>by
  have ih:=V5 h k
  by_cases e:k=q
  ·subst e
   rw[Z1 h.symm];rw[aaq o_] at ih;rw[aao o_];omega
  ·rw[Jy (by rw[h];omega),aaW,aa8]
   by_cases e2:q<k
   ·rw[aao e2] at ih
    rw[aao o_];omega
   ·rw[aaq e2] at ih
    rw[aaq o_];omega
theorem ZT {n:Nat} {ls:List Pr} (h:(zl n ls ls.length).all (· ==0)=true) (hl:(zl n ls ls.length).length =n):∀k,k<=n->yJ n ls k=if 0<k then 1 else 0
 |0,_=>rfl
 |k+1,hk=>by
  have ih:=ZT h hl k o_
  have hz:(zl n ls ls.length).getD k 0=0:=by
   rw[aa6,aac o_];have:=List.all_eq_true.1 h _ (abg (show k<(zl n ls ls.length).length by omega))
   simpa using this
  by_cases e:k=0
  ·subst e
   rw[Zo hz,ih];rfl
  ·rw[Xi (by rw[hz];omega),ih,aao o_,aao o_]
theorem z0a {ns ls:List Pr} (hw:zf ns ls=true):jm ns ls=1:=by
 have Hk:=(zL hw).1;have h:=hw;unfold zf at h;rw[aaG,aaG] at h;unfold jm;rw[aao h.1,ZT h.2.2 (jg _ _ _) _ (aaa _),aao (show 0<ns.length from Hk.1)];rfl
theorem z7Y {ns ls:List Pr} (hw:zf ns ls=true):((z9 ns ls).length :Int) -1<=qF ns ls:=by
 have h:=hw;unfold zf at h;rw[aaG] at h;have he:=VI hw;rw[<-zK hw] at he;unfold qF qC;rw[aao h.1,z0a hw]
 split<;>omega
theorem Xd {ns ls:List Pr} (hw:zf ns ls=true):(ordW ns ls).length +1=(z9 ns ls).length :=by
 obtain⟨q,h1,h2⟩:=z6w hw;have:=V5 h1 (z9 ns ls).length;rw[aao h2] at this;unfold ordW;rw[kK];exact this
theorem z1q {ns ls:List Pr} {f:Int} (h:yi ns ls f=true):zf ns ls=true/\∃k:Nat,f=k/\k<(z9 ns ls).length /\k∈ordW ns ls:=by
 unfold yi at h;rw[aaG,aaG,aa4] at h;obtain⟨h1,_,h3⟩:=h
 cases Gg:inB f 0 (((z9 ns ls).length :Int) -1)
 ·rw[kF Gg] at h1;simp at h1
 ·obtain⟨k,rfl⟩:∃k:Nat,f=k:=⟨f.toNat,by have:=zc.1 Gg;omega⟩
  have hk:k<(z9 ns ls).length :=by have:=zc.1 Gg;omega
  have hw:zf ns ls=true:=by
   cases hq:zf ns ls
   ·unfold z9 at hk;rw[hq] at hk;simp at hk
   ·rfl
  refine⟨hw,k,rfl,hk,?_⟩
  unfold ordW;rw[QY];unfold facL;rw[List.mem_filter,aaM];exact⟨hk,by simpa using h3⟩
theorem z8N {ns ls:List Pr} (hw:zf ns ls=true) {f:Nat} (hf:f∈ordW ns ls):1<=numN ns ls f/\numN ns ls f<=qF ns ls:=by
 unfold numN idxN;rw[aao hf];have:=z7Y hw;have:=abt hf;have:=Xd hw;omega
theorem z2t {l:List Dp}:qn l=true↔l.length<=40/\(∀d∈l,inB d.k 1 200=true/\inB d.a 1 50=true/\inB d.b 0 9999=true)/\l.Pairwise (fun d e=>d.b<=e.b/\d.k≠e.k):=by
 rw[ym]
 have r6:∀i,i<l.length->(depB l i=true↔(inB (dpI l i).k 1 200=true/\inB (dpI l i).a 1 50=true/\inB (dpI l i).b 0 9999=true)/\(i=0∨(dpI l (i -1)).b <=(dpI l i).b)/\∀j,j<i->¬(dpI l j).k =(dpI l i).k):=by
  intro i hi;unfold depB qB;simp only[aaG,aaH,aa4,aaL,aaM]
  constructor
  ·rintro⟨a,b,c,d,e⟩;exact⟨⟨a,b,c⟩,d,e⟩
  ·rintro⟨⟨a,b,c⟩,d,e⟩;exact⟨a,b,c,d,e⟩
 constructor
 ·rintro⟨h1,h2⟩
  refine⟨h1,?_,?_⟩
  ·intro d hd
   obtain⟨i,hi,e⟩:=aba hd;have:=((r6 i hi).1 (h2 i hi)).1;rw[y6 hi,e] at this;exact this
  ·rw[aa7]
   have mono:∀k i,i+k<l.length->(dpI l i).b <=(dpI l (i+k)).b :=by
    intro k
    induction k with
    |zero=>intro i _;exact Int.le_refl _
    |succ k ih=>
     intro i Rx;have h3:=ih i o_;have h4:=((r6 (i+(k+1)) Rx).1 (h2 _ Rx)).2.1
     have h5:(dpI l (i+k)).b <=(dpI l (i+(k+1))).b :=by
      rcases h4 with h4|h4
      ·omega
      ·rw[show i+(k+1) -1=i+k by omega] at h4;exact h4
     omega
   intro i j hi hj MV;have h6:=mono (j -i) i o_;have h7:=((r6 j hj).1 (h2 j hj)).2.2 i MV;rw[show i+(j -i)=j by omega,y6 hi,y6 hj] at h6;rw[y6 hi,y6 hj] at h7;exact⟨h6,h7⟩
 ·rintro⟨h1,h2,h3⟩
  rw[aa7] at h3;refine⟨h1,fun i hi=>?_⟩
  rw[r6 i hi];refine⟨?_,?_,?_⟩
  ·rw[y6 hi];exact h2 _ (abg hi)
  ·by_cases e:i=0
   ·exact .inl e
   ·right
    rw[y6 hi,y6 (show i -1<l.length by omega)];exact(h3 (i -1) i o_ hi o_).1
  ·intro j hj
   rw[y6 hi,y6 (show j<l.length by omega)];exact(h3 j i o_ hi hj).2
theorem z6X {l m:List Dp} (h:qn l=true) (hs:List.Sublist m l):qn m=true:=by
 rw[z2t] at h⊢;obtain⟨h1,h2,h3⟩:=h;exact⟨aai hs.length_le h1,fun d hd=>h2 d (hs.subset hd),h3.sublist hs⟩
theorem z8j (l:List Dp) (x:Int):List.Sublist (tkL l x) l:=by
 unfold tkL
 split
 ·have e:l.take (tkI l x).toNat ++l.drop (tkI l x).toNat =l:=abo _ _
  have h1:List.Sublist (l.drop ((tkI l x).toNat +1)) (l.drop (tkI l x).toNat):=by
   exact List.drop_sublist_drop_left _ (Nat.le_succ _)
  have h2:=(List.Sublist.refl (l.take (tkI l x).toNat)).append h1;rw[e] at h2;exact h2
 ·exact List.Sublist.refl _
theorem jp {S:St}:ze S=true↔okD S.D=true/\qn S.ds=true/\inB S.fund 0 1000000=true/\(S.cs.length=0∨q7 S.D.nn S.D.nl S.cs=true)/\(S.ds.length=0∨zf S.D.nn S.D.nl=true)/\∀d∈S.ds,d.k<=qF S.D.nn S.D.nl:=by
 unfold ze;simp only[aaG,aaH,aa4,aaL]
noncomputable def colB (S:St) (n:Int):Bool:=ze S&&(yd S.D.nn S.D.nl n).isSome
noncomputable def colS (S:St) (n:Int):St:=if colB S n=true then⟨S.D,(yd S.D.nn S.D.nl n).getD [],S.ds,S.fund⟩ else S
noncomputable def swpB (S:St) (f x:Int):Bool:=ze S&&vx S.D.nn S.D.nl S.cs f x
noncomputable def swpS (S:St) (f x:Int):St:=if swpB S f x=true then⟨S.D,vv S.D.nn S.D.nl S.cs f x,S.ds,S.fund⟩ else S
def adpB (l:List Dp) (d:Dp):Bool:=qn l&&qn (l++[d])
def adpL (l:List Dp) (d:Dp):List Dp:=if adpB l d=true then l++[d] else l
def dayN (l:List Dp):Int:=if l.length=0 then 0 else(dpI l (l.length -1)).b +1
noncomputable def z8b (S:St) (f c:Int):Dp:=⟨numN S.D.nn S.D.nl f.toNat,c,dayN S.ds⟩
noncomputable def stoB (S:St) (f c:Int):Bool:=ze S&&(yi S.D.nn S.D.nl f&&adpB S.ds (z8b S f c))
noncomputable def stoS (S:St) (f c:Int):St:=if stoB S f c=true then⟨S.D,S.cs,S.ds++[z8b S f c],S.fund⟩ else S
theorem z7N {S:St} (n:Int) (h:ze S=true):ze (colS S n)=true:=by
 unfold colS
 split
 ·rename_i hc
  unfold colB at hc;rw[aaG,Option.isSome_iff_exists] at hc;obtain⟨_,L,hL⟩:=hc;have hp:=z1O hL;rw[hL];rw[jp] at h⊢;exact⟨h.1,h.2.1,h.2.2.1,.inr hp,h.2.2.2.2⟩
 ·exact h
theorem z9S {S:St} (f x:Int) (h:ze S=true):ze (swpS S f x)=true:=by
 unfold swpS
 split
 ·rename_i hc
  unfold swpB at hc;rw[aaG] at hc;have hp:=z3h hc.2;rw[jp] at h⊢;exact⟨h.1,h.2.1,h.2.2.1,.inr hp,h.2.2.2.2⟩
 ·exact h
theorem z87 {S:St} (f c:Int) (h:ze S=true):ze (stoS S f c)=true:=by
 unfold stoS
 split
 ·rename_i hc
  unfold stoB adpB at hc;rw[aaG,aaG,aaG] at hc;obtain⟨_,hp,_,hd⟩:=hc;obtain⟨hw,k,rfl,hk,hm⟩:=z1q hp;have hb:=z8N hw hm;rw[jp] at h⊢;refine⟨h.1,hd,h.2.2.1,h.2.2.2.1,.inr hw,fun d hd=>?_⟩
  rw[aaI,aa9] at hd
  rcases hd with hd|rfl
  ·exact h.2.2.2.2.2 d hd
  ·exact hb.2
 ·exact h
theorem z9L {S:St} (x:Int) (h:ze S=true):ze (yc S x)=true:=by
 unfold yc
 split
 ·rw[jp] at h⊢
  have hs:=z8j S.ds x;refine⟨h.1,z6X h.2.1 hs,h.2.2.1,h.2.2.2.1,?_,fun d hd=>h.2.2.2.2.2 d (hs.subset hd)⟩
  rcases h.2.2.2.2.1 with h1|h1
  ·left
   have:=hs.length_le
   show(tkL S.ds x).length =0
   omega
  ·exact .inr h1
 ·exact h
theorem z9U {S:St} (k a b:Int) (h:ze S=true):ze (chgS S k a b)=true:=by
 unfold chgS
 split
 ·rename_i hc
  unfold chgB at hc;simp only[aaG,aa4] at hc
  rw[z1S k a b h]
  simpa using hc.2.2.2
 ·exact h
theorem z9r {S:St} (h:ze S=true):ze (jk S)=true:=by
 unfold jk
 split
 ·rw[jp] at h⊢
  refine⟨z6S h.1,rfl,h.2.2.1,.inl rfl,.inl rfl,fun d hd=>?_⟩
  simp at hd
 ·exact h
theorem z1A {S:St} {x:Int} (h:ze S=false∨(yd S.D.nn S.D.nl x).isSome =false):colS S x=S/\colB S x=false:=by
 have hb:colB S x=false:=by
  unfold colB
  rcases h with h|h<;>simp[h]
 exact⟨by unfold colS;rw[hb];rfl,hb⟩
theorem z54 {S:St} {x:Int} (h1:ze S=true) (h2:(yd S.D.nn S.D.nl x).isSome =true):colS S x=⟨S.D,(yd S.D.nn S.D.nl x).getD [],S.ds,S.fund⟩/\colB S x=true:=by
 have hb:colB S x=true:=by unfold colB;rw[h1,h2];rfl
 exact⟨by unfold colS;rw[hb];rfl,hb⟩
theorem z0P {S:St} {x y:Int} (h:ze S=false∨vx S.D.nn S.D.nl S.cs x y=false):swpS S x y=S/\swpB S x y=false:=by
 have hb:swpB S x y=false:=by
  unfold swpB
  rcases h with h|h<;>simp[h]
 exact⟨by unfold swpS;rw[hb];rfl,hb⟩
theorem z51 {S:St} {x y:Int} (h1:ze S=true) (h2:vx S.D.nn S.D.nl S.cs x y=true):swpS S x y=⟨S.D,vv S.D.nn S.D.nl S.cs x y,S.ds,S.fund⟩/\swpB S x y=true:=by
 have hb:swpB S x y=true:=by unfold swpB;rw[h1,h2];rfl
 exact⟨by unfold swpS;rw[hb];rfl,hb⟩
open Go.RowKit
theorem z5L {ns ls:List Pr} (hw:zf ns ls=false):ordW ns ls=[]:=by
 have hF:z9 ns ls=[]:=by unfold z9;rw[hw];rfl
 unfold ordW ordL facL;rw[hF];rfl
theorem z8o {ns ls:List Pr} (hw:zf ns ls=true):(facL ns ls (z9 ns ls).length).length <20:=by
 have h1:=Xd hw;unfold ordW at h1;rw[kK] at h1;have h2:=VI hw;rw[<-zK hw] at h2;obtain⟨W,hl⟩:=zL hw;have h3:=W.2.2.1;have h4:=W.1
 have h5:2<=ns.length:=by
  obtain⟨a,b,c,_⟩:=zZ.1 ((W.2.2.2.2.2 0 hl).1);omega
 omega
theorem z9C:Enters Tryz.prog 151:=enters_of Tryz.func151 k_ rfl
theorem VS (vn vl:Value) (ns ls:List Pr) (w:World) (hn:RP w vn ns) (hl:RP w vl ls):
  Calls Tryz.prog 86 #[.agg #[vn,vl]] w (RetI (natI (ordW ns ls)) w):=by
 have Hi:Below w.heap.size w (w.alloc (.cells #[vn,vl] 27)):=bel_
 have gE:Blk (w.alloc (.cells #[vn,vl] 27)) w.heap.size 27 #[vn,vl]:=Blk.newAt rfl
 cases hq:zf ns ls
 ·have HR:=h_ (z5L hq)
  go_enter Tryz.func86,Tryz.ntmps86
  go_wp2_with fail
  refine(j8 _ _ ns ls _ _ (hn.below Hi) (hl.below Hi) hq).mono ?_
  rintro e w1 ⟨rfl,Hb⟩;have Ha:=Hi.trans (Hb.mono Hi.size);go_wp2;go_ret
  exact⟨_,rfl,by rw[HR.out];exact OwnI.nil _ _,Ha⟩
 ·have h20:=z8o hq
  have fK:=zD ns ls;have HR:Hid (ordW ns ls=isoK (ltR ns ls) (facL ns ls (z9 ns ls).length) (facL ns ls (z9 ns ls).length).length):=h_ rfl;have r1:=h_ (fun k h=>Z1 (ns:=ns) (ls:=ls) (k:=k) h);have r7:=h_ (fun k h=>Jy (ns:=ns) (ls:=ls) (k:=k) h);have nS:=h_ (fun k=>xN ns ls k);have U5:Hid (facL ns ls 0=[]):=h_ rfl;have Y8:=h_ (j8 vn vl ns ls _ _ (hn.below Hi) (hl.below Hi) hq);have Wl:=h_ (fun (v:World) (hb:Below w.heap.size w v)=>VP vn vl ns ls v (hn.below hb) (hl.below hb));have bm:=h_ (fun (v:World) (hb:Below w.heap.size w v)=>jS vn vl ns ls v (hn.below hb) (hl.below hb));generalize j7 ns ls=o at*
  go_enter Tryz.func86,Tryz.ntmps86
  go_wp2_with fail
  refine Y8.out.mono ?_
  rintro e w1 ⟨rfl,Hb⟩;have Ha:=Hi.trans (Hb.mono Hi.size);have gc:=gE.below Hb gE.lt;obtain⟨a_0,a_1⟩:=gc.c2
  go_wp2_with fail
  refine(Wl.out _ Ha).mono ?_
  rintro e w2 ⟨rfl,Hh⟩;have Hc:=Ha.trans (Hh.mono Ha.size);have gX:=gc.below Hh gc.lt;obtain⟨a_0,a_1⟩:=gX.c2
  go_wp2_with fail
  refine(bm.out _ Hc).mono ?_
  rintro e w3 ⟨v3,rfl,Hq,Hg⟩;obtain⟨A3,c3,rfl⟩:=Hq.form;have He:=Hc.trans (Hg.mono Hc.size);have Gz:=gX.below Hg gX.lt;have C8:OwnI (w.heap.size+1) w3 (.slice none 0 0) (natI (facL ns ls 0)):=by rw[U5.out];exact OwnI.nil _ _
  generalize (z9 ns ls).length =F at*;go_wp2
  go_loopw [4,14] (fun v t wr=>∃k:Nat,k<=F/\t= .int .i64 k/\OwnI (w.heap.size+1) wr v (natI (facL ns ls k))/\Hid ((facL ns ls k).length =0->v= .slice none 0 0)/\Blk wr w.heap.size 27 #[vn,vl]/\Below w.heap.size w wr) (fun _ t _=>F -(intOf t).toNat)
  case atStart=>exact⟨0,aab _,rfl,C8,h_ (fun _=>rfl),Gz,He⟩
  case round=>
   obtain⟨k,hk,rfl,ho,HNV,hW,hB⟩:=hrel;have gI:=hW.lt;have hgl:=nS.out k
   by_cases Hf:k<F
   ·have Hu:(k:Int)<(F:Int):=o_
    by_cases NC:(k:Int)=o
    ·have e1:((k:Int)==o)=true:=beq_iff_eq.2 NC
     have e2:((k:Int) != o)=false:=by rw[bne,e1];rfl
     have HX:=h_ (r1.out k NC);go_wp2;go_roundw
     case rel=>exact⟨k+1,by omega,by go_num,by rw[HX.out];exact ho,by rw[HX.out];exact HNV,hW,hB⟩
     case measure=>simp[intOf];omega
    ·have e1:((k:Int)==o)=false:=beq_eq_false_iff_ne.2 NC
     have e2:((k:Int) != o)=true:=by rw[bne,e1];rfl
     have HX:=h_ (r7.out k NC);generalize facL ns ls k=G at*
     go_wp2_with (at_builtin;refine qi rfl _ _ rfl (w.heap.size+1) _ (natI G) (k:Int) rfl wr.heap.size rfl (j9 rfl) (ho.alloc _) (by rw[za];omega) (by simp;omega) ?_)
     intro v7 w7 FV Fp _;have HW:=h_ (show Blk w7 w.heap.size 27 #[vn,vl] from(Fp.block w.heap.size (by simp;omega) (fun e=>by have:=(ho.lt _ e.symm).1;omega)).trans (hW.alloc _));have HB:=h_ ((hB.alloc hB.size (.cells #[.int .i64 k] 3)).grown Fp (by simp;omega) (fun q hq=>by have:=(ho.lt q hq).1;omega));have HO:Hid (OwnI (w.heap.size+1) w7 v7 (natI (facL ns ls (k+1)))):=h_ (by rw[HX.out];simpa[natI] using FV);have Ry:Hid ((facL ns ls (k+1)).length =0->v7= .slice none 0 0):=h_ (fun h=>by rw[HX.out] at h;simp at h);go_wp2;go_roundw
     case rel=>exact⟨k+1,by omega,by go_num,HO.out,Ry,HW.out,HB.out⟩
     case measure=>simp[intOf];omega
   ·have gn:k=F:=o_
    subst gn;have RX:=h_ HR.out
    by_cases h0:(facL ns ls k).length =0
    ·have MH:facL ns ls k=[]:=abx h0
     have e0:=HNV.out h0;subst e0
     go_wp2_with fail
     refine(Vq _ _ _).mono ?_
     rintro e w5 ⟨rfl,gk⟩;have HB:=h_ (hB.trans (gk.mono hB.size));go_wp2;go_ret
     exact⟨_,rfl,by rw[RX.out,MH];exact OwnI.nil _ _,HB.out⟩
    ·have hG:=h_ ho
     obtain⟨g,c,rfl,y9,Fn,ug,_⟩:=OwnI.blk ho (by rw[za];omega);rw[za] at y9 ho⊢
     have hCA:Jc 151 #[.pointer (some ⟨w.heap.size,0,none⟩)] (facL ns ls k) (cmpR ns ls) (some g) wr:=by
      intro v d e _ _ hg;have RY:Below w.heap.size w v:=hB.grown hg hB.size (fun q hq=>by cases hq;omega);exact z5s w.heap.size vn vl ns ls d e v ((hg.block w.heap.size gI (fun e=>by cases e;omega)).trans hW) (hn.below RY) (hl.below RY)
     have HS:=h_ (Vg (w.heap.size+1) 151 g c #[.pointer (some ⟨w.heap.size,0,none⟩)] (facL ns ls k) (cmpR ns ls) (ltR ns ls) wr hCA (fun _ _=>rfl) ho h20 z9C);have HB:=h_ hB
     go_wp2_with fail
     refine HS.out.mono ?_
     rintro e w5 ⟨rfl,fk,Cb⟩;have FE:=h_ (HB.out.grown Cb HB.out.size (fun q hq=>by cases hq;omega));have C7:=h_ (OwnI.mono fk (show w.heap.size<=w.heap.size+1 by omega));go_wp2;go_ret
     exact⟨_,rfl,by rw[RX.out];exact C7.out,FE.out⟩
theorem z2o (vn vl:Value) (ns ls:List Pr) (f:Nat) (w:World) (hn:RP w vn ns) (hl:RP w vl ls):
  CB_ 23 #[.agg #[vn,vl],.int .i64 f] w (.int .i64 (numN ns ls f)):=by
 have Hi:Below w.heap.size w (w.alloc (.cells #[vn,vl] 27)):=bel_
 have HR:Hid (numN ns ls f=idxN (ordW ns ls) f+1):=h_ rfl
 have uJ:(ordW ns ls).length <=40:=by
  unfold ordW;rw[kK];have:=xN ns ls (z9 ns ls).length;have:=zD ns ls;omega
 have hix: -1<=idxN (ordW ns ls) f/\idxN (ordW ns ls) f<=40:=by
  unfold idxN
  split
  ·rename_i h
   have:=abt h;omega
  ·omega
 go_enter Tryz.func23,Tryz.ntmps23
 go_wp2_with fail
 refine(VS _ _ ns ls _ (hn.below Hi) (hl.below Hi)).mono ?_
 rintro e w1 ⟨v1,rfl,Hj,Hb⟩;have Ha:=Hi.trans (Hb.mono Hi.size);have Mk:=Hj.reads
 go_wp2_with fail
 refine(Zh _ (ordW ns ls) f _ Mk).mono ?_
 rintro e w2 ⟨rfl,rfl⟩;go_wp2;go_ret
 exact⟨zi (by rw[HR.out]),Ha⟩
end Go.Proofs.YtnjcpljhmhdhkaaGreat
