/- part 29 -/
import Derived.Test.YtnjcpljhmhdhkaaGreatEPk26
import Derived.Test.YtnjcpljhmhdhkaaGreatEPk28
set_option linter.unusedSimpArgs false
set_option linter.unusedVariables false
set_option maxRecDepth 100000
set_option maxHeartbeats 8000000
namespace Go.Proofs.YtnjcpljhmhdhkaaGreat
theorem z66 {ns ls:List Pr} (hw:ze ns ls=true):∃q:Nat,jd ns ls=q/\q<(z9 ns ls).length :=by
 have Hh:=(zM hw).1;have fv:=(zM hw).2;have Ho:∀j:Nat,j<ls.length->zv ns (ndI ls j)=true:=fun j hj=>(Hh.2.2.2.2.2 j hj).1
 have hF:z9 ns ls=zg ns ls:=by simp[z9,hw]
 obtain⟨k,hk,ha⟩:=z5X Ho fv;obtain⟨q,h1,h2,h3,h4⟩:=ZI ns ls (zg ns ls) (zg ns ls).length 0 ⟨k,by omega,by omega,ha⟩;exact⟨q,by unfold jd z6h;rw[hF];exact h1,by rw[hF];omega⟩
theorem JQ {ns ls:List Pr} {q:Nat} (h:jd ns ls=q):∀k,(facL ns ls k).length +(if q<k then 1 else 0)=k
 |0=>by simp[facL]
 |k+1=>by
  have ih:=JQ h k
  by_cases e:k=q
  ·subst e
   rw[QH h.symm];rw[aaq o_] at ih;rw[aao o_];omega
  ·rw[J9 (by rw[h];omega),aaW,aa8]
   by_cases e2:q<k
   ·rw[aao e2] at ih
    rw[aao o_];omega
   ·rw[aaq e2] at ih
    rw[aaq o_];omega
theorem ZO {n:Nat} {ls:List Pr} (h:(zm n ls ls.length).all (· ==0)=true) (hl:(zm n ls ls.length).length =n):∀k,k<=n->yx n ls k=if 0<k then 1 else 0
 |0,_=>rfl
 |k+1,hk=>by
  have ih:=ZO h hl k o_
  have hz:(zm n ls ls.length).getD k 0=0:=by
   rw[aa6,aac o_];have:=List.all_eq_true.1 h _ (abg (show k<(zm n ls ls.length).length by omega))
   simpa using this
  by_cases e:k=0
  ·subst e
   rw[QX hz,ih];rfl
  ·rw[JS (by rw[hz];omega),ih,aao o_,aao o_]
theorem z4C {ns ls:List Pr} (hw:ze ns ls=true):jl ns ls=1:=by
 have Hh:=(zM hw).1;have h:=hw;unfold ze at h;rw[aaG,aaG] at h;unfold jl;rw[aao h.1,ZO h.2.2 (jc _ _ _) _ (aaa _),aao (show 0<ns.length from Hh.1)];rfl
theorem zd9 {ns ls:List Pr} (hw:ze ns ls=true):((z9 ns ls).length :Int) -1<=jD ns ls:=by
 have h:=hw;unfold ze at h;rw[aaG] at h;have he:=z5K hw;rw[<-zW hw] at he;unfold jD qD;rw[aao h.1,z4C hw]
 split<;>omega
theorem z1E {ns ls:List Pr} (hw:ze ns ls=true):(ordW ns ls).length +1=(z9 ns ls).length :=by
 obtain⟨q,h1,h2⟩:=z66 hw;have:=JQ h1 (z9 ns ls).length;rw[aao h2] at this;unfold ordW;rw[x9];exact this
theorem z0Y {ns ls:List Pr} {f:Int} (h:yc ns ls f=true):ze ns ls=true/\∃k:Nat,f=k/\k<(z9 ns ls).length /\k∈ordW ns ls:=by
 unfold yc at h;rw[aaG,aaG,aa4] at h;obtain⟨h1,_,h3⟩:=h
 cases Gi:inB f 0 (((z9 ns ls).length :Int) -1)
 ·rw[ke Gi] at h1;simp at h1
 ·obtain⟨k,rfl⟩:∃k:Nat,f=k:=⟨f.toNat,by have:=zf.1 Gi;omega⟩
  have hk:k<(z9 ns ls).length :=by have:=zf.1 Gi;omega
  have hw:ze ns ls=true:=by
   cases hq:ze ns ls
   ·unfold z9 at hk;rw[hq] at hk;simp at hk
   ·rfl
  refine⟨hw,k,rfl,hk,?_⟩
  unfold ordW;rw[JX];unfold facL;rw[List.mem_filter,aaM];exact⟨hk,by simpa using h3⟩
theorem z8l {ns ls:List Pr} (hw:ze ns ls=true) {f:Nat} (hf:f∈ordW ns ls):1<=numN ns ls f/\numN ns ls f<=jD ns ls:=by
 unfold numN idxN;rw[aao hf];have:=zd9 hw;have:=abt hf;have:=z1E hw;omega
theorem z6u {l:List Dp}:qB l=true↔l.length<=40/\(∀d∈l,inB d.k 1 200=true/\inB d.a 1 50=true/\inB d.b 0 9999=true)/\l.Pairwise (fun d e=>d.b<=e.b/\d.k≠e.k):=by
 rw[yD]
 have NW:∀i,i<l.length->(depB l i=true↔(inB (dpI l i).k 1 200=true/\inB (dpI l i).a 1 50=true/\inB (dpI l i).b 0 9999=true)/\(i=0∨(dpI l (i -1)).b <=(dpI l i).b)/\∀j,j<i->¬(dpI l j).k =(dpI l i).k):=by
  intro i hi;unfold depB qv;simp only[aaG,aaH,aa4,aaL,aaM]
  constructor
  ·rintro⟨a,b,c,d,e⟩;exact⟨⟨a,b,c⟩,d,e⟩
  ·rintro⟨⟨a,b,c⟩,d,e⟩;exact⟨a,b,c,d,e⟩
 constructor
 ·rintro⟨h1,h2⟩
  refine⟨h1,?_,?_⟩
  ·intro d hd
   obtain⟨i,hi,e⟩:=aba hd;have:=((NW i hi).1 (h2 i hi)).1;rw[jW hi,e] at this;exact this
  ·rw[aa7]
   have mono:∀k i,i+k<l.length->(dpI l i).b <=(dpI l (i+k)).b :=by
    intro k
    induction k with
    |zero=>intro i _;exact Int.le_refl _
    |succ k ih=>
     intro i RE;have h3:=ih i o_;have h4:=((NW (i+(k+1)) RE).1 (h2 _ RE)).2.1
     have h5:(dpI l (i+k)).b <=(dpI l (i+(k+1))).b :=by
      rcases h4 with h4|h4
      ·omega
      ·rw[show i+(k+1) -1=i+k by omega] at h4;exact h4
     omega
   intro i j hi hj m5;have h6:=mono (j -i) i o_;have h7:=((NW j hj).1 (h2 j hj)).2.2 i m5;rw[show i+(j -i)=j by omega,jW hi,jW hj] at h6;rw[jW hi,jW hj] at h7;exact⟨h6,h7⟩
 ·rintro⟨h1,h2,h3⟩
  rw[aa7] at h3;refine⟨h1,fun i hi=>?_⟩
  rw[NW i hi];refine⟨?_,?_,?_⟩
  ·rw[jW hi];exact h2 _ (abg hi)
  ·by_cases e:i=0
   ·exact .inl e
   ·right
    rw[jW hi,jW (show i -1<l.length by omega)];exact(h3 (i -1) i o_ hi o_).1
  ·intro j hj
   rw[jW hi,jW (show j<l.length by omega)];exact(h3 j i o_ hi hj).2
theorem z5P {l m:List Dp} (h:qB l=true) (hs:List.Sublist m l):qB m=true:=by
 rw[z6u] at h⊢;obtain⟨h1,h2,h3⟩:=h;exact⟨aai hs.length_le h1,fun d hd=>h2 d (hs.subset hd),h3.sublist hs⟩
theorem z8u (l:List Dp) (x:Int):List.Sublist (tkL l x) l:=by
 unfold tkL
 split
 ·have e:l.take (tkI l x).toNat ++l.drop (tkI l x).toNat =l:=abo _ _
  have h1:List.Sublist (l.drop ((tkI l x).toNat +1)) (l.drop (tkI l x).toNat):=by
   exact List.drop_sublist_drop_left _ (Nat.le_succ _)
  have h2:=(List.Sublist.refl (l.take (tkI l x).toNat)).append h1;rw[e] at h2;exact h2
 ·exact List.Sublist.refl _
theorem yR {S:St}:zd S=true↔okD S.D=true/\qB S.ds=true/\inB S.fund 0 1000000=true/\(S.cs.length=0∨qf S.D.nn S.D.nl S.cs=true)/\(S.ds.length=0∨ze S.D.nn S.D.nl=true)/\∀d∈S.ds,d.k<=jD S.D.nn S.D.nl:=by
 unfold zd;simp only[aaG,aaH,aa4,aaL]
noncomputable def colB (S:St) (n:Int):Bool:=zd S&&(jZ S.D.nn S.D.nl n).isSome
noncomputable def colS (S:St) (n:Int):St:=if colB S n=true then⟨S.D,(jZ S.D.nn S.D.nl n).getD [],S.ds,S.fund⟩ else S
noncomputable def swpB (S:St) (f x:Int):Bool:=zd S&&vU S.D.nn S.D.nl S.cs f x
noncomputable def swpS (S:St) (f x:Int):St:=if swpB S f x=true then⟨S.D,vQ S.D.nn S.D.nl S.cs f x,S.ds,S.fund⟩ else S
def adpB (l:List Dp) (d:Dp):Bool:=qB l&&qB (l++[d])
def adpL (l:List Dp) (d:Dp):List Dp:=if adpB l d=true then l++[d] else l
def dayN (l:List Dp):Int:=if l.length=0 then 0 else(dpI l (l.length -1)).b +1
noncomputable def z6e (S:St) (f c:Int):Dp:=⟨numN S.D.nn S.D.nl f.toNat,c,dayN S.ds⟩
noncomputable def stoB (S:St) (f c:Int):Bool:=zd S&&(yc S.D.nn S.D.nl f&&adpB S.ds (z6e S f c))
noncomputable def stoS (S:St) (f c:Int):St:=if stoB S f c=true then⟨S.D,S.cs,S.ds++[z6e S f c],S.fund⟩ else S
theorem z74 {S:St} (n:Int) (h:zd S=true):zd (colS S n)=true:=by
 unfold colS
 split
 ·rename_i hc
  unfold colB at hc;rw[aaG,Option.isSome_iff_exists] at hc;obtain⟨_,L,hL⟩:=hc;have hp:=z0v hL;rw[hL];rw[yR] at h⊢;exact⟨h.1,h.2.1,h.2.2.1,.inr hp,h.2.2.2.2⟩
 ·exact h
theorem z93 {S:St} (f x:Int) (h:zd S=true):zd (swpS S f x)=true:=by
 unfold swpS
 split
 ·rename_i hc
  unfold swpB at hc;rw[aaG] at hc;have hp:=z1D hc.2;rw[yR] at h⊢;exact⟨h.1,h.2.1,h.2.2.1,.inr hp,h.2.2.2.2⟩
 ·exact h
theorem z6x {S:St} (f c:Int) (h:zd S=true):zd (stoS S f c)=true:=by
 unfold stoS
 split
 ·rename_i hc
  unfold stoB adpB at hc;rw[aaG,aaG,aaG] at hc;obtain⟨_,hp,_,hd⟩:=hc;obtain⟨hw,k,rfl,hk,hm⟩:=z0Y hp;have hb:=z8l hw hm;rw[yR] at h⊢;refine⟨h.1,hd,h.2.2.1,h.2.2.2.1,.inr hw,fun d hd=>?_⟩
  rw[aaI,aa9] at hd
  rcases hd with hd|rfl
  ·exact h.2.2.2.2.2 d hd
  ·exact hb.2
 ·exact h
theorem z8S {S:St} (x:Int) (h:zd S=true):zd (vH S x)=true:=by
 unfold vH
 split
 ·rw[yR] at h⊢
  have hs:=z8u S.ds x;refine⟨h.1,z5P h.2.1 hs,h.2.2.1,h.2.2.2.1,?_,fun d hd=>h.2.2.2.2.2 d (hs.subset hd)⟩
  rcases h.2.2.2.2.1 with h1|h1
  ·left
   have h2:S.ds.length=0:=h1;have:=hs.length_le
   show(tkL S.ds x).length =0
   omega
  ·exact .inr h1
 ·exact h
theorem z8R {S:St} (k a b:Int) (h:zd S=true):zd (chgS S k a b)=true:=by
 unfold chgS
 split
 ·rename_i hc
  unfold chgB at hc;simp only[aaG,aa4] at hc
  rw[z1g k a b h]
  simpa using hc.2.2.2
 ·exact h
theorem z90 {S:St} (h:zd S=true):zd (yu S)=true:=by
 unfold yu
 split
 ·rw[yR] at h⊢
  refine⟨z75 h.1,rfl,h.2.2.1,.inl rfl,.inl rfl,fun d hd=>?_⟩
  simp at hd
 ·exact h
theorem z13 {S:St} {x:Int} (h:zd S=false∨(jZ S.D.nn S.D.nl x).isSome =false):colS S x=S/\colB S x=false:=by
 have hb:colB S x=false:=by
  unfold colB
  rcases h with h|h<;>simp[h]
 exact⟨by unfold colS;rw[hb];rfl,hb⟩
theorem z3S {S:St} {x:Int} (h1:zd S=true) (h2:(jZ S.D.nn S.D.nl x).isSome =true):colS S x=⟨S.D,(jZ S.D.nn S.D.nl x).getD [],S.ds,S.fund⟩/\colB S x=true:=by
 have hb:colB S x=true:=by unfold colB;rw[h1,h2];rfl
 exact⟨by unfold colS;rw[hb];rfl,hb⟩
theorem z5J {S:St} {x y:Int} (h:zd S=false∨vU S.D.nn S.D.nl S.cs x y=false):swpS S x y=S/\swpB S x y=false:=by
 have hb:swpB S x y=false:=by
  unfold swpB
  rcases h with h|h<;>simp[h]
 exact⟨by unfold swpS;rw[hb];rfl,hb⟩
theorem z7T {S:St} {x y:Int} (h1:zd S=true) (h2:vU S.D.nn S.D.nl S.cs x y=true):swpS S x y=⟨S.D,vQ S.D.nn S.D.nl S.cs x y,S.ds,S.fund⟩/\swpB S x y=true:=by
 have hb:swpB S x y=true:=by unfold swpB;rw[h1,h2];rfl
 exact⟨by unfold swpS;rw[hb];rfl,hb⟩
open Go.RowKit
theorem z4z {ns ls:List Pr} (hw:ze ns ls=false):ordW ns ls=[]:=by
 have hF:z9 ns ls=[]:=by unfold z9;rw[hw];rfl
 unfold ordW ordL facL;rw[hF];rfl
theorem z8k {ns ls:List Pr} (hw:ze ns ls=true):(facL ns ls (z9 ns ls).length).length <20:=by
 have h1:=z1E hw;unfold ordW at h1;rw[x9] at h1;have h2:=z5K hw;rw[<-zW hw] at h2;obtain⟨W,hl⟩:=zM hw;have h3:=W.2.2.1;have h4:=W.1
 have h5:2<=ns.length:=by
  obtain⟨a,b,c,_⟩:=zZ.1 ((W.2.2.2.2.2 0 hl).1);omega
 omega
theorem z8I:Enters Tryz.prog 151:=enters_of Tryz.func151 k_ rfl
theorem z3e (vn vl:Value) (ns ls:List Pr) (w:World) (hn:RP w vn ns) (hl:RP w vl ls):
  Calls Tryz.prog 86 #[.agg #[vn,vl]] w (RetI (natI (ordW ns ls)) w):=by
 have Hg:Below w.heap.size w (w.alloc (.cells #[vn,vl] 27)):=bel_
 have gy:Blk (w.alloc (.cells #[vn,vl] 27)) w.heap.size 27 #[vn,vl]:=Blk.newAt rfl
 cases hq:ze ns ls
 ·have HR:=h_ (z4z hq)
  go_enter Tryz.func86,Tryz.ntmps86
  go_wp2_with fail
  refine(j8 _ _ ns ls _ _ (hn.below Hg) (hl.below Hg) hq).mono ?_
  rintro e w1 ⟨rfl,h9⟩;have h8:=Hg.trans (h9.mono Hg.size);go_wp2;go_ret
  exact⟨_,rfl,by rw[HR.out];exact OwnI.nil _ _,h8⟩
 ·have YX:=z8k hq
  have fc:=zJ ns ls;have HR:Hid (ordW ns ls=isoK (ltR ns ls) (facL ns ls (z9 ns ls).length) (facL ns ls (z9 ns ls).length).length):=h_ rfl;have NX:=h_ (fun k h=>QH (ns:=ns) (ls:=ls) (k:=k) h);have WC:=h_ (fun k h=>J9 (ns:=ns) (ls:=ls) (k:=k) h);have Nt:=h_ (fun k=>Qz ns ls k);have uj:Hid (facL ns ls 0=[]):=h_ rfl;have Wt:=h_ (j8 vn vl ns ls _ _ (hn.below Hg) (hl.below Hg) hq);have UC:=h_ (fun (v:World) (hb:Below w.heap.size w v)=>V2 vn vl ns ls v (hn.below hb) (hl.below hb));have Ck:=h_ (fun (v:World) (hb:Below w.heap.size w v)=>jK vn vl ns ls v (hn.below hb) (hl.below hb));generalize jd ns ls=o at*
  go_enter Tryz.func86,Tryz.ntmps86
  go_wp2_with fail
  refine Wt.out.mono ?_
  rintro e w1 ⟨rfl,h9⟩;have h8:=Hg.trans (h9.mono Hg.size);have Hz:=gy.below h9 gy.lt;have Ht:=Hz.lt;obtain⟨a_0,a_1⟩:=Hz.c2
  go_wp2_with fail
  refine(UC.out _ h8).mono ?_
  rintro e w2 ⟨rfl,Hd⟩;have Ha:=h8.trans (Hd.mono h8.size);have gM:=Hz.below Hd Hz.lt;have Gh:=gM.lt;obtain⟨a_0,a_1⟩:=gM.c2
  go_wp2_with fail
  refine(Ck.out _ Ha).mono ?_
  rintro e w3 ⟨v3,rfl,Hm,He⟩;obtain⟨A3,c3,rfl⟩:=Hm.form;have Hc:=Ha.trans (He.mono Ha.size);have GA:=gM.below He gM.lt;have CZ:OwnI (w.heap.size+1) w3 (.slice none 0 0) (natI (facL ns ls 0)):=by rw[uj.out];exact OwnI.nil _ _
  generalize (z9 ns ls).length =F at*;go_wp2
  go_loopw [4,14] (fun v t wr=>∃k:Nat,k<=F/\t= .int .i64 k/\OwnI (w.heap.size+1) wr v (natI (facL ns ls k))/\Hid ((facL ns ls k).length =0->v= .slice none 0 0)/\Blk wr w.heap.size 27 #[vn,vl]/\Below w.heap.size w wr) (fun _ t _=>F -(intOf t).toNat)
  case atStart=>exact⟨0,aab _,rfl,CZ,h_ (fun _=>rfl),GA,Hc⟩
  case round=>
   obtain⟨k,hk,rfl,ho,HNV,hW,hB⟩:=hrel;have gx:=hW.lt;have hgl:=Nt.out k
   by_cases Hf:k<F
   ·have Hp:(k:Int)<(F:Int):=o_
    by_cases M8:(k:Int)=o
    ·have e1:((k:Int)==o)=true:=beq_iff_eq.2 M8
     have e2:((k:Int) != o)=false:=by rw[bne,e1];rfl
     have HX:=h_ (NX.out k M8);go_wp2;go_roundw
     case rel=>exact⟨k+1,by omega,by go_num,by rw[HX.out];exact ho,by rw[HX.out];exact HNV,hW,hB⟩
     case measure=>simp[intOf];omega
    ·have e1:((k:Int)==o)=false:=beq_eq_false_iff_ne.2 M8
     have e2:((k:Int) != o)=true:=by rw[bne,e1];rfl
     have HX:=h_ (WC.out k M8);generalize facL ns ls k=G at*
     go_wp2_with (at_builtin;refine qH rfl _ _ rfl (w.heap.size+1) _ (natI G) (k:Int) rfl wr.heap.size rfl (jA rfl) (ho.alloc _) (by rw[za];omega) (by simp;omega) ?_)
     intro v7 w7 Cb ck _;have HW:=h_ (show Blk w7 w.heap.size 27 #[vn,vl] from(ck.block w.heap.size (by simp;omega) (fun e=>by have:=(ho.lt _ e.symm).1;omega)).trans (hW.alloc _));have HB:=h_ ((hB.alloc hB.size (.cells #[.int .i64 k] 3)).grown ck (by simp;omega) (fun q hq=>by have:=(ho.lt q hq).1;omega));have HO:Hid (OwnI (w.heap.size+1) w7 v7 (natI (facL ns ls (k+1)))):=h_ (by rw[HX.out];simpa[natI] using Cb);have nU:Hid ((facL ns ls (k+1)).length =0->v7= .slice none 0 0):=h_ (fun h=>by rw[HX.out] at h;simp at h);go_wp2;go_roundw
     case rel=>exact⟨k+1,by omega,by go_num,HO.out,nU,HW.out,HB.out⟩
     case measure=>simp[intOf];omega
   ·have gi:k=F:=o_
    subst gi;have Y2:=h_ HR.out
    by_cases h0:(facL ns ls k).length =0
    ·have bQ:facL ns ls k=[]:=abx h0
     have e0:=HNV.out h0;subst e0
     go_wp2_with fail
     refine(JL _ _ _).mono ?_
     rintro e w5 ⟨rfl,H0⟩;have HB:=h_ (hB.trans (H0.mono hB.size));go_wp2;go_ret
     exact⟨_,rfl,by rw[Y2.out,bQ];exact OwnI.nil _ _,HB.out⟩
    ·have hG:=h_ ho
     obtain⟨g,c,rfl,WD,fM,r5,_⟩:=OwnI.blk ho (by rw[za];omega);rw[za] at WD ho⊢
     have hCA:ZM 151 #[.pointer (some ⟨w.heap.size,0,none⟩)] (facL ns ls k) (cmpR ns ls) (some g) wr:=by
      intro v d e _ _ hg;have rO:Below w.heap.size w v:=hB.grown hg hB.size (fun q hq=>by cases hq;omega);exact z4D w.heap.size vn vl ns ls d e v ((hg.block w.heap.size gx (fun e=>by cases e;omega)).trans hW) (hn.below rO) (hl.below rO)
     have HS:=h_ (Vy (w.heap.size+1) 151 g c #[.pointer (some ⟨w.heap.size,0,none⟩)] (facL ns ls k) (cmpR ns ls) (ltR ns ls) wr hCA (fun _ _=>rfl) ho YX z8I);have HB:=h_ hB
     go_wp2_with fail
     refine HS.out.mono ?_
     rintro e w5 ⟨rfl,fG,FW⟩;have fX:=h_ (HB.out.grown FW HB.out.size (fun q hq=>by cases hq;omega));have Cl:=h_ (OwnI.mono fG (show w.heap.size<=w.heap.size+1 by omega));go_wp2;go_ret
     exact⟨_,rfl,by rw[Y2.out];exact Cl.out,fX.out⟩
theorem z5W (vn vl:Value) (ns ls:List Pr) (f:Nat) (w:World) (hn:RP w vn ns) (hl:RP w vl ls):
  CB_ 23 #[.agg #[vn,vl],.int .i64 f] w (.int .i64 (numN ns ls f)):=by
 have Hg:Below w.heap.size w (w.alloc (.cells #[vn,vl] 27)):=bel_
 have HR:Hid (numN ns ls f=idxN (ordW ns ls) f+1):=h_ rfl
 have vz:(ordW ns ls).length <=40:=by
  unfold ordW;rw[x9];have:=Qz ns ls (z9 ns ls).length;have:=zJ ns ls;omega
 have hix: -1<=idxN (ordW ns ls) f/\idxN (ordW ns ls) f<=40:=by
  unfold idxN
  split
  ·rename_i h
   have:=abt h;omega
  ·omega
 go_enter Tryz.func23,Tryz.ntmps23
 go_wp2_with fail
 refine(z3e _ _ ns ls _ (hn.below Hg) (hl.below Hg)).mono ?_
 rintro e w1 ⟨v1,rfl,Hi,h9⟩;have h8:=Hg.trans (h9.mono Hg.size);have Nl:=Hi.reads
 go_wp2_with fail
 refine(QD _ (ordW ns ls) f _ Nl).mono ?_
 rintro e w2 ⟨rfl,rfl⟩;go_wp2;go_ret
 exact⟨zo (by rw[HR.out]),h8⟩
end Go.Proofs.YtnjcpljhmhdhkaaGreat
