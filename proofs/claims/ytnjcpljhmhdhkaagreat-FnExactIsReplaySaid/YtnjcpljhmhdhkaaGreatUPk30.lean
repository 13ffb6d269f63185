/- part 30 -/
import Derived.Test.YtnjcpljhmhdhkaaGreatUPk26
import Derived.Test.YtnjcpljhmhdhkaaGreatUPk28
import Derived.Test.YtnjcpljhmhdhkaaGreatUPk29
import Derived.Deep.RegionHeld3
import Derived.Deep.DeepCutAuto
import Derived.BigRegion
set_option linter.unusedSimpArgs false
set_option linter.unusedVariables false
set_option maxRecDepth 100000
set_option maxHeartbeats 16000000
namespace Go.Proofs.YtnjcpljhmhdhkaaGreat
theorem z8b {ns ls:List Pr} (hw:zf ns ls=true):∃q:Nat,je ns ls=q/\q<(z9 ns ls).length :=by
 have Hn:=(zI hw).1;have GD:=(zI hw).2;have Hu:∀j:Nat,j<ls.length->zp ns (ndI ls j)=true:=fun j hj=>(Hn.2.2.2.2.2 j hj).1
 have hF:z9 ns ls=zg ns ls:=by simp[z9,hw]
 obtain⟨k,hk,ha⟩:=z9m Hu GD;obtain⟨q,h1,h2,h3,h4⟩:=Jz ns ls (zg ns ls) (zg ns ls).length 0 ⟨k,by omega,by omega,ha⟩;exact⟨q,by unfold je z8x;rw[hF];exact h1,by rw[hF];omega⟩
theorem Vz {ns ls:List Pr} {q:Nat} (h:je ns ls=q):∀k,(facL ns ls k).length +(if q<k then 1 else 0)=k
 |0=>by simp[facL]
 |k+1=>by
  have ih:=Vz h k
  by_cases e:k=q
  ·subst e
   rw[ZV h.symm];rw[aaq o_] at ih;rw[aao o_];omega
  ·rw[Ve (by rw[h];omega),aaX,aa9]
   by_cases e2:q<k
   ·rw[aao e2] at ih
    rw[aao o_];omega
   ·rw[aaq e2] at ih
    rw[aaq o_];omega
theorem JS {n:Nat} {ls:List Pr} (h:(zi n ls ls.length).all (· ==0)=true) (hl:(zi n ls ls.length).length =n):∀k,k<=n->yJ n ls k=if 0<k then 1 else 0
 |0,_=>rfl
 |k+1,hk=>by
  have ih:=JS h hl k o_
  have hz:(zi n ls ls.length).getD k 0=0:=by
   rw[aa7,aac o_];have:=List.all_eq_true.1 h _ (abh (show k<(zi n ls ls.length).length by omega))
   simpa using this
  by_cases e:k=0
  ·subst e
   rw[Jk hz,ih];rfl
  ·rw[Xx (by rw[hz];omega),ih,aao o_,aao o_]
theorem z7v {ns ls:List Pr} (hw:zf ns ls=true):jh ns ls=1:=by
 have Hn:=(zI hw).1;have h:=hw;unfold zf at h;rw[aaH,aaH] at h;unfold jh;rw[aao h.1,JS h.2.2 (jf _ _ _) _ (aaa _),aao (show 0<ns.length from Hn.1)];rfl
theorem xj {ns ls:List Pr} (hw:zf ns ls=true):((z9 ns ls).length :Int) -1<=jr ns ls:=by
 have h:=hw;unfold zf at h;rw[aaH] at h;have he:=z8m hw;rw[<-zE hw] at he;unfold jr qA;rw[aao h.1,z7v hw]
 split<;>omega
theorem z3Z {ns ls:List Pr} (hw:zf ns ls=true):(ordW ns ls).length +1=(z9 ns ls).length :=by
 obtain⟨q,h1,h2⟩:=z8b hw;have:=Vz h1 (z9 ns ls).length;rw[aao h2] at this;unfold ordW;rw[Qk];exact this
theorem z2h {ns ls:List Pr} {f:Int} (h:yf ns ls f=true):zf ns ls=true/\∃k:Nat,f=k/\k<(z9 ns ls).length /\k∈ordW ns ls:=by
 unfold yf at h;rw[aaH,aaH,aa5] at h;obtain⟨h1,_,h3⟩:=h
 cases Gp:inB f 0 (((z9 ns ls).length :Int) -1)
 ·rw[kF Gp] at h1;simp at h1
 ·obtain⟨k,rfl⟩:∃k:Nat,f=k:=⟨f.toNat,by have:=zd.1 Gp;omega⟩
  have hk:k<(z9 ns ls).length :=by have:=zd.1 Gp;omega
  have hw:zf ns ls=true:=by
   cases hq:zf ns ls
   ·unfold z9 at hk;rw[hq] at hk;simp at hk
   ·rfl
  refine⟨hw,k,rfl,hk,?_⟩
  unfold ordW;rw[XQ];unfold facL;rw[List.mem_filter,aaN];exact⟨hk,by simpa using h3⟩
theorem zas {ns ls:List Pr} (hw:zf ns ls=true) {f:Nat} (hf:f∈ordW ns ls):1<=numN ns ls f/\numN ns ls f<=jr ns ls:=by
 unfold numN idxN;rw[aao hf];have:=xj hw;have:=abu hf;have:=z3Z hw;omega
theorem z8l {l:List Dp}:qm l=true↔l.length<=40/\(∀d∈l,inB d.k 1 200=true/\inB d.a 1 50=true/\inB d.b 0 9999=true)/\l.Pairwise (fun d e=>d.b<=e.b/\d.k≠e.k):=by
 rw[yt]
 have Uy:∀i,i<l.length->(depB l i=true↔(inB (dpI l i).k 1 200=true/\inB (dpI l i).a 1 50=true/\inB (dpI l i).b 0 9999=true)/\(i=0∨(dpI l (i -1)).b <=(dpI l i).b)/\∀j,j<i->¬(dpI l j).k =(dpI l i).k):=by
  intro i hi;unfold depB qu;simp only[aaH,aaI,aa5,aaM,aaN]
  constructor
  ·rintro⟨a,b,c,d,e⟩;exact⟨⟨a,b,c⟩,d,e⟩
  ·rintro⟨⟨a,b,c⟩,d,e⟩;exact⟨a,b,c,d,e⟩
 constructor
 ·rintro⟨h1,h2⟩
  refine⟨h1,?_,?_⟩
  ·intro d hd
   obtain⟨i,hi,e⟩:=abb hd;have:=((Uy i hi).1 (h2 i hi)).1;rw[jV hi,e] at this;exact this
  ·rw[aa8]
   have mono:∀k i,i+k<l.length->(dpI l i).b <=(dpI l (i+k)).b :=by
    intro k
    induction k with
    |zero=>intro i _;exact Int.le_refl _
    |succ k ih=>
     intro i U2;have h3:=ih i o_;have h4:=((Uy (i+(k+1)) U2).1 (h2 _ U2)).2.1
     have h5:(dpI l (i+k)).b <=(dpI l (i+(k+1))).b :=by
      rcases h4 with h4|h4
      ·omega
      ·rw[show i+(k+1) -1=i+k by omega] at h4;exact h4
     omega
   intro i j hi hj nU;have h6:=mono (j -i) i o_;have h7:=((Uy j hj).1 (h2 j hj)).2.2 i nU;rw[show i+(j -i)=j by omega,jV hi,jV hj] at h6;rw[jV hi,jV hj] at h7;exact⟨h6,h7⟩
 ·rintro⟨h1,h2,h3⟩
  rw[aa8] at h3;refine⟨h1,fun i hi=>?_⟩
  rw[Uy i hi];refine⟨?_,?_,?_⟩
  ·rw[jV hi];exact h2 _ (abh hi)
  ·by_cases e:i=0
   ·exact .inl e
   ·right
    rw[jV hi,jV (show i -1<l.length by omega)];exact(h3 (i -1) i o_ hi o_).1
  ·intro j hj
   rw[jV hi,jV (show j<l.length by omega)];exact(h3 j i o_ hi hj).2
theorem z9t {l m:List Dp} (h:qm l=true) (hs:List.Sublist m l):qm m=true:=by
 rw[z8l] at h⊢;obtain⟨h1,h2,h3⟩:=h;exact⟨aai hs.length_le h1,fun d hd=>h2 d (hs.subset hd),h3.sublist hs⟩
theorem za6 (l:List Dp) (x:Int):List.Sublist (tkL l x) l:=by
 unfold tkL
 split
 ·have e:l.take (tkI l x).toNat ++l.drop (tkI l x).toNat =l:=abp _ _
  have h1:List.Sublist (l.drop ((tkI l x).toNat +1)) (l.drop (tkI l x).toNat):=by
   exact List.drop_sublist_drop_left _ (Nat.le_succ _)
  have h2:=(List.Sublist.refl (l.take (tkI l x).toNat)).append h1;rw[e] at h2;exact h2
 ·exact List.Sublist.refl _
theorem k5 {S:St}:ze S=true↔okD S.D=true/\qm S.ds=true/\inB S.fund 0 1000000=true/\(S.cs.length=0∨zY S.D.nn S.D.nl S.cs=true)/\(S.ds.length=0∨zf S.D.nn S.D.nl=true)/\∀d∈S.ds,d.k<=jr S.D.nn S.D.nl:=by
 unfold ze;simp only[aaH,aaI,aa5,aaM]
noncomputable def colB (S:St) (n:Int):Bool:=ze S&&(yb S.D.nn S.D.nl n).isSome
noncomputable def colS (S:St) (n:Int):St:=if colB S n=true then⟨S.D,(yb S.D.nn S.D.nl n).getD [],S.ds,S.fund⟩ else S
noncomputable def swpB (S:St) (f x:Int):Bool:=ze S&&vy S.D.nn S.D.nl S.cs f x
noncomputable def swpS (S:St) (f x:Int):St:=if swpB S f x=true then⟨S.D,vA S.D.nn S.D.nl S.cs f x,S.ds,S.fund⟩ else S
def adpB (l:List Dp) (d:Dp):Bool:=qm l&&qm (l++[d])
def adpL (l:List Dp) (d:Dp):List Dp:=if adpB l d=true then l++[d] else l
def dayN (l:List Dp):Int:=if l.length=0 then 0 else(dpI l (l.length -1)).b +1
noncomputable def z8Q (S:St) (f c:Int):Dp:=⟨numN S.D.nn S.D.nl f.toNat,c,dayN S.ds⟩
noncomputable def stoB (S:St) (f c:Int):Bool:=ze S&&(yf S.D.nn S.D.nl f&&adpB S.ds (z8Q S f c))
noncomputable def stoS (S:St) (f c:Int):St:=if stoB S f c=true then⟨S.D,S.cs,S.ds++[z8Q S f c],S.fund⟩ else S
theorem zb0 {S:St} (n:Int) (h:ze S=true):ze (colS S n)=true:=by
 unfold colS
 split
 ·rename_i hc
  unfold colB at hc;rw[aaH,Option.isSome_iff_exists] at hc;obtain⟨_,L,hL⟩:=hc;have hp:=z1C hL;rw[hL];rw[k5] at h⊢;exact⟨h.1,h.2.1,h.2.2.1,.inr hp,h.2.2.2.2⟩
 ·exact h
theorem zaN {S:St} (f x:Int) (h:ze S=true):ze (swpS S f x)=true:=by
 unfold swpS
 split
 ·rename_i hc
  unfold swpB at hc;rw[aaH] at hc;have hp:=z3j hc.2;rw[k5] at h⊢;exact⟨h.1,h.2.1,h.2.2.1,.inr hp,h.2.2.2.2⟩
 ·exact h
theorem zaY {S:St} (f c:Int) (h:ze S=true):ze (stoS S f c)=true:=by
 unfold stoS
 split
 ·rename_i hc
  unfold stoB adpB at hc;rw[aaH,aaH,aaH] at hc;obtain⟨_,hp,_,hd⟩:=hc;obtain⟨hw,k,rfl,hk,hm⟩:=z2h hp;have hb:=zas hw hm;rw[k5] at h⊢;refine⟨h.1,hd,h.2.2.1,h.2.2.2.1,.inr hw,fun d hd=>?_⟩
  rw[aaJ,aba] at hd
  rcases hd with hd|rfl
  ·exact h.2.2.2.2.2 d hd
  ·exact hb.2
 ·exact h
theorem zaL {S:St} (x:Int) (h:ze S=true):ze (yC S x)=true:=by
 unfold yC
 split
 ·rw[k5] at h⊢
  have hs:=za6 S.ds x;refine⟨h.1,z9t h.2.1 hs,h.2.2.1,h.2.2.2.1,?_,fun d hd=>h.2.2.2.2.2 d (hs.subset hd)⟩
  rcases h.2.2.2.2.1 with h1|h1
  ·left
   have h2:S.ds.length=0:=h1;have:=hs.length_le
   show(tkL S.ds x).length =0
   omega
  ·exact .inr h1
 ·exact h
theorem zaU {S:St} (k a b:Int) (h:ze S=true):ze (chgS S k a b)=true:=by
 unfold chgS
 split
 ·rename_i hc
  unfold chgB at hc;simp only[aaH,aa5] at hc
  rw[z3Q k a b h]
  simpa using hc.2.2.2
 ·exact h
theorem zb6 {S:St} (h:ze S=true):ze (jM S)=true:=by
 unfold jM
 split
 ·rw[k5] at h⊢
  refine⟨z8s h.1,rfl,h.2.2.1,.inl rfl,.inl rfl,fun d hd=>?_⟩
  simp at hd
 ·exact h
theorem ZI {ns ls:List Pr} {n:Int} {L:List Int} (h:yb ns ls n=some L):L.length<=40:=by
 have:=(vO.1 (z1C h));have h2:=zq ns ls;rw[zE this.1] at h2;omega
theorem xR (S:St) (n:Int) (h:StLe S):yi (colS S n)<=30000000:=by
 unfold colS
 split
 ·rename_i hc
  unfold colB at hc;rw[aaH,Option.isSome_iff_exists] at hc;obtain⟨h0,L,hL⟩:=hc;have hl:=ZI hL;rw[hL];have h1:=h.D.cnt;have h2:=(yt.1 (k5.1 h0).2.1).1
  show cntD S.D+L.length+3*S.ds.length<=_
  omega
 ·exact h.cnt
theorem xL (S:St) (f x:Int) (h:StLe S):yi (swpS S f x)<=30000000:=by
 have hc:=h.cnt;unfold swpS
 split
 ·unfold yi at hc⊢
  show cntD S.D+(vA S.D.nn S.D.nl S.cs f x).length +3*S.ds.length<=_
  rw[z1r];exact hc
 ·exact hc
theorem xM (S:St) (f c:Int) (h:StLe S):yi (stoS S f c)<=30000000:=by
 unfold stoS
 split
 ·rename_i hc
  unfold stoB adpB at hc;rw[aaH,aaH,aaH] at hc;obtain⟨h0,hp,_,hd⟩:=hc;have h1:=h.D.cnt;have h2:=(yt.1 hd).1;have h3:=h.cs
  show cntD S.D+S.cs.length+3*(S.ds++[z8Q S f c]).length <=_
  omega
 ·exact h.cnt
theorem z1D {S:St} {x:Int} (h:ze S=false∨(yb S.D.nn S.D.nl x).isSome =false):colS S x=S/\colB S x=false:=by
 have hb:colB S x=false:=by
  unfold colB
  rcases h with h|h<;>simp[h]
 exact⟨by unfold colS;rw[hb];rfl,hb⟩
theorem z5Z {S:St} {x:Int} (h1:ze S=true) (h2:(yb S.D.nn S.D.nl x).isSome =true):colS S x=⟨S.D,(yb S.D.nn S.D.nl x).getD [],S.ds,S.fund⟩/\colB S x=true:=by
 have hb:colB S x=true:=by unfold colB;rw[h1,h2];rfl
 exact⟨by unfold colS;rw[hb];rfl,hb⟩
theorem z1H {S:St} {x y:Int} (h:ze S=false∨vy S.D.nn S.D.nl S.cs x y=false):swpS S x y=S/\swpB S x y=false:=by
 have hb:swpB S x y=false:=by
  unfold swpB
  rcases h with h|h<;>simp[h]
 exact⟨by unfold swpS;rw[hb];rfl,hb⟩
theorem z5W {S:St} {x y:Int} (h1:ze S=true) (h2:vy S.D.nn S.D.nl S.cs x y=true):swpS S x y=⟨S.D,vA S.D.nn S.D.nl S.cs x y,S.ds,S.fund⟩/\swpB S x y=true:=by
 have hb:swpB S x y=true:=by unfold swpB;rw[h1,h2];rfl
 exact⟨by unfold swpS;rw[hb];rfl,hb⟩
def b01 (b:Bool):Int:=if b then 1 else 0
noncomputable def doS (S:St) (k a b:Int):St:=
 if ze S&&actB k a b then
  (if k=4 then jM S else if k=5 then colS S a else if k=6 then swpS S a b else if k=7 then stoS S a b else if k=8 then yC S a else if k=9 then S else chgS S k a b)
 else S
noncomputable def doN (S:St) (k a b:Int):Int:=
 if ze S&&actB k a b then
  (if k=4 then b01 (js S) else if k=5 then b01 (colB S a) else if k=6 then b01 (swpB S a b) else if k=7 then b01 (stoB S a b) else if k=8 then b01 (yp S a) else if k=9 then jr S.D.nn S.D.nl else b01 (chgB S k a b))
 else -1
theorem z2i {S:St} {k a b:Int} (h:(ze S&&actB k a b)=false):doS S k a b=S/\doN S k a b= -1:=by
 unfold doS doN;rw[h];exact⟨rfl,rfl⟩
theorem zaS {S:St} (k a b:Int) (h:ze S=true):ze (doS S k a b)=true:=by
 unfold doS
 split
 ·split
  ·exact zb6 h
  ·split
   ·exact zb0 _ h
   ·split
    ·exact zaN _ _ h
    ·split
     ·exact zaY _ _ h
     ·split
      ·exact zaL _ h
      ·split
       ·exact h
       ·exact zaU _ _ _ h
 ·exact h
theorem Va (S:St) (k a b:Int) (h:StLe S):yi (doS S k a b)<=30000000:=by
 unfold doS
 split
 ·split
  ·exact kv S h
  ·split
   ·exact xR S _ h
   ·split
    ·exact xL S _ _ h
    ·split
     ·exact xM S _ _ h
     ·split
      ·exact xQ S _ h
      ·split
       ·exact h.cnt
       ·exact vN S _ _ _ h
 ·exact h.cnt
theorem z8V {S:St} (h:ze S=true):StLe S:=by
 obtain⟨h1,h2,_,h4,_⟩:=k5.1 h;refine⟨zb3 h1,?_,?_⟩
 ·rcases h4 with h4|h4
  ·omega
  ·have:=(vO.1 h4)
   have h5:=zq S.D.nn S.D.nl;rw[zE this.1] at h5;omega
 ·have:=(yt.1 h2).1
  omega
def acI (l:List Ac) (j:Nat):Ac:=l.getD j ⟨0,0,0⟩
noncomputable def runS (S:St) (l:List Ac):Nat->St
 |0=>S
 |j+1=>doS (runS S l j) (acI l j).k (acI l j).a (acI l j).b
noncomputable def runN (S:St) (l:List Ac):Nat->List Int
 |0=> []
 |j+1=>runN S l j++[doN (runS S l j) (acI l j).k (acI l j).a (acI l j).b]
noncomputable def runB (S:St) (l:List Ac):Bool:=ze S&&decide (l.length<=40)
noncomputable def kQ (S:St) (l:List Ac):St:=if runB S l then runS S l l.length else S
noncomputable def kD (S:St) (l:List Ac):List Int:=if runB S l then runN S l l.length else []
theorem V2 {S:St} {l:List Ac} (h:ze S=true):∀j,ze (runS S l j)=true
 |0=>h
 |j+1=>zaS _ _ _ (V2 h j)
theorem Zu (S:St) (l:List Ac):∀j,(runN S l j).length =j
 |0=>rfl
 |j+1=>by simp[runN,Zu S l j]
theorem z7f (S:St) (l:List Ac) (h:StLe S):yi (kQ S l)<=30000000:=by
 unfold kQ;split
 ·rename_i hc
  unfold runB at hc;rw[aaH] at hc;exact(z8V (V2 hc.1 _)).cnt
 ·exact h.cnt
open Go.RowKit
theorem z9h (n:Nat):natI (List.replicate n 0)=List.replicate n 0:=by simp[natI]
theorem z2G (l:List Nat) (a x:Nat):natI (l.set a x)=(natI l).set a (x:Int):=by simp[natI,List.map_set]
theorem z5t {s:List Int} {F k:Nat} (h:s.getD (2*k) 0=s.getD (2*k+1) 0):jg s F (k+1)=jg s F k:=by simp only[jg];rw[aao h]
theorem z4R {s:List Int} {F k a b:Nat} (ha:s.getD (2*k) 0=(a:Int)) (hb:s.getD (2*k+1) 0=(b:Int)) (h:a≠b):jg s F (k+1)=setN (setN (jg s F k) a b) b a:=by
 simp only[jg];rw[aaq o_,ha,hb,aa6,aa6]
theorem z1g (vn vl:Value) (ns ls:List Pr) (w:World) (hn:RP w vn ns) (hl:RP w vl ls) (hw:zf ns ls=true):
  Calls Tryz.prog 254 #[.agg #[vn,vl]] w (RetI (natI (qX ns ls)) w):=by
 have Hg:Below w.heap.size w (w.alloc (.cells #[vn,vl] 27)):=bel_
 have gD:Blk (w.alloc (.cells #[vn,vl] 27)) w.heap.size 27 #[vn,vl]:=Blk.newAt rfl;obtain⟨i0,hi,iz0,iz1,iz2⟩:=info_parts ql;have CN:=ye hw;have GW:=(zI hw).1.2.2.1;have GB:=zq ns ls;have Cj:=zE hw;have mT:=h_ (fun d (hd:d<2*ls.length)=>kK (ns:=ns) (ls:=ls) CN hd);have bB:=h_ (vP ns ls);have HSI:Hid (kX ns ls=zF ns ls):=h_ (by unfold kX;rw[hw];rfl);have HR:Hid (qX ns ls=jg (zF ns ls) (z9 ns ls).length ls.length):=h_ (by unfold qX;rw[Cj])
 have F0:Hid (∀k,k<=ls.length->∀f,f<(z9 ns ls).length ->(jg (zF ns ls) (z9 ns ls).length k).getD f 0<2^(z9 ns ls).length):=h_ (fun k hk f hf=>XE _ _ k (fun j hj=>by
  obtain⟨p,h1,h2⟩:=kK (ns:=ns) (ls:=ls) CN (d:=j) o_;rw[h1];omega) f hf)
 have HLN:=h_ (fun k=>jY (zF ns ls) (z9 ns ls).length k);have mb:=h_ (fun k h=>z5t (s:=zF ns ls) (F:=(z9 ns ls).length) (k:=k) h);have HDI:=h_ (fun k a b ha hb h=>z4R (s:=zF ns ls) (F:=(z9 ns ls).length) (k:=k) (a:=a) (b:=b) ha hb h);have HZ:Hid (jg (zF ns ls) (z9 ns ls).length 0=List.replicate (z9 ns ls).length 0):=h_ rfl
 go_enter Tryz.func254,Tryz.ntmps254
 go_wp2_with fail
 refine(Vq _ _ ns ls _ (hn.below Hg) (hl.below Hg)).mono ?_
 rw[HSI.out];rintro e w1 ⟨v1,rfl,Hj,h9⟩;have h8:=Hg.trans (h9.mono Hg.size);have gg:=gD.below h9 gD.lt;have Fv:=Hj.reads;obtain⟨a_0,a_1⟩:=gg.c2;have H8:=gg.lt
 go_wp2_with fail
 refine(jP _ _ ns ls _ (hn.below h8) (hl.below h8)).mono ?_
 rintro e w2 ⟨v2,rfl,Hm,He⟩;have Ha:=h8.trans (He.mono h8.size);have Fw:=Fv.below He;have Gd:w.heap.size<w2.heap.size:=aaE H8 He.size;obtain⟨A2,c2,rfl⟩:=Hm.form;obtain⟨As,cS,rfl,Gu,hms,fk⟩:=Fw.form;rw[bB.out] at fk⊢;generalize (z9 ns ls).length =F at*;generalize zF ns ls=s at*
 go_wp2_with (at_make;refine wpList_make_full _ rfl _ _ 31 rfl (w.heap.size+1) 3 i0 (.int .i64 0) 1 Tryz.underlying31 hi iz0 iz1 .i64 .i64 _ _ F rfl rfl rfl rfl (by rw[iz2];omega) (by unfold maxLen;omega) o_ ?_)
 intro w3 Hz gQ;have GZ:Below w2.heap.size w2 w3:=(aaj _ _).grown gQ (aaa _) (by intro k hk;cases hk)
 have fI:OwnI (w.heap.size+1) w3 (.slice (some ⟨w2.heap.size,0,none⟩) F F) (natI (jg s F 0)):=by
  rw[HZ.out,z9h];unfold OwnI;rw[aaD,<-z2S];exact Hz
 have YW:=(OwnI.lt fI _ rfl).2;obtain⟨gs,mS⟩:∃g,w2.heap.size=g:=⟨_,rfl⟩;rw[mS] at GZ fI YW Gd⊢;have Ut:=h_ mS;go_wp2
 go_loopw [5] (fun x wr=>∃k:Nat,k<=ls.length/\x= .int .i64 k/\OwnI (w.heap.size+1) wr (.slice (some ⟨gs,0,none⟩) F F) (natI (jg s F k))/\Below gs w2 wr) (fun x _=>ls.length -(intOf x).toNat)
 case atStart=>exact⟨0,aab _,rfl,fI,GZ⟩
 case round=>
  obtain⟨k,hk,rfl,ho,hB⟩:=hrel;have ew:IntKind.i64.wrap (2*(k:Int))=((2*k:Nat):Int):=by rw[show 2*(k:Int)=((2*k:Nat):Int) by omega];exact aaQ _ o_
  by_cases Hd:k<ls.length
  ·obtain⟨b,off,rfl,hb,GG⟩:=fk o_
   obtain⟨p,hp,hpF⟩:=mT.out (2*k) o_;obtain⟨q,hq,hqF⟩:=mT.out (2*k+1) o_;rw[Ut.out] at hb;have GU:=(hB.cell (p:=⟨b,off+2*k,none⟩) hb).trans (GG (2*k) o_);have CM:=(hB.cell (p:=⟨b,off+(2*k+1),none⟩) hb).trans (GG (2*k+1) o_);rw[hp] at GU;rw[hq] at CM;have GS:b<wr.heap.size:=by have:=hB.size;rw[Ut.out] at this;omega
   have i4:(0:Int)<=(p:Int):=o_
   have i5:(p:Int)<(F:Int):=o_
   have i6:(0:Int)<=(q:Int):=o_
   have i7:(q:Int)<(F:Int):=o_
   have rg:=h_ (mb.out k);have Y9:=h_ (HDI.out k p q hp hq);rw[hp,hq] at rg;have hgl:=(OwnI.lt ho gs rfl).2
   by_cases FI:p=q
   ·have e1:((p:Int)==(q:Int))=true:=beq_iff_eq.2 o_
    have e2:((p:Int) != (q:Int))=false:=by rw[bne,e1];rfl
    have HX:=h_ (rg.out o_)
    go_wp2_with fail
    (refine z7 k_ k_ (fun hG=>?_))
    repeat (go_big_quiet_step (fail))
    refine wpQuiet_nil ?_
    rintro w5 ⟨⟨_,Gn⟩,rfl⟩;have HO:=h_ (show OwnI (w.heap.size+1) w5 (.slice (some ⟨gs,0,none⟩) F F) (natI (jg s F (k+1))) by rw[HX.out];exact ho.kept Gn);have HB:=h_ (hB.trans (Gn.mono o_));go_wp2;go_roundw
    case rel=>exact⟨k+1,by omega,by go_num,HO.out,HB.out⟩
    case measure=>simp[intOf];omega
   ·have e1:((p:Int)==(q:Int))=false:=beq_eq_false_iff_ne.2 o_
    have e2:((p:Int) != (q:Int))=true:=by rw[bne,e1];rfl
    have HX:=h_ (Y9.out FI);have hF62:(2:Nat)^F<=2^40:=aaF o_ o_;have hLp:=F0.out k hk p hpF;have hLq:=F0.out k hk q hqF;have Bu:=HLN.out k;generalize jg s F k=L at*;have xp:=shl64 (k:=p) o_;have xq:=shl64 (k:=q) o_;have Pp:2^p<2^40:=aa4 o_ o_;have Pq:2^q<2^40:=aa4 o_ o_;have o1:=yZ (a:=L.getD p 0) (b:=2^q) o_ o_;have o2:=yZ (a:=L.getD q 0) (b:=2^p) o_ o_;have hq64:q<64:=o_
    have hp64:p<64:=o_
    have HGQ:Hid ((setN L p q).getD q 0=L.getD q 0):=h_ (by rw[VJ o_,aaq (fun e=>FI e.symm)])
    go_wp2_with fail
    (refine z7 k_ k_ (fun hG=>?_))
    repeat (go_big_quiet_step (fail))
    refine wpQuiet_nil ?_
    rintro w5 ⟨⟨_,Gn⟩,rfl⟩;have fQ:=ho.kept Gn;have GR:=hB.trans (Gn.mono o_)
    have uq:w5.cell? ⟨gs,p,none⟩=some (.int .i64 (L.getD p 0:Nat)):=by
     rw[OwnE.cell (t:=3) (enc:=vI) fQ 0 (q:=p) (by rw[za,Bu];exact hpF),qj];rfl
    have fp:=OwnE.frz (t:=3) (enc:=vI) fQ p;have fg:Hid (OwnI (w.heap.size+1) (w5.setCell ⟨gs,p,none⟩ (.int .i64 ((L.getD p 0 ||| 2^q:Nat):Int))) (.slice (some ⟨gs,0,none⟩) F F) (natI (setN L p q))):=h_ (by unfold setN;rw[z2G];exact kl fQ p _);have By:=h_ (GR.setCell (p:=⟨gs,p,none⟩) (aaa _) (.int .i64 ((L.getD p 0 ||| 2^q:Nat):Int)));generalize Gi:L.getD p 0 ||| 2^q=O1 at*
    generalize hP2:((2^q:Nat):Int)=Q2 at*;generalize L.getD p 0=lp at*
    go_wp2_with fail
    go_cut [] (fun wx=>OwnI (w.heap.size+1) wx (.slice (some ⟨gs,0,none⟩) F F) (natI (setN L p q))/\Below gs w2 wx)
    case first=>
     go_region
     all_goals go_wp2
     all_goals go_meet
     all_goals exact⟨fg.out,By.out.drew⟩
    case rest=>
     obtain⟨fD,CO⟩:=hcut;obtain⟨w6,Cf⟩:∃u,u=wc:=⟨_,rfl⟩;subst Cf
     have MU:w6.cell? ⟨gs,q,none⟩=some (.int .i64 (L.getD q 0:Nat)):=by
      rw[OwnE.cell (t:=3) (enc:=vI) fD 0 (q:=q) (by rw[za,vY,Bu];exact hqF),qj,HGQ.out];rfl
     have fq:=OwnE.frz (t:=3) (enc:=vI) fD q;have gB:Hid (OwnI (w.heap.size+1) (w6.setCell ⟨gs,q,none⟩ (.int .i64 ((L.getD q 0 ||| 2^p:Nat):Int))) (.slice (some ⟨gs,0,none⟩) F F) (natI (jg s F (k+1)))):=h_ (by rw[HX.out];unfold setN;rw[z2G,show(L.set p (L.getD p 0 ||| 2^q)).getD q 0=L.getD q 0 from HGQ.out];exact kl fD q _);have CL:=h_ (CO.setCell (p:=⟨gs,q,none⟩) (aaa _) (.int .i64 ((L.getD q 0 ||| 2^p:Nat):Int)));generalize Cd:L.getD q 0 ||| 2^p=O2 at*
     generalize hP3:((2^p:Nat):Int)=P2 at*;generalize L.getD q 0=lq at*
     go_wp2_with fail
     go_region
     all_goals go_wp2
     all_goals go_roundw
     case rel=>exact⟨k+1,by omega,by go_num,gB.out,CL.out.drew⟩
     case measure=>simp[intOf];omega
  ·have Hw:k=ls.length:=o_
   subst Hw;have HB:=h_ (Ha.trans (Below.mono (by rw[Ut.out];exact hB) Ha.size));go_wp2;go_ret
   exact⟨_,rfl,by rw[HR.out];exact OwnI.mono ho o_,HB.out⟩
section
variable {w wr wr':World} {v0 v1 v2 v3 v4 v5 v6 a b c d e f g:Value} {m:Int} {Z:Nat} {S:St} {fs:List SF}
theorem OutSS.newCs (h:OutSS w v0 v1 v2 v3 v4 v5 v6 m Z a b c d e f g S fs wr) (hb:Below wr.heap.size wr wr') {v:Value} {l:List Int} (ho:OwnI wr.heap.size wr' v l):
  OutSS w v0 v1 v2 v3 v4 v5 v6 m Z a b c d e v g ⟨S.D,l,S.ds,S.fund⟩ fs (wr'.setCell ⟨Z,5,none⟩ v):=by
 have h1:=h.below hb;have br:∀k,v.ownBlock=some k->wr.heap.size<=k:=fun k hk=>(OwnI.lt ho k hk).1
 have hup:∀k,qv a b c d e f g fs k->k<wr.heap.size:=fun k hk=>(h.own.lt k hk).2
 have Ga:=h.Z_.lt
 have rt:¬qv a b c d e v g fs Z:=by
  rintro(hk|hk|hk)
  ·exact h.far (.inl hk)
  ·have:=br _ hk;omega
  ·exact h.far (.inr (.inr hk))
 have hO:OwnSt (w.heap.size+1+1) wr' a b c d e v g ⟨S.D,l,S.ds,S.fund⟩ fs:=
  ⟨h1.own.dr,OwnI.mono ho (by have:=h.lt;omega),h1.own.ds,fun k hk Gj=>by have:=br k Gj;have:=hup k (.inl hk);omega,h1.own.d_d,fun k hk Gj=>by have:=br k hk;have:=hup k (.inr (.inr Gj));omega⟩
 have Hd:=h.lt;exact⟨hO.setFar (p:=⟨Z,5,none⟩) rt v,h1.X.far (p:=⟨Z,5,none⟩) (show w.heap.size≠Z by omega) v,h1.R.far (p:=⟨Z,5,none⟩) (show w.heap.size+1≠Z by omega) v,h1.Z_.set_ 5 v,h1.lt,rt,h1.blw.setCell (p:=⟨Z,5,none⟩) (show w.heap.size<=Z by omega) v⟩
end
section
variable {P:Program} {md:Region.Mode} {ops:Array Oper} {Q:Exit->Act->World->Prop} {S:World->Prop}
theorem zaz {n i j:Nat} {o1 o2:Oper} {fuel:Nat} {listed:Array Bool} {a:Act} {w:World} (Hj:(ops.toList.drop i).head? =some o1) (Hm:(ops.toList.drop j).head? =some o2) (hr:Region.ready md ops listed=[i,j])
  (h1:∀K':Act->World->Prop,(∀a w,((listed.setIfInBounds i true).getD n true=false->S w)->(((listed.setIfInBounds i true).getD n true=false->S w)->anyE P md ops Q S n fuel (listed.setIfInBounds i true) a w)->K' a w)->if Region.wanted o1 (yielded ops a.tmps)=true then Oper.wp P o1 a w K' Q else K' (a.put o1.dst undef) w)
  (h2:∀K':Act->World->Prop,(∀a w,((listed.setIfInBounds j true).getD n true=false->S w)->(((listed.setIfInBounds j true).getD n true=false->S w)->anyE P md ops Q S n fuel (listed.setIfInBounds j true) a w)->K' a w)->if Region.wanted o2 (yielded ops a.tmps)=true then Oper.wp P o2 a w K' Q else K' (a.put o2.dst undef) w):
  anyE P md ops Q S n (fuel+1) listed a w:=by
 refine⟨fun h0=>(by rw[h0] at hr;cases hr),fun k hk=>?_⟩
 rw[hr] at hk;simp only[List.mem_cons,List.mem_nil_iff,or_false] at hk
 rcases hk with rfl|rfl
 ·exact wpOp_step (qJ Hj) (fun K' hK=>h1 K' (fun a w hS hW=>hK a w ⟨hS,hW hS⟩))
 ·exact wpOp_step (qJ Hm) (fun K' hK=>h2 K' (fun a w hS hW=>hK a w ⟨hS,hW hS⟩))
end
end Go.Proofs.YtnjcpljhmhdhkaaGreat
