/- part 30 -/
import Derived.Test.YtnjcpljhmhdhkaaGreatTPk28
import Derived.Deep.Upon
set_option linter.unusedSimpArgs false
set_option linter.unusedVariables false
set_option maxRecDepth 100000
set_option maxHeartbeats 16000000
namespace Go.Proofs.YtnjcpljhmhdhkaaGreat
open Go.RowKit
theorem z2d (w:World):(zeroValue 48).run Tryz.prog w= .ok (.agg #[.int .i64 0,.int .i64 0,.int .i64 0]) w:=rfl
theorem XH {P:Program} {w:World} {t ty:TypeId} {base g n cap c:Nat} {ls:List Dp} (ht:P.underlying t=some (.slice 48)) (hv:∀w,(zeroValue 48).run P w= .ok (.agg #[.int .i64 0,.int .i64 0,.int .i64 0]) w)
  (hn:n=ls.length) (bY:n<cap) (hown:zx base w (.slice (some ⟨g,0,none⟩) n cap) ls):
  ∃w',(Builtin.clear_ #[t] ty #[.slice (some ⟨g,n*3,none⟩) 1 c]).run P w= .ok (.tuple #[]) w'/\zx base w' (.slice (some ⟨g,0,none⟩) n cap) ls/\w.grownBy w' (some g):=by
 have cJ:∃cur:Array Value,w.heap[g]? =some (.cells cur 48 (0,0))/\cur.size=cap*3:=by
  rcases hown.2 with ⟨e,_⟩|⟨g',cap',cur,e,hb,hh,bO,mh,gI,Cx⟩
  ·cases e
  ·cases e;exact⟨cur,hh,gI⟩
 obtain⟨cur,hh,gI⟩:=cJ
 exact⟨_,Xn (P:=P) w t ty ht hv g (n*3) c (fun j hj=>by
  rw[Blk.cell (show Blk w g 48 cur from hh),abn o_];rfl) (fun j hj=>Blk.frozen (show Blk w g 48 cur from hh) _),
  z6o hown hn (by simp;omega),World.os_setCells _ _ _ _,yX _ _ _ _,World.output_setCells _ _ _ _,by rw[yY];exact aaa _,fun i hi Hv=>World.heap_setCells_other _ _ _ _ hi (fun e=>Hv (by rw[e]))⟩
theorem z39 (base g cap:Nat) (l:List Dp) (k:Nat) (w:World) (ho:zx base w (.slice (some ⟨g,0,none⟩) l.length cap) l) (hk:k<l.length) (gi:base<=w.heap.size):
  Calls Tryz.prog 194 #[.slice (some ⟨g,0,none⟩) l.length cap,.int .i64 k,.int .i64 ((k:Int)+1)] w fun e w'=>e= .returned (.slice (some ⟨g,0,none⟩) (l.length -1) cap)/\zx base w' (.slice (some ⟨g,0,none⟩) (l.length -1) cap) (l.take k++l.drop (k+1))/\Below base w w':=by
 obtain⟨j0,hj,jz0,jz1,jz2⟩:=info_parts ki
 obtain⟨mo,bY,mh⟩:base<=g/\l.length<=cap/\cap<=maxLen:=by
  rcases ho.2 with ⟨e,_⟩|⟨g',cap',cur,e,hb,hh,bO,mh,gI,Cx⟩
  ·cases e
  ·cases e;exact⟨hb,bO,mh⟩
 have HO:=h_ ho;have hL:(l.take k++l.drop (k+1)).length =l.length -1:=by simp;omega
 unfold maxLen at mh
 go_enter Tryz.func194,Tryz.ntmps194
 have c1:(k:Int)<=((cap:Nat):Int):=o_
 have c2:(0:Int)<=(k:Int):=o_
 have c3:(k:Int)+1<=(l.length:Int):=o_
 have c4:(l.length:Int)<=((cap:Nat):Int):=o_
 have c1':(k:Int)<=(k:Int)+1:=o_
 have c5:(0:Int)<=(k:Int)+1:=o_
 have c6:((k:Int)+1).toNat =k+1:=o_
 have c11:¬(k:Int)=(k:Int)+1:=o_
 go_wp2_with fail
 by_cases fM:cap=k+1
 ·have c12:l.length=k+1:=o_
  have hcut:zx base w.drew (.slice (some ⟨g,0,none⟩) k (k+1)) (l.take k++l.drop (k+1)):=by
   have h1:=z2j (g:=g) (cap:=cap) (w:=w.drew) (k:=k) (show zx base w.drew _ l from HO.out) hk;have h2:(l.drop (k+1)).flatMap Dp.cs=[]:=by rw[List.drop_of_length_le o_];rfl
   rw[h2,show l.length -1=k by omega,fM] at h1;exact h1
  obtain⟨w4,fj,hown,fH⟩:=XH (ty:=0) (c:=1) Tryz.underlying32 z2d (by rw[hL];omega) (show k<k+1 by omega) hcut;have Ho:Below base w w4:=(Below.drew ((aaj _ _).mono gi)).grown fH (by simpa using gi) (fun b e=>by cases e;omega);have hE:l.length -1=k:=o_
  have HH:=h_ (show zx base w4 (.slice (some ⟨g,0,none⟩) (l.length -1) cap) (l.take k++l.drop (k+1))/\Below base w w4 from⟨by rw[hE,fM];exact hown,Ho⟩)
  go_still_tail 6,k_
  go_wp2;go_ret
  exact⟨by rw[hE,fM];rfl,HH.out⟩
 ·have hm:l.length -(l.length -1)=1:=o_
  have d1:((l.length -1:Nat):Int)<=(l.length:Int):=o_
  have d2:(0:Int)<=((l.length -1:Nat):Int):=o_
  have d3:¬cap=l.length -1:=o_
  go_still_tail 6,k_
  go_wp2_with (at_builtin;refine ZL (c2:=cap -(k+1)) rfl _ _ _ rfl base j0 Tryz.underlying32 hj jz1 g cap l k rfl (by rw[aaq fM];rfl) (show zx base w.drew (.slice (some ⟨g,0,none⟩) l.length cap) l from HO.out) hk ?_)
  intro w3 hcut fH;have He:Below base w w3:=(Below.drew ((aaj _ _).mono gi)).grown fH (by simpa using gi) (fun b e=>by cases e;omega);obtain⟨w4,hrun4,hown,hgr4⟩:=XH (ty:=0) (c:=cap -(l.length -1)) Tryz.underlying32 z2d (by rw[hL]) (show l.length -1<cap by omega) hcut;have Ho:Below base w w4:=He.grown hgr4 (aai gi He.size) (fun b e=>by cases e;omega);have HH:=h_ (And.intro hown Ho);go_wp2;go_ret
  exact⟨rfl,HH.out⟩
theorem z2l (A:Option Addr) (c:Nat) (x:Int) (w:World):
  CB_ 143 #[.slice A 0 c,.int .i64 x] w (.int .i64 (-1)):=by
 go_enter Tryz.func143,Tryz.ntmps143
 go_wp2_with fail
 go_at_call 205
 refine Calls.mono (R:=fun e w'=>e= .returned (.int .i64 (-1))/\Below w.heap.size w w') ?_ ?_
 ·go_enter Tryz.func205,Tryz.ntmps205
  go_wp2
  go_loopw [8] (fun y wr=>y= .int .i64 0/\Below w.heap.size w wr) (fun y _=>0)
  case atStart=>exact⟨rfl,by exact bel_⟩
  case round=>
   obtain⟨rfl,Hd⟩:=hrel;go_wp2;go_ret
   exact⟨rfl,Hd⟩
 rintro e w2 ⟨rfl,Hh⟩;go_wp2;go_ret
 exact⟨rfl,Hh⟩
theorem z1U (v:Value) (l:List Dp) (x:Int) (w:World) (h:RDp w v l):
  CB_ 143 #[v,.int .i64 x] w (.int .i64 (plF l x l.length 0)):=by
 obtain⟨A,c,rfl,hc,hm,fI⟩:=h.at_
 by_cases h0:0<l.length
 ·obtain⟨b,off,rfl,hd⟩:=fI h0
  exact Qb b off _ c l x _ w hd hm rfl
 ·have hz:l.length=0:=o_
  rw[hz];exact z2l A c x w
def tkI (l:List Dp) (x:Int):Int:=plF l x l.length 0
def tkB (l:List Dp) (x:Int):Bool:= !(decide (tkI l x<0))&&qn l
def tkL (l:List Dp) (x:Int):List Dp:=if tkB l x then l.take (tkI l x).toNat ++l.drop ((tkI l x).toNat +1) else l
def Vp (l:List Dp) (b:Bool) (w:World) (e:Ending) (w':World):Prop:=∃v,e= .returned (.tuple #[v,.bool b])/\zx w.heap.size w' v l/\Below w.heap.size w w'
theorem z5P (v:Value) (l:List Dp) (x:Int) (w:World) (h:RDp w v l) (hle:l.length<=1048576):
  Calls Tryz.prog 116 #[v,.int .i64 x] w (Vp (tkL l x) (tkB l x) w):=by
 have HR:=h_ h;have HT:Hid (plF l x l.length 0=tkI l x):=h_ rfl;have HB:Hid (tkB l x=(!(decide (tkI l x<0))&&qn l)):=h_ rfl;have HL:Hid (tkL l x=if tkB l x then l.take (tkI l x).toNat ++l.drop ((tkI l x).toNat +1) else l):=h_ rfl
 have FC:tkI l x<l.length:=by
  rcases xE l x l.length 0 with ⟨i,h1,_,h3,_⟩|⟨h1,_⟩
  ·unfold tkI;rw[h1];omega
  ·unfold tkI;rw[h1];omega
 go_enter Tryz.func116,Tryz.ntmps116
 go_wp2_with fail
 refine(ye _ l _ HR.out hle).mono ?_
 rintro e w1 ⟨v1,rfl,Hj,Hb⟩;have HO:=h_ Hj
 go_wp2_with fail
 refine(z1U _ l x _ (HR.out.below Hb)).mono ?_
 rintro e w2 ⟨rfl,Hh⟩;rw[HT.out];have Wm:=h_ ((HR.out.below Hb).below Hh);have Cu:=h_ (HO.out.kept Hh);have Hc:=Hb.trans (Hh.mono Hb.size);generalize tkI l x=K at*
 by_cases hK:K<0
 ·go_wp2
  exact bodyPost_ret (v:= .tuple #[v1,.bool false]) (by simp[results,Tryz.results116,go_sem]) rfl ⟨v1,by rw[HB.out];simp[hK],by rw[HL.out,HB.out];simpa[hK] using Cu.out,Hc⟩
 ·go_wp2_with fail
  refine(Qa _ l _ Wm.out).mono ?_
  rintro e w3 ⟨rfl,Hg⟩;have C6:=h_ (Cu.out.kept Hg);have He:=Hc.trans (Hg.mono Hc.size)
  cases hd:qn l
  ·go_wp2
   exact bodyPost_ret (v:= .tuple #[v1,.bool false]) (by simp[results,Tryz.results116,go_sem]) rfl ⟨v1,by rw[HB.out];simp[hd],by rw[HL.out,HB.out];simpa[hd] using C6.out,He⟩
  ·obtain⟨g,cap,rfl⟩:∃g cap,v1= .slice (some ⟨g,0,none⟩) l.length cap:=by
    rcases C6.out.2 with ⟨e,h0⟩|⟨g',cap',cur,e,_⟩
    ·have h0':l.length=0:=h0
     omega
    ·exact⟨_,_,e⟩
   obtain⟨k,rfl⟩:∃k:Nat,K=k:=⟨K.toNat,by omega⟩;have F9:IntKind.i64.wrap ((k:Int)+1)=(k:Int)+1:=aaP _ o_
   go_wp2_with fail
   refine(z39 w.heap.size g cap l k _ C6.out o_ He.size).mono ?_
   rintro e w4 ⟨rfl,gz,H5⟩;have F6:=h_ gz;have Ho:=He.trans H5;go_wp2
   exact bodyPost_ret (v:= .tuple #[.slice (some ⟨g,0,none⟩) (l.length -1) cap,.bool true]) (by simp[results,Tryz.results116,go_sem]) rfl ⟨.slice (some ⟨g,0,none⟩) (l.length -1) cap,by rw[HB.out];simp[hd],by
    have:=F6.out;rw[HL.out,HB.out]
    simpa[hd] using this,Ho⟩
def jG (l:List Dp) (x:Int):Nat->List Dp
 |0=> []
 |k+1=>if (dpI l k).k =x then jG l x k else jG l x k++[dpI l k]
theorem z09 (l:List Dp) (x:Int):∀k,(jG l x k).length <=k
 |0=>aaa _
 |k+1=>by
  have:=z09 l x k;unfold jG
  split
  ·omega
  ·simp;omega
theorem QC {l:List Dp} {x:Int}:∀k,k<=l.length->(∀j,j<k->¬(dpI l j).k =x)->jG l x k=l.take k
 |0,_,_=>by simp[jG]
 |k+1,hk,h=>by
  have hd:dpI l k=l[k]:=by simp[dpI,List.getD,show k<l.length by omega]
  unfold jG;rw[aaq (h k o_),QC k o_ (fun j hj=>h j o_),hd,aax (show k<l.length by omega)]
theorem z0D {l:List Dp} {x:Int} {i:Nat} (hi:(dpI l i).k =x):∀k,i<k->k<=l.length->(∀j,j<k->j≠i->¬(dpI l j).k =x)->jG l x k=l.take i++(l.drop (i+1)).take (k -(i+1))
 |0,h,_,_=>absurd h o_
 |k+1,Rx,hk,h=>by
  have hd:dpI l k=l[k]:=by simp[dpI,List.getD,show k<l.length by omega]
  unfold jG
  by_cases he:k=i
  ·subst he
   rw[aao hi,QC k o_ (fun j hj=>h j o_ o_),aae];simp
  ·rw[aaq (h k o_ he),z0D hi k o_ o_ (fun j hj FZ=>h j o_ FZ),aay,hd]
   congr 1
   have hl:k -(i+1)<(l.drop (i+1)).length :=by simp;omega
   have e1:(l.drop (i+1))[k -(i+1)]=l[k]:=by
    rw[List.getElem_drop]
    congr 1
    omega
   rw[show k+1 -(i+1)=k -(i+1)+1 by omega,aax hl,e1]
theorem Jl {w:World} {ops:Array Oper} {rest:List Oper} {o:Oper} {a:Act} {Q:Exit->Act->World->Prop} (Fu:o.guard=none) (s x:Operand)
  (ho:o.op= .call { callee:= .builtin .append,args:= #[s,x],argTypes:= #[32,32] })
  (base:Nat) (v:Value) (ds:List Dp) (d:Dp) (hs:a.eval s=v) (g:Nat) (hx:a.eval x= .slice (some ⟨g,0,none⟩) 1 1) (hg:w.cell? ⟨g,0,none⟩=some (.int .i64 d.k)/\w.cell? ⟨g,1,none⟩=some (.int .i64 d.a)/\w.cell? ⟨g,2,none⟩=some (.int .i64 d.b))
  (hown:zx base w v ds) (Hm:ds.length<=1048576) (Hs:base<=w.heap.size)
  (h:∀v' w',zx base w' v' (ds++[d])->w.grownBy w' v.ownBlock->(v'.ownBlock=v.ownBlock∨v'.ownBlock=some w.heap.size)->wpList Tryz.prog ops Q rest (a.put o.dst v') w'):wpList Tryz.prog ops Q (o::rest) a w:=by
 obtain⟨i,hi,hz,Hy,gp⟩:=info_parts ki
 exact wpList_append_own_at w Fu s x 32 ho base 48 i (.agg #[.int .i64 0,.int .i64 0,.int .i64 0]) 3 24 Tryz.underlying32 hi hz Hy gp rfl (by decide) v ds.length _ hs hown ⟨g,0,none⟩ 1 1 d.cs hx rfl
  (fun j y hj=>by
   match j,hj with
   |0,hj=>cases hj;exact hg.1
   |1,hj=>cases hj;exact hg.2.1
   |2,hj=>cases hj;exact hg.2.2
   |j+3,hj=>simp[Dp.cs] at hj)
  (by intro y hy;simp[Dp.cs] at hy;rcases hy with rfl|rfl|rfl<;>rfl) (by unfold maxLen;omega) o_ Hs fun v' w' e1 e2 _ e3=>h v' w' (by
   have e4:(ds++[d]).flatMap Dp.cs=ds.flatMap Dp.cs++d.cs:=by simp
   unfold zx;rw[e4,show(ds++[d]).length =ds.length+1 by simp];exact e1) e2 e3
noncomputable def sTkB (l:List Dp) (x:Int):Bool:=qn l&& !(decide ((jG l x l.length).length =l.length))
noncomputable def sTkL (l:List Dp) (x:Int):List Dp:=if sTkB l x then jG l x l.length else l
theorem z5Q {l:List Dp} {x:Int} {k:Nat} (h:(dpI l k).k =x):jG l x (k+1)=jG l x k:=by simp only[jG];rw[aao h]
theorem z7E {l:List Dp} {x:Int} {k:Nat} (h:¬(dpI l k).k =x):jG l x (k+1)=jG l x k++[dpI l k]:=by simp only[jG];rw[aaq h]
theorem z4b (v:Value) (l:List Dp) (x:Int) (w:World) (h:RDp w v l) (hle:l.length<=1048576):
  Calls Tryz.prog 141 #[v,.int .i64 x] w (Vp (sTkL l x) (sTkB l x) w):=by
 obtain⟨A,c,rfl,hc,hm,fI⟩:=h.at_;unfold maxLen at hm;obtain⟨i0,hi,iz0,iz1,iz2⟩:=info_parts ki;have HR:=h_ h;have FB:=h_ fI;have HY:=h_ (fun k h=>z5Q (l:=l) (x:=x) (k:=k) h);have BL:=h_ (fun k h=>z7E (l:=l) (x:=x) (k:=k) h);have WZ:=h_ (z09 l x);have HB:Hid (sTkB l x=(qn l&& !(decide ((jG l x l.length).length =l.length)))):=h_ rfl;have HL:Hid (sTkL l x=if sTkB l x then jG l x l.length else l):=h_ rfl;have RW:Hid (jG l x 0=[]):=h_ rfl
 go_enter Tryz.func141,Tryz.ntmps141
 go_wp2
 go_loopw [6,7] (fun u y wr=>∃k:Nat,k<=l.length/\y= .int .i64 k/\zx w.heap.size wr u (jG l x k)/\Below w.heap.size w wr) (fun _ y _=>l.length -(intOf y).toNat)
 case atStart=>exact⟨0,aab _,rfl,by rw[RW.out];exact zN (aaa _) rfl,by exact bel_⟩
 case round=>
  obtain⟨k,hk,rfl,ho,Hd⟩:=hrel
  by_cases Hf:k<l.length
  ·have Hu:(k:Int)<(l.length:Int):=o_
   have ik1:(0:Int)<=(k:Int):=o_
   obtain⟨b,off,rfl,mu⟩:=FB.out o_;have hd:=mu.below Hd;obtain⟨q0,q1,q2⟩:=hd.2 k Hf;have Ms:=h_ (fun h=>HY.out k h);have cB:=h_ (fun h=>BL.out k h);have BJ:=WZ.out k;generalize dpI l k=D at*
   by_cases he:D.k=x
   ·have HE:=h_ (Ms.out he)
    go_wp2;go_roundw
    case rel=>exact⟨k+1,by omega,by go_num,by rw[HE.out];exact ho,Hd⟩
    case measure=>simp[intOf];omega
   ·have HE:=h_ (cB.out he)
    have e1:(D.k==x)=false:=beq_eq_false_iff_ne.2 he;generalize jG l x k=G at*
    go_wp2_with (at_builtin;refine Jl rfl _ _ rfl w.heap.size _ G D rfl wr.heap.size rfl ⟨(Blk.newAt (cs:= #[.int .i64 D.k,.int .i64 D.a,.int .i64 D.b]) rfl).cell 0,(Blk.newAt (cs:= #[.int .i64 D.k,.int .i64 D.a,.int .i64 D.b]) rfl).cell 1,(Blk.newAt (cs:= #[.int .i64 D.k,.int .i64 D.a,.int .i64 D.b]) rfl).cell 2⟩ (World.ownsRow.alloc ho _) o_ (by have:=Hd.size;simp;omega) ?_)
    intro v2 w2 Hn gu gw;have gy:Below w.heap.size w w2:=(Hd.alloc Hd.size _).grown gu (by have:=Hd.size;simp;omega) (fun q hq=>by have:=(World.ownsRow.lt ho q hq).1;omega);go_wp2;go_roundw
    case rel=>exact⟨k+1,by omega,by go_num,by rw[HE.out];exact Hn,gy⟩
    case measure=>simp[intOf];omega
  ·have gn:k=l.length:=o_
   subst gn;obtain⟨Ao,co,rfl⟩:=zx.form ho;have HO:=h_ ho
   go_wp2_with fail
   refine(Ql _ l _ (HR.out.below Hd)).mono ?_
   rintro e w3 ⟨rfl,Hg⟩;have C6:=h_ (HO.out.kept Hg);have He:=Hd.trans (Hg.mono Hd.size);generalize jG l x l.length=G at*
   cases hd:qn l
   ·have Hv:True:=trivial
    go_wp2_with (at_builtin;refine zQ rfl _ _ _ rfl w.heap.size 48 i0 (.agg #[.int .i64 0,.int .i64 0,.int .i64 0]) 3 24 Tryz.underlying32 hi iz0 iz1 iz2 rfl (by decide) (.slice (some ⟨w3.heap.size,0,none⟩) 0 0) _ 0 l.length [] (l.flatMap Dp.cs) rfl rfl (zN He.size rfl) (RDp.below (HR.out.below He) ((aaj _ _).alloc (aaa _) _)) (jF l) o_ (by decide) (by have:=He.size;simp;omega) ?_)
    intro A2 c2 w4 gz Gf _;have Ho:Below w.heap.size w w4:=(He.alloc He.size _).grown Gf (by have:=He.size;simp;omega) (fun q hq=>by cases hq;exact He.size);have F6:=h_ (show zx w.heap.size w4 (.slice A2 l.length c2) l by simpa[zx] using gz);go_wp2;exact bodyPost_ret (v:= .tuple #[.slice A2 l.length c2,.bool false]) (by simp[results,Tryz.results141,go_sem]) rfl ⟨.slice A2 l.length c2,by rw[HB.out];simp[hd,Hv],by rw[HL.out,HB.out];simpa[hd,Hv] using F6.out,Ho⟩
   ·by_cases Hm:G.length=l.length
    ·have Hv:G.length=l.length:=Hm
     go_wp2_with (at_builtin;refine zQ rfl _ _ _ rfl w.heap.size 48 i0 (.agg #[.int .i64 0,.int .i64 0,.int .i64 0]) 3 24 Tryz.underlying32 hi iz0 iz1 iz2 rfl (by decide) (.slice (some ⟨w3.heap.size,0,none⟩) 0 0) _ 0 l.length [] (l.flatMap Dp.cs) rfl rfl (zN He.size rfl) (RDp.below (HR.out.below He) ((aaj _ _).alloc (aaa _) _)) (jF l) o_ (by decide) (by have:=He.size;simp;omega) ?_)
     intro A2 c2 w4 gz Gf _;have Ho:Below w.heap.size w w4:=(He.alloc He.size _).grown Gf (by have:=He.size;simp;omega) (fun q hq=>by cases hq;exact He.size);have F6:=h_ (show zx w.heap.size w4 (.slice A2 l.length c2) l by simpa[zx] using gz);go_wp2;exact bodyPost_ret (v:= .tuple #[.slice A2 l.length c2,.bool false]) (by simp[results,Tryz.results141,go_sem]) rfl ⟨.slice A2 l.length c2,by rw[HB.out];simp[hd,Hv],by rw[HL.out,HB.out];simpa[hd,Hv] using F6.out,Ho⟩
    ·have Hv:=Hm
     have e1:((G.length:Int)==(l.length:Int))=false:=by rw[beq_eq_false_iff_ne];omega
     go_wp2;exact bodyPost_ret (v:= .tuple #[.slice Ao G.length co,.bool true]) (by simp[results,Tryz.results141,go_sem]) rfl ⟨.slice Ao G.length co,by rw[HB.out];simp[hd,Hv],by rw[HL.out,HB.out];simpa[hd,Hv] using C6.out,He⟩
theorem z3W {l:List Dp} (h:qn l=true) {i j:Nat} (hj:j<l.length) (hi:i<l.length) (Hv:j≠i):¬(dpI l j).k =(dpI l i).k :=by
 have h1:=(ym.1 h).2
 have key:∀a b,a<b->b<l.length->¬(dpI l a).k =(dpI l b).k :=by
  intro a b ml hb hc;have h2:=h1 b hb;unfold depB at h2;simp only[aaG] at h2
  have h3:=xY (l:=l) (x:=(dpI l b).k) ml hc
  simp_all
 rcases Nat.lt_or_gt_of_ne Hv with g|g
 ·exact key j i g hi
 ·exact fun hc=>key i j g hj hc.symm
theorem z6d (l:List Dp) (x:Int):sTkB l x=tkB l x/\sTkL l x=tkL l x:=by
 unfold sTkL tkL sTkB tkB tkI
 cases hd:qn l
 ·simp
 ·rcases xE l x l.length 0 with ⟨i,h1,_,h3,h4,h5⟩|⟨h1,h2⟩
  ·have hk:jG l x l.length=l.take i++l.drop (i+1):=by
    rw[z0D h4 l.length o_ (aaa _) (fun j hj FZ=>by rw[<-h4];exact z3W hd hj o_ FZ)];rw[aaK (show(l.drop (i+1)).length <=l.length -(i+1) by simp)]
   have hl:¬(l.take i++l.drop (i+1)).length =l.length:=by simp;omega
   rw[h1,hk];have hn:¬((i:Int)<0):=o_
   simp only[hl,hn,decide_false,Bool.not_false,Bool.and_self,if_true,aa5,and_self]
  ·have hk:jG l x l.length=l:=by
    rw[QC l.length (aaa _) (fun j hj=>h2 j o_ o_),aaA]
   rw[h1,hk];simp
theorem z5D (v:Value) (l:List Dp) (x:Int) (w:World) (h:RDp w v l) (hle:l.length<=1048576):
  Calls Tryz.prog 141 #[v,.int .i64 x] w (Vp (tkL l x) (tkB l x) w):=by
 obtain⟨h1,h2⟩:=z6d l x;rw[<-h1,<-h2];exact z4b v l x w h hle
noncomputable def yk (S:St) (x:Int):Bool:=ze S&&tkB S.ds x
noncomputable def yc (S:St) (x:Int):St:=if yk S x=true then⟨S.D,S.cs,tkL S.ds x,S.fund⟩ else S
theorem z9B {l:List Dp} {x:Int} (h:tkB l x=false):tkL l x=l:=by unfold tkL;rw[h];rfl
theorem Xc {S:St} {x:Int} (h:ze S=false∨tkB S.ds x=false):yc S x=S/\yk S x=false:=by
 have hb:yk S x=false:=by
  unfold yk
  rcases h with h|h<;>simp[h]
 exact⟨by unfold yc;rw[hb];rfl,hb⟩
theorem XM {S:St} {x:Int} (h1:ze S=true):yc S x=⟨S.D,S.cs,tkL S.ds x,S.fund⟩/\yk S x=tkB S.ds x:=by
 have hb:yk S x=tkB S.ds x:=by unfold yk;rw[h1];rfl
 refine⟨?_,hb⟩
 unfold yc;rw[hb]
 cases h:tkB S.ds x
 ·rw[z9B h];rfl
 ·rfl
section
variable {w wr wr':World} {v0 v1 v2 v3 v4 v5 v6 a b c d e f g:Value} {m:Int} {Z:Nat} {S:St} {fs:List SF}
theorem OutSS.newDs (h:OutSS w v0 v1 v2 v3 v4 v5 v6 m Z a b c d e f g S fs wr) (hb:Below wr.heap.size wr wr') {v:Value} {l:List Dp} (ho:zx wr.heap.size wr' v l):
  OutSS w v0 v1 v2 v3 v4 v5 v6 m Z a b c d e f v ⟨S.D,S.cs,l,S.fund⟩ fs (wr'.setCell ⟨Z,6,none⟩ v):=by
 have h1:=h.below hb;have Cw:∀k,v.ownBlock=some k->wr.heap.size<=k:=fun k hk=>(World.ownsRow.lt ho k hk).1
 have Vn:∀k,vp a b c d e f g fs k->k<wr.heap.size:=fun k hk=>(h.own.lt k hk).2
 have Gb:=h.Z_.lt
 have NB:¬vp a b c d e f v fs Z:=by
  rintro(hk|hk|hk)
  ·exact h.far (.inl hk)
  ·exact h.far (.inr (.inl hk))
  ·have:=Cw _ hk;omega
 have hO:OwnSt (w.heap.size+1+1) wr' a b c d e f v ⟨S.D,S.cs,l,S.fund⟩ fs:=
  ⟨h1.own.dr,h1.own.cs,World.ownsRow.mono ho (by have:=h.lt;omega),h1.own.d_c,fun k hk gU=>by have:=Cw k gU;have:=Vn k (.inl hk);omega,fun k hk gU=>by have:=Cw k gU;have:=Vn k (.inr (.inl hk));omega⟩
 have Hf:=h.lt;exact⟨hO.setFar (p:=⟨Z,6,none⟩) NB v,h1.X.far (p:=⟨Z,6,none⟩) (show w.heap.size≠Z by omega) v,h1.R.far (p:=⟨Z,6,none⟩) (show w.heap.size+1≠Z by omega) v,h1.Z_.set_ 6 v,h1.lt,NB,h1.blw.setCell (p:=⟨Z,6,none⟩) (show w.heap.size<=Z by omega) v⟩
end
theorem Xx (v0 v1 v2 v3 v4 v5 v6:Value) (S:St) (x:Int) (w:World) (h:RSt w v0 v1 v2 v3 v4 v5 v6 S) (hle:StLe S):
  Calls Tryz.prog 42 #[.agg #[v0,v1,v2,v3,v4,v5,v6,.int .i64 S.fund],.int .i64 x] w (ya (yc S x) (yk S x) w):=by
 obtain⟨r,hr⟩:∃r,ze S=r:=⟨_,rfl⟩;have HR:=h_ hr;have gf:=h_ hle;obtain⟨B6,d6,ev6,cO,cP,fI⟩:=h.ds.at_;subst ev6;unfold maxLen at cP;obtain⟨E,hE⟩:∃E,yc S x=E:=⟨_,rfl⟩;obtain⟨bb,H4⟩:∃bb,yk S x=bb:=⟨_,rfl⟩;rw[hE,H4];have HE:=h_ hE;have H9:=h_ H4;have HH:=h_ h
 go_enter Tryz.func42,Tryz.ntmps42
 go_wp2_with fail
 refine(qR _ _ _ _ _ _ _ S _ (HH.out.below bel_) gf.out).mono ?_
 rintro e w1 ⟨A0,a0,A1,a1,A2,a2,A3,a3,A4,a4,A5,a5,A6,a6,fs,rfl,Hj,Hb⟩;have gB:Blk w1 w.heap.size 34 #[v0,v1,v2,v3,v4,v5,.slice B6 S.ds.length d6,.int .i64 S.fund]:=Blk.below ((Blk.newAt rfl).alloc _) Hb sz_;have H6:Blk w1 (w.heap.size+1) 34 z8_:=Blk.below (Blk.newAt (by simp)) Hb sz_;have Ha:Below w.heap.size w w1:=bel_
 have Gt:OwnSt (w.heap.size+1+1) w1 (.slice A0 S.D.fn.length a0) (.slice A1 S.D.fl.length a1) (.slice A2 S.D.nn.length a2) (.slice A3 S.D.nl.length a3) (.slice A4 S.D.ss.length a4) (.slice A5 S.cs.length a5) (.slice A6 S.ds.length a6) S fs:=by simpa using Hj
 have gD:=h_ (OutSS.start Gt (aaa _) gB H6 Ha);obtain⟨x_0,x_1,x_2,x_3,x_4,x_5,x_6,x_7⟩:=gB.c8;have GR:=gB.lt
 go_wp2_with fail
 obtain⟨w2,gw⟩:∃w2,w2=w1.alloc (.cells #[.slice A0 S.D.fn.length a0,.slice A1 S.D.fl.length a1,.slice A2 S.D.nn.length a2,.slice A3 S.D.nl.length a3,.slice A4 S.D.ss.length a4,.slice A5 S.cs.length a5,.slice A6 S.ds.length a6,.int .i64 S.fund] 34):=⟨_,rfl⟩;rw[<-gw] at gD⊢;generalize w1.heap.size=Z at*;refine(qA _ _ _ _ _ _ _ S r _ (HH.out.below gD.out.blw) HR).mono ?_
 rintro e w3 ⟨rfl,Hg⟩;have Ht:=h_ (gD.out.below Hg);have gS:=Ht.out.X;obtain⟨x_0,x_1,x_2,x_3,x_4,x_5,x_6,x_7⟩:=gS.c8
 cases r
 ·obtain⟨u1,u2⟩:=Xc (S:=S) (x:=x) (.inl hr)
  have hu:S=E:=by rw[<-HE.out];exact u1.symm
  have hv:false=bb:=by rw[<-H9.out];exact u2.symm
  subst hu;subst hv;have HF:=Ht;obtain⟨_,_,hR,hZ,Gb,_,_⟩:=HF.out;obtain⟨z_0,z_1,z_2,z_3,z_4,z_5,z_6,z_7⟩:=hZ.c8;obtain⟨r_0,r_1,r_2,r_3,r_4,r_5,r_6,r_7,r_f0,r_f1,r_f2,r_f3,r_f4,r_f5,r_f6,r_f7⟩:=hR.b8;have Hl:=hR.lt;have Hx:=h_ (HF.out.fin);go_wp2;exact bodyPost_ret (v:= .tuple #[.agg (s8_ A0 A1 A2 A3 A4 A5 A6 a0 a1 a2 a3 a4 a5 a6 S),.bool false]) (by simp[results,Tryz.results42,go_sem,r_0,r_1,r_2,r_3,r_4,r_5,r_6,r_7,Hl]) rfl ⟨_,_,_,_,_,_,_,_,_,_,_,_,_,_,fs,rfl,(Hx.out _ _ _ _ _ _ _ _).1,(Hx.out _ _ _ _ _ _ _ _).2⟩
 ·obtain⟨l',Gq⟩:∃l,tkL S.ds x=l:=⟨_,rfl⟩
  obtain⟨b',gH⟩:∃b,tkB S.ds x=b:=⟨_,rfl⟩;have Bx:=h_ Gq;have fE:=h_ gH;have HDS:=h_ (HH.out.ds.below Ht.out.blw)
  go_wp2_with fail
  refine(z5P _ S.ds x _ HDS.out gf.out.ds).mono ?_
  rw[Gq,gH];rintro e w4 ⟨vt,rfl,gz,H5⟩;obtain⟨T6,t6,rfl⟩:=zx.form gz;have HF:=h_ (OutSS.newDs Ht.out H5 gz);have gx:=h_ (Ht.out.below H5);obtain⟨u1,u2⟩:=XM (S:=S) (x:=x) hr;rw[Bx.out] at u1;rw[fE.out] at u2;have hu:(⟨S.D,S.cs,l',S.fund⟩:St)=E:=by rw[<-HE.out];exact u1.symm
  have hv:b'=bb:=by rw[<-H9.out];exact u2.symm
  subst hu;subst hv;obtain⟨_,_,hR,hZ,Gb,_,_⟩:=gx.out;obtain⟨z_0,z_1,z_2,z_3,z_4,z_5,z_6,z_7,z_f0,z_f1,z_f2,z_f3,z_f4,z_f5,z_f6,z_f7⟩:=hZ.b8;obtain⟨r_0,r_1,r_2,r_3,r_4,r_5,r_6,r_7,r_f0,r_f1,r_f2,r_f3,r_f4,r_f5,r_f6,r_f7⟩:=hR.b8;have Hl:=hR.lt;have fW:=hZ.lt;have Hx:=h_ (HF.out.fin);have FM:¬Z=w.heap.size+1:=o_
  have Gr:¬w.heap.size+1=Z:=o_
  go_wp2;exact bodyPost_ret (v:= .tuple #[.agg #[.slice A0 S.D.fn.length a0,.slice A1 S.D.fl.length a1,.slice A2 S.D.nn.length a2,.slice A3 S.D.nl.length a3,.slice A4 S.D.ss.length a4,.slice A5 S.cs.length a5,.slice T6 l'.length t6,.int .i64 S.fund],.bool b']) (by simp[results,Tryz.results42,go_sem,r_0,r_1,r_2,r_3,r_4,r_5,r_6,r_7,z_0,z_1,z_2,z_3,z_4,z_5,z_6,z_7,Hl,fW,FM,Gr]) rfl ⟨_,_,_,_,_,_,_,_,_,_,_,_,_,_,fs,rfl,(Hx.out _ _ _ _ _ _ _ _).1,(Hx.out _ _ _ _ _ _ _ _).2⟩
theorem Xr (v0 v1 v2 v3 v4 v5 v6:Value) (S:St) (x:Int) (w:World) (h:RSt w v0 v1 v2 v3 v4 v5 v6 S) (hle:StLe S):
  Calls Tryz.prog 74 #[.agg #[v0,v1,v2,v3,v4,v5,v6,.int .i64 S.fund],.int .i64 x] w (ya (yc S x) (yk S x) w):=by
 obtain⟨r,hr⟩:∃r,ze S=r:=⟨_,rfl⟩;have HR:=h_ hr;have gf:=h_ hle;obtain⟨B6,d6,ev6,cO,cP,fI⟩:=h.ds.at_;subst ev6;unfold maxLen at cP;obtain⟨E,hE⟩:∃E,yc S x=E:=⟨_,rfl⟩;obtain⟨bb,H4⟩:∃bb,yk S x=bb:=⟨_,rfl⟩;rw[hE,H4];have HE:=h_ hE;have H9:=h_ H4;have HH:=h_ h
 go_enter Tryz.func74,Tryz.ntmps74
 go_wp2_with fail
 refine(jV _ _ _ _ _ _ _ S _ (HH.out.below bel_) gf.out).mono ?_
 rintro e w1 ⟨A0,a0,A1,a1,A2,a2,A3,a3,A4,a4,A5,a5,A6,a6,fs,rfl,Hj,Hb⟩;have gB:Blk w1 w.heap.size 34 #[v0,v1,v2,v3,v4,v5,.slice B6 S.ds.length d6,.int .i64 S.fund]:=Blk.below ((Blk.newAt rfl).alloc _) Hb sz_;have H6:Blk w1 (w.heap.size+1) 34 z8_:=Blk.below (Blk.newAt (by simp)) Hb sz_;have Ha:Below w.heap.size w w1:=bel_
 have Gt:OwnSt (w.heap.size+1+1) w1 (.slice A0 S.D.fn.length a0) (.slice A1 S.D.fl.length a1) (.slice A2 S.D.nn.length a2) (.slice A3 S.D.nl.length a3) (.slice A4 S.D.ss.length a4) (.slice A5 S.cs.length a5) (.slice A6 S.ds.length a6) S fs:=by simpa using Hj
 have gD:=h_ (OutSS.start Gt (aaa _) gB H6 Ha);obtain⟨x_0,x_1,x_2,x_3,x_4,x_5,x_6,x_7⟩:=gB.c8;have GR:=gB.lt
 go_wp2_with fail
 obtain⟨w2,gw⟩:∃w2,w2=w1.alloc (.cells #[.slice A0 S.D.fn.length a0,.slice A1 S.D.fl.length a1,.slice A2 S.D.nn.length a2,.slice A3 S.D.nl.length a3,.slice A4 S.D.ss.length a4,.slice A5 S.cs.length a5,.slice A6 S.ds.length a6,.int .i64 S.fund] 34):=⟨_,rfl⟩;rw[<-gw] at gD⊢;generalize w1.heap.size=Z at*;refine(jc _ _ _ _ _ _ _ S r _ (HH.out.below gD.out.blw) HR).mono ?_
 rintro e w3 ⟨rfl,Hg⟩;have Ht:=h_ (gD.out.below Hg);have gS:=Ht.out.X;obtain⟨x_0,x_1,x_2,x_3,x_4,x_5,x_6,x_7⟩:=gS.c8
 cases r
 ·obtain⟨u1,u2⟩:=Xc (S:=S) (x:=x) (.inl hr)
  have hu:S=E:=by rw[<-HE.out];exact u1.symm
  have hv:false=bb:=by rw[<-H9.out];exact u2.symm
  subst hu;subst hv;have HF:=Ht;obtain⟨_,_,hR,hZ,Gb,_,_⟩:=HF.out;obtain⟨z_0,z_1,z_2,z_3,z_4,z_5,z_6,z_7⟩:=hZ.c8;obtain⟨r_0,r_1,r_2,r_3,r_4,r_5,r_6,r_7,r_f0,r_f1,r_f2,r_f3,r_f4,r_f5,r_f6,r_f7⟩:=hR.b8;have Hl:=hR.lt;have Hx:=h_ (HF.out.fin);go_wp2;exact bodyPost_ret (v:= .tuple #[.agg (s8_ A0 A1 A2 A3 A4 A5 A6 a0 a1 a2 a3 a4 a5 a6 S),.bool false]) (by simp[results,Tryz.results74,go_sem,r_0,r_1,r_2,r_3,r_4,r_5,r_6,r_7,Hl]) rfl ⟨_,_,_,_,_,_,_,_,_,_,_,_,_,_,fs,rfl,(Hx.out _ _ _ _ _ _ _ _).1,(Hx.out _ _ _ _ _ _ _ _).2⟩
 ·obtain⟨l',Gq⟩:∃l,tkL S.ds x=l:=⟨_,rfl⟩
  obtain⟨b',gH⟩:∃b,tkB S.ds x=b:=⟨_,rfl⟩;have Bx:=h_ Gq;have fE:=h_ gH;have HDS:=h_ (HH.out.ds.below Ht.out.blw)
  go_wp2_with fail
  refine(z5D _ S.ds x _ HDS.out gf.out.ds).mono ?_
  rw[Gq,gH];rintro e w4 ⟨vt,rfl,gz,H5⟩;obtain⟨T6,t6,rfl⟩:=zx.form gz;have HF:=h_ (OutSS.newDs Ht.out H5 gz);have gx:=h_ (Ht.out.below H5)
  cases b'
  ·clear HF
   obtain⟨u1,u2⟩:=Xc (S:=S) (x:=x) (.inr fE.out);have hu:S=E:=by rw[<-HE.out];exact u1.symm
   have hv:false=bb:=by rw[<-H9.out];exact u2.symm
   subst hu;subst hv;have HF:=gx;obtain⟨_,_,hR,hZ,Gb,_,_⟩:=HF.out;obtain⟨z_0,z_1,z_2,z_3,z_4,z_5,z_6,z_7⟩:=hZ.c8;obtain⟨r_0,r_1,r_2,r_3,r_4,r_5,r_6,r_7,r_f0,r_f1,r_f2,r_f3,r_f4,r_f5,r_f6,r_f7⟩:=hR.b8;have Hl:=hR.lt;have Hx:=h_ (HF.out.fin);go_wp2;exact bodyPost_ret (v:= .tuple #[.agg (s8_ A0 A1 A2 A3 A4 A5 A6 a0 a1 a2 a3 a4 a5 a6 S),.bool false]) (by simp[results,Tryz.results74,go_sem,r_0,r_1,r_2,r_3,r_4,r_5,r_6,r_7,Hl]) rfl ⟨_,_,_,_,_,_,_,_,_,_,_,_,_,_,fs,rfl,(Hx.out _ _ _ _ _ _ _ _).1,(Hx.out _ _ _ _ _ _ _ _).2⟩
  ·obtain⟨u1,u2⟩:=XM (S:=S) (x:=x) hr
   rw[Bx.out] at u1;rw[fE.out] at u2;have hu:(⟨S.D,S.cs,l',S.fund⟩:St)=E:=by rw[<-HE.out];exact u1.symm
   have hv:true=bb:=by rw[<-H9.out];exact u2.symm
   subst hu;subst hv;obtain⟨_,_,hR,hZ,Gb,_,_⟩:=gx.out;obtain⟨z_0,z_1,z_2,z_3,z_4,z_5,z_6,z_7,z_f0,z_f1,z_f2,z_f3,z_f4,z_f5,z_f6,z_f7⟩:=hZ.b8;obtain⟨r_0,r_1,r_2,r_3,r_4,r_5,r_6,r_7,r_f0,r_f1,r_f2,r_f3,r_f4,r_f5,r_f6,r_f7⟩:=hR.b8;have Hl:=hR.lt;have fW:=hZ.lt;have Hx:=h_ (HF.out.fin);have FM:¬Z=w.heap.size+1:=o_
   have Gr:¬w.heap.size+1=Z:=o_
   go_wp2;exact bodyPost_ret (v:= .tuple #[.agg #[.slice A0 S.D.fn.length a0,.slice A1 S.D.fl.length a1,.slice A2 S.D.nn.length a2,.slice A3 S.D.nl.length a3,.slice A4 S.D.ss.length a4,.slice A5 S.cs.length a5,.slice T6 l'.length t6,.int .i64 S.fund],.bool true]) (by simp[results,Tryz.results74,go_sem,r_0,r_1,r_2,r_3,r_4,r_5,r_6,r_7,z_0,z_1,z_2,z_3,z_4,z_5,z_6,z_7,Hl,fW,FM,Gr]) rfl ⟨_,_,_,_,_,_,_,_,_,_,_,_,_,_,fs,rfl,(Hx.out _ _ _ _ _ _ _ _).1,(Hx.out _ _ _ _ _ _ _ _).2⟩
theorem Xq (base f g cap:Nat) (lb:Array Value) (G:List Nat) (c:Nat->Nat->Int) (lt:Nat->Nat->Bool) (w:World) (hc:Jc f lb G c (some g) w) (Hf:∀d e,decide (c d e<0)=lt d e)
  (ho:OwnI base w (.slice (some ⟨g,0,none⟩) G.length cap) (natI G)) (M0:G.length<=40) (ef:Enters Tryz.prog f):
  Calls Tryz.prog 246 #[.slice (some ⟨g,0,none⟩) G.length cap,.int .i64 0,.int .i64 G.length,.func (.func f) #[] lb] w
   fun e w'=>e= .returned (.tuple #[])/\OwnI base w' (.slice (some ⟨g,0,none⟩) G.length cap) (natI (isoK lt G G.length))/\w.grownBy w' (some g):=by
 go_enter Tryz.func246,Tryz.ntmps246
 go_wp2
 go_loopw [8] (fun x wr=>∃i:Nat,1<=i/\(i<=G.length∨G.length=0)/\x= .int .i64 i/\OwnI base wr (.slice (some ⟨g,0,none⟩) G.length cap) (isoH lt G (min i G.length))/\w.grownBy wr (some g)) (fun x _=>G.length -(intOf x).toNat)
 case atStart=>
  refine⟨1,aaa _,by omega,rfl,?_,qu _ _⟩
  rcases abv G.length with h0|h0
  ·rw[h0,show min 1 0=0 from rfl,ZM];rw[h0] at ho;exact ho
  ·rw[show min 1 G.length=1 by omega,z1V lt G h0];exact ho
 case round=>
  obtain⟨i,Cz,CS,rfl,Hn,hg⟩:=hrel;have EF:=h_ ef;clear ho ef
  by_cases Gg:i<G.length
  ·rw[show min i G.length=i by omega,<-QL lt G i Gg] at Hn
   have HE:=h_ (JT lt G i Gg);have NU:G.getD i 0=G[i]:=by simp[List.getD,Gg]
   have rF:G.getD i 0∈G:=by rw[NU];exact abg Gg
   have WZ:=h_ (jE lt G i o_);have HKM:=h_ (fun e h=>VY lt G e i o_ h);rw[<-NU] at HE;have W7:=h_ (fun p hp=>z0j lt G i p Gg hp);have GP:=h_ (fun p hp=>V6 lt G i p Gg hp);have M1:=h_ (fun p hp=>XV lt G i p Gg hp);have rG:=h_ (fun p hp=>z1Z lt G i p Gg hp);clear NU;generalize hD:G.getD i 0=D at*;clear hD;go_wp2
   go_loopw [9] (fun x wr2=>∃p:Nat,p<=i/\x= .int .i64 p/\OwnI base wr2 (.slice (some ⟨g,0,none⟩) G.length cap) (isoR lt G i p)/\w.grownBy wr2 (some g)/\Hid (posN (lt D) (isoK lt G i) i=posN (lt D) (isoK lt G i) p)) (fun x _=>(intOf x).toNat)
   case atStart=>exact⟨i,aaa _,rfl,Hn,hg,h_ rfl⟩
   case round=>
    clear Hn hg;obtain⟨p,hp,rfl,Hn,hg,HP⟩:=hrel
    by_cases nt:0<p
    ·obtain⟨r,rfl⟩:∃r,p=r+1:=⟨p -1,by omega⟩
     have Mn:r<i:=o_
     have xs:=Hn.cell (q:=r+1) (by rw[rG.out _ hp];omega);have xb:=Hn.cell (q:=r) (by rw[rG.out _ hp];omega);rw[W7.out _ hp] at xs;rw[GP.out r Mn] at xb;have Ck:(isoK lt G i).getD r 0∈G:=HKM.out _ (by rw[List.getD,aac (by rw[WZ.out];exact Mn)];exact abg _);have Mi:Hid (posN (lt D) (isoK lt G i) (r+1)=if lt D ((isoK lt G i).getD r 0) then posN (lt D) (isoK lt G i) r else r+1):=h_ rfl;have HS:=h_ (M1.out r Mn);have FU:=Hf D ((isoK lt G i).getD r 0);have uE:=fun v (hv:w.grownBy v (some g))=>hc v D ((isoK lt G i).getD r 0) rF Ck hv
     generalize (isoK lt G i).getD r 0=e at*;rw[<-FU] at Mi;generalize c D e=z at*;have HC:=h_ uE;clear uE FU Ck;have ir1:(0:Int)<=(r:Int):=o_
     have ir2:(r:Int)<(G.length:Int):=o_
     have ir3:((r+1:Nat):Int)<(G.length:Int):=o_
     have mP:=(Hn.lt g rfl).2;clear hc Hf;have hef:∀(args:Array Value) (w:World),(callFunc f args).run Tryz.prog w= .ok (.enter f args) w:=EF.out
     go_wp2_with fail
     (refine z7 k_ k_ (fun hG=>?_))
     repeat (go_big_quiet_step ((go_at_fn f;exact zE (HC.out _ (yM hg (Grw.below _))))))
     refine wpQuiet_nil ?_
     clear hG;rintro w3 ⟨⟨_,Hg⟩,rfl⟩;have Hq:=Hn.kept Hg;have gq:=yM hg Hg;have g0:=Hq.frz r;have g1:=Hq.frz (r+1);have ys:=Hq.cell (q:=r+1) (by rw[rG.out _ hp];omega);rw[W7.out _ hp] at ys
     have yb':w3.cell? ⟨g,r,none⟩=some (.int .i64 e):=by
      have:=(Hg.cell (p:=⟨g,r,none⟩) mP).trans xb;exact this
     clear xs xb hg Hg hef
     by_cases hz:z<0
     ·have e1:decide (z<0)=true:=by simp[hz]
      have HO:=h_ (show OwnI base ((w3.setCell ⟨g,r+1,none⟩ (.int .i64 e)).setCell ⟨g,r,none⟩ (.int .i64 D)) (.slice (some ⟨g,0,none⟩) G.length cap) (isoR lt G i r) by
       rw[<-HS.out];exact(Hq.set_ (r+1) _).set_ r _)
      have HG:=h_ (qv (qv gq (r+1) (.int .i64 e)) r (.int .i64 D));have FO:Hid (posN (lt D) (isoK lt G i) i=posN (lt D) (isoK lt G i) r):=h_ (by rw[HP.out,Mi.out,aao e1]);clear Hn Hq gq
      go_wp2_with fail
      go_region
      all_goals go_wp2
      all_goals go_roundw
      case rel=>exact⟨r,by omega,by go_num,HO.out,Vs HG.out,FO⟩
      case measure=>simp[intOf]
     ·have e1:decide (z<0)=false:=by simp[hz]
      have FO:Hid (posN (lt D) (isoK lt G i) i=r+1):=h_ (by rw[HP.out,Mi.out,e1];rfl);have HO:Hid (OwnI base w3 (.slice (some ⟨g,0,none⟩) G.length cap) (isoH lt G (i+1))):=h_ (by rw[<-HE.out,FO.out];exact Hq);clear Hn Hq;go_wp2;go_roundw
      case rel=>exact⟨i+1,by omega,by omega,by go_num,by rw[show min (i+1) G.length=i+1 by omega];exact HO.out,gq⟩
      case measure=>simp[intOf];omega
    ·have mG:p=0:=o_
     subst mG;have FO:Hid (posN (lt D) (isoK lt G i) i=0):=h_ HP.out;have HO:Hid (OwnI base wr (.slice (some ⟨g,0,none⟩) G.length cap) (isoH lt G (i+1))):=h_ (by rw[<-HE.out,FO.out];exact Hn);clear Hn hc Hf nt
     go_wp2_with fail
     (refine z7 k_ k_ (fun hG=>?_))
     repeat (go_big_quiet_step (fail))
     refine wpQuiet_nil ?_
     clear hG;rintro w3 ⟨⟨_,Hg⟩,rfl⟩;have Hq:=HO.out.kept Hg;have gq:=yM hg Hg;go_wp2;go_roundw
     case rel=>exact⟨i+1,by omega,by omega,by go_num,by rw[show min (i+1) G.length=i+1 by omega];exact Hq,gq⟩
     case measure=>simp[intOf];omega
  ·have HO:Hid (OwnI base wr (.slice (some ⟨g,0,none⟩) G.length cap) (natI (isoK lt G G.length))):=h_ (by
    rw[show min i G.length=G.length by omega,z27] at Hn;exact Hn)
   clear hc Hf Hn;go_wp2
   go_end0
   exact⟨rfl,HO.out,hg⟩
theorem z3v (base f g cap:Nat) (lb:Array Value) (G:List Nat) (c:Nat->Nat->Int) (lt:Nat->Nat->Bool) (w:World) (hc:Jc f lb G c (some g) w) (Hf:∀d e,decide (c d e<0)=lt d e)
  (ho:OwnI base w (.slice (some ⟨g,0,none⟩) G.length cap) (natI G)) (h20:G.length<20) (ef:Enters Tryz.prog f):
  Calls Tryz.prog 210 #[.slice (some ⟨g,0,none⟩) G.length cap,.int .i64 G.length,.func (.func f) #[] lb] w
   fun e w'=>e= .returned (.tuple #[])/\OwnI base w' (.slice (some ⟨g,0,none⟩) G.length cap) (natI (isoK lt G G.length))/\w.grownBy w' (some g):=by
 go_enter Tryz.func210,Tryz.ntmps210
 go_wp2;refine wp_loop_rounds 1 ?_
 rw[rounds_succ]
 go_wp2_with fail
 refine(Xq base f g cap lb G c lt _ hc Hf ho o_ ef).mono ?_
 rintro e w1 ⟨rfl,Hj,gL⟩;go_wp2;refine wp_loop_rounds 1 ?_
 rw[rounds_succ];go_wp2
 go_end0
 exact⟨rfl,Hj,gL⟩
theorem Vg (base f g cap:Nat) (lb:Array Value) (G:List Nat) (c:Nat->Nat->Int) (lt:Nat->Nat->Bool) (w:World) (hc:Jc f lb G c (some g) w) (Hf:∀d e,decide (c d e<0)=lt d e)
  (ho:OwnI base w (.slice (some ⟨g,0,none⟩) G.length cap) (natI G)) (h20:G.length<20) (ef:Enters Tryz.prog f):
  Calls Tryz.prog 150 #[.slice (some ⟨g,0,none⟩) G.length cap,.func (.func f) #[] lb] w
   fun e w'=>e= .returned (.tuple #[])/\OwnI base w' (.slice (some ⟨g,0,none⟩) G.length cap) (natI (isoK lt G G.length))/\w.grownBy w' (some g):=by
 go_enter Tryz.func150,Tryz.ntmps150
 go_wp2_with fail
 refine(z3v base f g cap lb G c lt _ hc Hf ho h20 ef).mono ?_
 rintro e w1 ⟨rfl,Hj,gL⟩;go_wp2
 go_end0
 exact⟨rfl,Hj,gL⟩
theorem Vq (f:Nat) (lb:Array Value) (w:World):
  Calls Tryz.prog 150 #[.slice none 0 0,.func (.func f) #[] lb] w
   fun e w'=>e= .returned (.tuple #[])/\Below w.heap.size w w':=by
 go_enter Tryz.func150,Tryz.ntmps150
 go_wp2_with fail
 refine Calls.mono (R:=fun e w'=>e= .returned (.tuple #[])/\Below w.heap.size w w') ?_ ?_
 ·go_enter Tryz.func210,Tryz.ntmps210
  go_wp2;refine wp_loop_rounds 1 ?_
  rw[rounds_succ]
  go_wp2_with fail
  refine(ZW f lb _).mono ?_
  rintro e w1 ⟨rfl,Hb⟩;go_wp2;refine wp_loop_rounds 1 ?_
  rw[rounds_succ];go_wp2
  go_end0
  exact⟨rfl,Hb⟩
 ·rintro e w1 ⟨rfl,Hb⟩
  go_wp2
  go_end0
  exact⟨rfl,Hb⟩
end Go.Proofs.YtnjcpljhmhdhkaaGreat
