/- part 25 -/
import Derived.Test.YtnjcpljhmhdhkaaGreatTPk21
import Derived.Test.YtnjcpljhmhdhkaaGreatTPk24
set_option linter.unusedSimpArgs false
set_option linter.unusedVariables false
set_option maxRecDepth 100000
set_option maxHeartbeats 32000000
namespace Go.Proofs.YtnjcpljhmhdhkaaGreat
open Go.RowKit
theorem z7m (v:Value) (l:List Dp) (b:Bool) (w:World) (h:RDp w v l) (hb:qn l=b):
  CB_ 137 #[v] w (.bool b):=by
 subst hb;exact Ql v l w h
theorem z7l (v:Value) (l:List Dp) (b:Bool) (w:World) (h:RDp w v l) (hb:qn l=b):
  CB_ 77 #[v] w (.bool b):=by
 subst hb;exact Qa v l w h
def yx (l:List Dp) (P:Int) (k:Nat):Prop:=∀j,j<k->(dpI l j).k <=P
theorem yU {l:List Dp} {P:Int} (h:yx l P l.length):l.all (fun d=>decide (d.k<=P))=true:=by
 rw[aaL];intro d hd;obtain⟨j,hj,rfl⟩:=aba hd;have:=h j hj;rw[y6 hj] at this
 simpa using this
theorem Qd {l:List Dp} {P:Int} {k:Nat} (hk:k<l.length) (h:P<(dpI l k).k):l.all (fun d=>decide (d.k<=P))=false:=by
 cases hc:l.all (fun d=>decide (d.k<=P))
 ·rfl
 ·have:=List.all_eq_true.1 hc l[k] (abg hk)
  rw[y6 hk] at h;simp at this
  omega
theorem xd {l:List Dp} {P:Int} {k:Nat} (h:yx l P k) (hk:(dpI l k).k <=P):yx l P (k+1):=fun j hj=>by
 by_cases e:j=k
 ·subst e;exact hk
 ·exact h j o_
theorem z6N (v0 v1 v2 v3 v4 v5 v6:Value) (S:St) (w:World) (h:RSt w v0 v1 v2 v3 v4 v5 v6 S):
  CB_ 17 #[.agg #[v0,v1,v2,v3,v4,v5,v6,.int .i64 S.fund]] w (.bool (ze S)):=by
 obtain⟨B2,d2,ev2,_⟩:=h.dr.nn.formI;obtain⟨B3,d3,ev3,_⟩:=h.dr.nl.formI;obtain⟨B5,d5,ev5,Cs,YS,_⟩:=h.cs.form;obtain⟨B6,d6,ev6,cO,cP,fI⟩:=h.ds.at_;subst ev2 ev3 ev5 ev6;unfold maxLen at YS cP;have Hi:Below w.heap.size w (w.alloc (.cells #[v0,v1,.slice B2 S.D.nn.length d2,.slice B3 S.D.nl.length d3,v4,.slice B5 S.cs.length d5,.slice B6 S.ds.length d6,.int .i64 S.fund] 34)):=bel_
 have F8:Blk (w.alloc (.cells #[v0,v1,.slice B2 S.D.nn.length d2,.slice B3 S.D.nl.length d3,v4,.slice B5 S.cs.length d5,.slice B6 S.ds.length d6,.int .i64 S.fund] 34)) w.heap.size 34 #[v0,v1,.slice B2 S.D.nn.length d2,.slice B3 S.D.nl.length d3,v4,.slice B5 S.cs.length d5,.slice B6 S.ds.length d6,.int .i64 S.fund]:=Blk.newAt rfl;have FB:=h_ fI;have HH:=h_ h;clear fI h;obtain⟨od,rf⟩:∃x,okD S.D=x:=⟨_,rfl⟩;obtain⟨dB,UL⟩:∃x,qn S.ds=x:=⟨_,rfl⟩;obtain⟨fB,UM⟩:∃x,inB S.fund 0 1000000=x:=⟨_,rfl⟩;obtain⟨pB,UN⟩:∃x,q7 S.D.nn S.D.nl S.cs=x:=⟨_,rfl⟩;obtain⟨wB,UO⟩:∃x,zf S.D.nn S.D.nl=x:=⟨_,rfl⟩;obtain⟨P,hP⟩:∃x,qF S.D.nn S.D.nl=x:=⟨_,rfl⟩;have fv:Hid (ze S=(od&&(dB&&(fB&&((decide (S.cs.length=0)||pB)&&((decide (S.ds.length=0)||wB)&&S.ds.all (fun d=>decide (d.k<=P)))))))):=h_ (by unfold ze;rw[rf,UL,UM,UN,UO,hP]);have HOD:=h_ rf;have HDB:=h_ UL;have HFB:=h_ UM;have HPB:=h_ UN;have UP:=h_ UO;have MJ:=h_ hP;clear rf UL UM UN UO hP
 go_enter Tryz.func17,Tryz.ntmps17
 go_wp2_with fail
 refine(Z0 _ _ _ _ _ S.D od _ (HH.out.dr.below Hi) HOD).mono ?_
 rintro e w1 ⟨rfl,Hb⟩;have Ha:=Hi.trans (Hb.mono Hi.size);have gB:=F8.below Hb F8.lt;clear Hb Hi F8
 cases od
 ·have HX:Hid (ze S=false):=h_ (by rw[fv.out];rfl)
  go_wp2;go_ret
  exact⟨z8 HX.out.symm,Ha⟩
 obtain⟨x_0,x_1,x_2,x_3,x_4,x_5,x_6,x_7⟩:=gB.c8
 go_wp2_with fail
 refine(z7l _ S.ds dB _ (HH.out.ds.below Ha) HDB.out).mono ?_
 rintro e w2 ⟨rfl,Hh⟩;have Hc:=Ha.trans (Hh.mono Ha.size);have fi:=gB.below Hh gB.lt;clear Hh Ha gB x_0 x_1 x_2 x_3 x_4 x_5 x_6 x_7
 cases dB
 ·have HX:Hid (ze S=false):=h_ (by rw[fv.out];rfl)
  go_wp2;go_ret
  exact⟨z8 HX.out.symm,Hc⟩
 obtain⟨x_0,x_1,x_2,x_3,x_4,x_5,x_6,x_7⟩:=fi.c8;have Nn:=fi.lt
 go_wp2_with fail
 refine(zn S.fund 0 1000000 fB _ HFB.out).mono ?_
 rintro e w' ⟨rfl,rfl⟩
 cases fB
 ·have HX:Hid (ze S=false):=h_ (by rw[fv.out];rfl)
  go_wp2;go_ret
  exact⟨z8 HX.out.symm,Hc⟩
 go_upto_region 4 with (fail)
 obtain⟨w3,f8⟩:∃u,u=w2.alloc (.cells #[.slice B2 S.D.nn.length d2,.slice B3 S.D.nl.length d3] 27):=⟨_,rfl⟩;have bz:Blk w3 w2.heap.size 27 #[.slice B2 S.D.nn.length d2,.slice B3 S.D.nl.length d3]:=f8▸Blk.newAt rfl;have Hg:Below w2.heap.size w2 w3:=f8▸(aaj _ _).alloc (aaa _) _;rw[<-f8];clear f8;have He:=Hc.trans (Hg.mono Hc.size);have gS:=fi.below Hg Nn;have UQ:=gS.lt;have UR:=bz.lt;clear Hg Hc fi x_0 x_1 x_2 x_3 x_4 x_5 x_6 x_7 Nn;generalize w2.heap.size=Nb at*;obtain⟨x_0,x_1,x_2,x_3,x_4,x_5,x_6,x_7⟩:=gS.c8;obtain⟨n_0,n_1⟩:=bz.c2
 by_cases br:0<S.cs.length
 ·have e1:(0:Int)<(S.cs.length:Int):=o_
  have MK:Hid (decide (S.cs.length=0)=false):=h_ (aaO o_)
  go_wp2_with fail
  refine(yS _ _ _ S.D.nn S.D.nl S.cs pB _ (HH.out.dr.nn.below He) (HH.out.dr.nl.below He) (HH.out.cs.below He) HPB.out).mono ?_
  rintro e w4 ⟨rfl,H5⟩;have Ho:=He.trans (H5.mono He.size);have G7:=gS.below H5 gS.lt;have nf:=bz.below H5 bz.lt;clear H5 He gS bz UQ UR x_0 x_1 x_2 x_3 x_4 x_5 x_6 x_7 n_0 n_1;have Y9:=G7.lt;have up:=nf.lt;obtain⟨x_0,x_1,x_2,x_3,x_4,x_5,x_6,x_7⟩:=G7.c8;obtain⟨n_0,n_1⟩:=nf.c2;clear e1 br
  cases pB
  ·have HX:Hid (ze S=false):=h_ (by rw[fv.out,MK.out];simp)
   go_wp2;go_ret
   exact⟨z8 HX.out.symm,Ho⟩
  ·skip
   by_cases mu:0<S.ds.length
   ·have e2:(0:Int)<(S.ds.length:Int):=o_
    have BW:Hid (decide (S.ds.length=0)=false):=h_ (aaO o_)
    go_wp2_with fail
    refine(j8 _ _ S.D.nn S.D.nl wB _ (HH.out.dr.nn.below Ho) (HH.out.dr.nl.below Ho) UP.out).mono ?_
    rintro e w5 ⟨rfl,gk⟩;have H8:=Ho.trans (gk.mono Ho.size);have Ca:=G7.below gk G7.lt;have Bv:=nf.below gk nf.lt;clear gk Ho G7 nf Y9 up x_0 x_1 x_2 x_3 x_4 x_5 x_6 x_7 n_0 n_1;have US:=Ca.lt;have UT:=Bv.lt;obtain⟨x_0,x_1,x_2,x_3,x_4,x_5,x_6,x_7⟩:=Ca.c8;obtain⟨n_0,n_1⟩:=Bv.c2;clear e2
    cases wB
    ·have HX:Hid (ze S=false):=h_ (by rw[fv.out,BW.out];simp)
     go_wp2;go_ret
     exact⟨z8 HX.out.symm,H8⟩
    ·skip
     have UU:=h_ (fun k (hk:k<S.ds.length) (h:P<(dpI S.ds k).k)=>Qd hk h);have nW:=h_ (fun k (h:yx S.ds P k) h2=>xd (k:=k) h h2);have No:=h_ (fun (h:yx S.ds P S.ds.length)=>yU h);clear x_0 x_1 x_2 x_3 x_4 x_5 x_6 x_7 n_0 n_1;obtain⟨x_0,x_1,x_2,x_3,x_4,x_5,x_6,x_7⟩:=Ca.c8;obtain⟨n_0,n_1⟩:=Bv.c2;go_wp2
     go_loopw [50] (fun y wr=>∃k:Nat,k<=S.ds.length/\y= .int .i64 k/\Hid (yx S.ds P k)/\Below w5.heap.size w5 wr) (fun y _=>S.ds.length -(intOf y).toNat)
     case atStart=>exact⟨0,aab _,rfl,h_ (fun j hj=>absurd hj o_),aaj _ _⟩
     case round=>
      obtain⟨k,hk,rfl,HT,Hd⟩:=hrel;clear x_0 x_1 x_2 x_3 x_4 x_5 x_6 x_7 n_0 n_1;have Fo:=H8.trans (Hd.mono H8.size);have ML:=Ca.below Hd US;have BY:=Bv.below Hd UT;have UV:=BY.lt;obtain⟨x_0,x_1,x_2,x_3,x_4,x_5,x_6,x_7⟩:=ML.c8;obtain⟨n_0,n_1⟩:=BY.c2
      by_cases Hf:k<S.ds.length
      ·obtain⟨b,off,rfl,hd⟩:=FB.out o_
       have hd:=hd.below Fo;obtain⟨q0,q1,q2⟩:=hd.2 k Hf;have Hu:(k:Int)<(S.ds.length:Int):=o_
       have ik1:(0:Int)<=(k:Int):=o_
       have Mg:=h_ (UU.out k Hf);have GZ:=h_ (nW.out k HT.out);clear hd;generalize dpI S.ds k=D at*
       go_upto_region 9 with (fail)
       obtain⟨wq,cD⟩:∃v,v=wr.alloc (.cells #[.int .i64 D.k,.int .i64 D.a,.int .i64 D.b] 48):=⟨_,rfl⟩;have hq:Blk wq wr.heap.size 48 #[.int .i64 D.k,.int .i64 D.a,.int .i64 D.b]:=cD▸Blk.newAt rfl;have bv:Below wr.heap.size wr wq:=cD▸(aaj _ _).alloc (aaa _) _;rw[<-cD];clear cD;have vq:=BY.below bv UV;have hNlq:=vq.lt;have Np:=Fo.trans (bv.mono Fo.size);have cQ:=Hd.trans (bv.mono Hd.size);have rn:=HH.out.dr.nn.below Np;have rl:=HH.out.dr.nl.below Np;have mr:=hq.lt;clear x_0 x_1 x_2 x_3 x_4 x_5 x_6 x_7 n_0 n_1 q0 q1 q2 ML BY bv Hd Fo;obtain⟨y_0,y_1,y_2⟩:=hq.c3;obtain⟨n_0,n_1⟩:=vq.c2;generalize wr.heap.size=Bq at*
       by_cases hp:P<D.k
       ·have e1:decide (P<D.k)=true:=aaQ hp
        have HX:Hid (ze S=false):=h_ (by rw[fv.out,Mg.out hp];simp);clear hp
        go_wp2_with fail
        (refine z7 k_ k_ (fun hG=>?_))
        repeat (go_big_quiet_step ((go_at_call 22;exact zE (yO _ _ S.D.nn S.D.nl P _ (rn.below (Grw.below _)) (rl.below (Grw.below _)) MJ.out))))
        refine wpQuiet_nil ?_
        clear hG;rintro w8 ⟨⟨_,Nq⟩,rfl⟩;have mY:=cQ.trans (Nq.mono cQ.size);clear Nq cQ y_0 y_1 y_2 n_0 n_1;go_wp2;go_ret
        exact⟨z8 HX.out.symm,H8.trans (mY.mono H8.size)⟩
       ·have e1:decide (P<D.k)=false:=aaO hp
        have HX:=h_ (GZ.out o_);clear hp
        go_wp2_with fail
        (refine z7 k_ k_ (fun hG=>?_))
        repeat (go_big_quiet_step ((go_at_call 22;exact zE (yO _ _ S.D.nn S.D.nl P _ (rn.below (Grw.below _)) (rl.below (Grw.below _)) MJ.out))))
        refine wpQuiet_nil ?_
        clear hG;rintro w8 ⟨⟨_,Nq⟩,rfl⟩;have mY:=cQ.trans (Nq.mono cQ.size);clear Nq cQ y_0 y_1 y_2 n_0 n_1;go_wp2;go_roundw
        case rel=>exact⟨k+1,by omega,by go_num,HX,mY⟩
        case measure=>simp[intOf];omega
      ·have gn:k=S.ds.length:=o_
       subst gn;have cU:=h_ (No.out HT.out);have HX:Hid (ze S=true):=h_ (by rw[fv.out,cU.out,MK.out,BW.out];rfl);go_wp2;go_ret
       exact⟨z8 HX.out.symm,Fo⟩
   ·have e2:¬(0:Int)<(S.ds.length:Int):=o_
    have BW:Hid (decide (S.ds.length=0)=true):=h_ (aaQ o_);clear mu;have No:=h_ (fun (h:yx S.ds P S.ds.length)=>yU h);clear x_0 x_1 x_2 x_3 x_4 x_5 x_6 x_7 n_0 n_1;obtain⟨x_0,x_1,x_2,x_3,x_4,x_5,x_6,x_7⟩:=G7.c8;obtain⟨n_0,n_1⟩:=nf.c2;go_wp2
    go_loopw [50] (fun y wr=>∃k:Nat,k<=S.ds.length/\y= .int .i64 k/\Hid (yx S.ds P k)/\Below w4.heap.size w4 wr) (fun y _=>S.ds.length -(intOf y).toNat)
    case atStart=>exact⟨0,aab _,rfl,h_ (fun j hj=>absurd hj o_),aaj _ _⟩
    case round=>
     obtain⟨k,hk,rfl,HT,Hd⟩:=hrel;clear x_0 x_1 x_2 x_3 x_4 x_5 x_6 x_7 n_0 n_1;have Fo:=Ho.trans (Hd.mono Ho.size);have ML:=G7.below Hd Y9;have BY:=nf.below Hd up;obtain⟨x_0,x_1,x_2,x_3,x_4,x_5,x_6,x_7⟩:=ML.c8;obtain⟨n_0,n_1⟩:=BY.c2
     by_cases Hf:k<S.ds.length
     ·exact absurd Hf o_
     ·have gn:k=S.ds.length:=o_
      subst gn;have cU:=h_ (No.out HT.out);have HX:Hid (ze S=true):=h_ (by rw[fv.out,cU.out,MK.out,BW.out];rfl);go_wp2;go_ret
      exact⟨z8 HX.out.symm,Fo⟩
 ·have e1:¬(0:Int)<(S.cs.length:Int):=o_
  have MK:Hid (decide (S.cs.length=0)=true):=h_ (aaQ o_);clear br
  by_cases mu:0<S.ds.length
  ·have e2:(0:Int)<(S.ds.length:Int):=o_
   have BW:Hid (decide (S.ds.length=0)=false):=h_ (aaO o_)
   go_wp2_with fail
   refine(j8 _ _ S.D.nn S.D.nl wB _ (HH.out.dr.nn.below He) (HH.out.dr.nl.below He) UP.out).mono ?_
   rintro e w5 ⟨rfl,gk⟩;have H8:=He.trans (gk.mono He.size);have Ca:=gS.below gk gS.lt;have Bv:=bz.below gk bz.lt;clear gk He gS bz UQ UR x_0 x_1 x_2 x_3 x_4 x_5 x_6 x_7 n_0 n_1;have US:=Ca.lt;have UT:=Bv.lt;obtain⟨x_0,x_1,x_2,x_3,x_4,x_5,x_6,x_7⟩:=Ca.c8;obtain⟨n_0,n_1⟩:=Bv.c2;clear e2
   cases wB
   ·have HX:Hid (ze S=false):=h_ (by rw[fv.out,BW.out];simp)
    go_wp2;go_ret
    exact⟨z8 HX.out.symm,H8⟩
   ·skip
    have UU:=h_ (fun k (hk:k<S.ds.length) (h:P<(dpI S.ds k).k)=>Qd hk h);have nW:=h_ (fun k (h:yx S.ds P k) h2=>xd (k:=k) h h2);have No:=h_ (fun (h:yx S.ds P S.ds.length)=>yU h);clear x_0 x_1 x_2 x_3 x_4 x_5 x_6 x_7 n_0 n_1;obtain⟨x_0,x_1,x_2,x_3,x_4,x_5,x_6,x_7⟩:=Ca.c8;obtain⟨n_0,n_1⟩:=Bv.c2;go_wp2
    go_loopw [50] (fun y wr=>∃k:Nat,k<=S.ds.length/\y= .int .i64 k/\Hid (yx S.ds P k)/\Below w5.heap.size w5 wr) (fun y _=>S.ds.length -(intOf y).toNat)
    case atStart=>exact⟨0,aab _,rfl,h_ (fun j hj=>absurd hj o_),aaj _ _⟩
    case round=>
     obtain⟨k,hk,rfl,HT,Hd⟩:=hrel;clear x_0 x_1 x_2 x_3 x_4 x_5 x_6 x_7 n_0 n_1;have Fo:=H8.trans (Hd.mono H8.size);have ML:=Ca.below Hd US;have BY:=Bv.below Hd UT;have UV:=BY.lt;obtain⟨x_0,x_1,x_2,x_3,x_4,x_5,x_6,x_7⟩:=ML.c8;obtain⟨n_0,n_1⟩:=BY.c2
     by_cases Hf:k<S.ds.length
     ·obtain⟨b,off,rfl,hd⟩:=FB.out o_
      have hd:=hd.below Fo;obtain⟨q0,q1,q2⟩:=hd.2 k Hf;have Hu:(k:Int)<(S.ds.length:Int):=o_
      have ik1:(0:Int)<=(k:Int):=o_
      have Mg:=h_ (UU.out k Hf);have GZ:=h_ (nW.out k HT.out);clear hd;generalize dpI S.ds k=D at*
      go_upto_region 9 with (fail)
      obtain⟨wq,cD⟩:∃v,v=wr.alloc (.cells #[.int .i64 D.k,.int .i64 D.a,.int .i64 D.b] 48):=⟨_,rfl⟩;have hq:Blk wq wr.heap.size 48 #[.int .i64 D.k,.int .i64 D.a,.int .i64 D.b]:=cD▸Blk.newAt rfl;have bv:Below wr.heap.size wr wq:=cD▸(aaj _ _).alloc (aaa _) _;rw[<-cD];clear cD;have vq:=BY.below bv UV;have hNlq:=vq.lt;have Np:=Fo.trans (bv.mono Fo.size);have cQ:=Hd.trans (bv.mono Hd.size);have rn:=HH.out.dr.nn.below Np;have rl:=HH.out.dr.nl.below Np;have mr:=hq.lt;clear x_0 x_1 x_2 x_3 x_4 x_5 x_6 x_7 n_0 n_1 q0 q1 q2 ML BY bv Hd Fo;obtain⟨y_0,y_1,y_2⟩:=hq.c3;obtain⟨n_0,n_1⟩:=vq.c2;generalize wr.heap.size=Bq at*
      by_cases hp:P<D.k
      ·have e1:decide (P<D.k)=true:=aaQ hp
       have HX:Hid (ze S=false):=h_ (by rw[fv.out,Mg.out hp];simp);clear hp
       go_wp2_with fail
       (refine z7 k_ k_ (fun hG=>?_))
       repeat (go_big_quiet_step ((go_at_call 22;exact zE (yO _ _ S.D.nn S.D.nl P _ (rn.below (Grw.below _)) (rl.below (Grw.below _)) MJ.out))))
       refine wpQuiet_nil ?_
       clear hG;rintro w8 ⟨⟨_,Nq⟩,rfl⟩;have mY:=cQ.trans (Nq.mono cQ.size);clear Nq cQ y_0 y_1 y_2 n_0 n_1;go_wp2;go_ret
       exact⟨z8 HX.out.symm,H8.trans (mY.mono H8.size)⟩
      ·have e1:decide (P<D.k)=false:=aaO hp
       have HX:=h_ (GZ.out o_);clear hp
       go_wp2_with fail
       (refine z7 k_ k_ (fun hG=>?_))
       repeat (go_big_quiet_step ((go_at_call 22;exact zE (yO _ _ S.D.nn S.D.nl P _ (rn.below (Grw.below _)) (rl.below (Grw.below _)) MJ.out))))
       refine wpQuiet_nil ?_
       clear hG;rintro w8 ⟨⟨_,Nq⟩,rfl⟩;have mY:=cQ.trans (Nq.mono cQ.size);clear Nq cQ y_0 y_1 y_2 n_0 n_1;go_wp2;go_roundw
       case rel=>exact⟨k+1,by omega,by go_num,HX,mY⟩
       case measure=>simp[intOf];omega
     ·have gn:k=S.ds.length:=o_
      subst gn;have cU:=h_ (No.out HT.out);have HX:Hid (ze S=true):=h_ (by rw[fv.out,cU.out,MK.out,BW.out];rfl);go_wp2;go_ret
      exact⟨z8 HX.out.symm,Fo⟩
  ·have e2:¬(0:Int)<(S.ds.length:Int):=o_
   have BW:Hid (decide (S.ds.length=0)=true):=h_ (aaQ o_);clear mu;have No:=h_ (fun (h:yx S.ds P S.ds.length)=>yU h);clear x_0 x_1 x_2 x_3 x_4 x_5 x_6 x_7 n_0 n_1;obtain⟨x_0,x_1,x_2,x_3,x_4,x_5,x_6,x_7⟩:=gS.c8;obtain⟨n_0,n_1⟩:=bz.c2;go_wp2
   go_loopw [50] (fun y wr=>∃k:Nat,k<=S.ds.length/\y= .int .i64 k/\Hid (yx S.ds P k)/\Below w3.heap.size w3 wr) (fun y _=>S.ds.length -(intOf y).toNat)
   case atStart=>exact⟨0,aab _,rfl,h_ (fun j hj=>absurd hj o_),aaj _ _⟩
   case round=>
    obtain⟨k,hk,rfl,HT,Hd⟩:=hrel;clear x_0 x_1 x_2 x_3 x_4 x_5 x_6 x_7 n_0 n_1;have Fo:=He.trans (Hd.mono He.size);have ML:=gS.below Hd UQ;have BY:=bz.below Hd UR;obtain⟨x_0,x_1,x_2,x_3,x_4,x_5,x_6,x_7⟩:=ML.c8;obtain⟨n_0,n_1⟩:=BY.c2
    by_cases Hf:k<S.ds.length
    ·exact absurd Hf o_
    ·have gn:k=S.ds.length:=o_
     subst gn;have cU:=h_ (No.out HT.out);have HX:Hid (ze S=true):=h_ (by rw[fv.out,cU.out,MK.out,BW.out];rfl);go_wp2;go_ret
     exact⟨z8 HX.out.symm,Fo⟩
theorem z7P (v0 v1 v2 v3 v4 v5 v6:Value) (S:St) (w:World) (h:RSt w v0 v1 v2 v3 v4 v5 v6 S):
  CB_ 70 #[.agg #[v0,v1,v2,v3,v4,v5,v6,.int .i64 S.fund]] w (.bool (ze S)):=by
 obtain⟨B2,d2,ev2,_⟩:=h.dr.nn.formI;obtain⟨B3,d3,ev3,_⟩:=h.dr.nl.formI;obtain⟨B5,d5,ev5,Cs,YS,_⟩:=h.cs.form;obtain⟨B6,d6,ev6,cO,cP,fI⟩:=h.ds.at_;subst ev2 ev3 ev5 ev6;unfold maxLen at YS cP;have Hi:Below w.heap.size w (w.alloc (.cells #[v0,v1,.slice B2 S.D.nn.length d2,.slice B3 S.D.nl.length d3,v4,.slice B5 S.cs.length d5,.slice B6 S.ds.length d6,.int .i64 S.fund] 34)):=bel_
 have F8:Blk (w.alloc (.cells #[v0,v1,.slice B2 S.D.nn.length d2,.slice B3 S.D.nl.length d3,v4,.slice B5 S.cs.length d5,.slice B6 S.ds.length d6,.int .i64 S.fund] 34)) w.heap.size 34 #[v0,v1,.slice B2 S.D.nn.length d2,.slice B3 S.D.nl.length d3,v4,.slice B5 S.cs.length d5,.slice B6 S.ds.length d6,.int .i64 S.fund]:=Blk.newAt rfl;have FB:=h_ fI;have HH:=h_ h;clear fI h;obtain⟨od,rf⟩:∃x,okD S.D=x:=⟨_,rfl⟩;obtain⟨dB,UL⟩:∃x,qn S.ds=x:=⟨_,rfl⟩;obtain⟨fB,UM⟩:∃x,inB S.fund 0 1000000=x:=⟨_,rfl⟩;obtain⟨pB,UN⟩:∃x,q7 S.D.nn S.D.nl S.cs=x:=⟨_,rfl⟩;obtain⟨wB,UO⟩:∃x,zf S.D.nn S.D.nl=x:=⟨_,rfl⟩;obtain⟨P,hP⟩:∃x,qF S.D.nn S.D.nl=x:=⟨_,rfl⟩;have fv:Hid (ze S=(od&&(dB&&(fB&&((decide (S.cs.length=0)||pB)&&((decide (S.ds.length=0)||wB)&&S.ds.all (fun d=>decide (d.k<=P)))))))):=h_ (by unfold ze;rw[rf,UL,UM,UN,UO,hP]);have HOD:=h_ rf;have HDB:=h_ UL;have HFB:=h_ UM;have HPB:=h_ UN;have UP:=h_ UO;have MJ:=h_ hP;clear rf UL UM UN UO hP
 go_enter Tryz.func70,Tryz.ntmps70
 go_wp2_with fail
 refine(z1e _ _ _ _ _ S.D od _ (HH.out.dr.below Hi) HOD).mono ?_
 rintro e w1 ⟨rfl,Hb⟩;have Ha:=Hi.trans (Hb.mono Hi.size);have gB:=F8.below Hb F8.lt;clear Hb Hi F8
 cases od
 ·have HX:Hid (ze S=false):=h_ (by rw[fv.out];rfl)
  go_wp2;go_ret
  exact⟨z8 HX.out.symm,Ha⟩
 obtain⟨x_0,x_1,x_2,x_3,x_4,x_5,x_6,x_7⟩:=gB.c8
 go_wp2_with fail
 refine(z7m _ S.ds dB _ (HH.out.ds.below Ha) HDB.out).mono ?_
 rintro e w2 ⟨rfl,Hh⟩;have Hc:=Ha.trans (Hh.mono Ha.size);have fi:=gB.below Hh gB.lt;clear Hh Ha gB x_0 x_1 x_2 x_3 x_4 x_5 x_6 x_7
 cases dB
 ·have HX:Hid (ze S=false):=h_ (by rw[fv.out];rfl)
  go_wp2;go_ret
  exact⟨z8 HX.out.symm,Hc⟩
 obtain⟨x_0,x_1,x_2,x_3,x_4,x_5,x_6,x_7⟩:=fi.c8;have Nn:=fi.lt
 go_wp2_with fail
 refine(zP S.fund 0 1000000 fB _ HFB.out).mono ?_
 rintro e w' ⟨rfl,rfl⟩
 cases fB
 ·have HX:Hid (ze S=false):=h_ (by rw[fv.out];rfl)
  go_wp2;go_ret
  exact⟨z8 HX.out.symm,Hc⟩
 go_upto_region 4 with (fail)
 obtain⟨w3,f8⟩:∃u,u=w2.alloc (.cells #[.slice B2 S.D.nn.length d2,.slice B3 S.D.nl.length d3] 27):=⟨_,rfl⟩;have bz:Blk w3 w2.heap.size 27 #[.slice B2 S.D.nn.length d2,.slice B3 S.D.nl.length d3]:=f8▸Blk.newAt rfl;have Hg:Below w2.heap.size w2 w3:=f8▸(aaj _ _).alloc (aaa _) _;rw[<-f8];clear f8;have He:=Hc.trans (Hg.mono Hc.size);have gS:=fi.below Hg Nn;clear Hg Hc fi x_0 x_1 x_2 x_3 x_4 x_5 x_6 x_7 Nn;generalize w2.heap.size=Nb at*;obtain⟨x_0,x_1,x_2,x_3,x_4,x_5,x_6,x_7⟩:=gS.c8;obtain⟨n_0,n_1⟩:=bz.c2
 by_cases br:0<S.cs.length
 ·have e1:(0:Int)<(S.cs.length:Int):=o_
  have MK:Hid (decide (S.cs.length=0)=false):=h_ (aaO o_)
  go_wp2_with fail
  refine(VG _ _ _ S.D.nn S.D.nl S.cs pB _ (HH.out.dr.nn.below He) (HH.out.dr.nl.below He) (HH.out.cs.below He) HPB.out).mono ?_
  rintro e w4 ⟨rfl,H5⟩;have Ho:=He.trans (H5.mono He.size);have G7:=gS.below H5 gS.lt;have nf:=bz.below H5 bz.lt;clear H5 He gS bz x_0 x_1 x_2 x_3 x_4 x_5 x_6 x_7 n_0 n_1;obtain⟨x_0,x_1,x_2,x_3,x_4,x_5,x_6,x_7⟩:=G7.c8;obtain⟨n_0,n_1⟩:=nf.c2;clear e1 br
  cases pB
  ·have HX:Hid (ze S=false):=h_ (by rw[fv.out,MK.out];simp)
   go_wp2;go_ret
   exact⟨z8 HX.out.symm,Ho⟩
  ·skip
   go_wp2_with fail
   refine(Zu _ _ S.D.nn S.D.nl P _ (HH.out.dr.nn.below Ho) (HH.out.dr.nl.below Ho) MJ.out).mono ?_
   rintro e w6 ⟨rfl,gJ⟩;have Gi:=Ho.trans (gJ.mono Ho.size);have bB:=G7.below gJ G7.lt;have Nr:=nf.below gJ nf.lt;clear gJ Ho G7 nf x_0 x_1 x_2 x_3 x_4 x_5 x_6 x_7 n_0 n_1;have UW:=bB.lt;have UX:=Nr.lt;obtain⟨x_0,x_1,x_2,x_3,x_4,x_5,x_6,x_7⟩:=bB.c8;obtain⟨n_0,n_1⟩:=Nr.c2;have UU:=h_ (fun k (hk:k<S.ds.length) (h:P<(dpI S.ds k).k)=>Qd hk h);have nW:=h_ (fun k (h:yx S.ds P k) h2=>xd (k:=k) h h2);have No:=h_ (fun (h:yx S.ds P S.ds.length)=>yU h);clear x_0 x_1 x_2 x_3 x_4 x_5 x_6 x_7 n_0 n_1;obtain⟨x_0,x_1,x_2,x_3,x_4,x_5,x_6,x_7⟩:=bB.c8;obtain⟨n_0,n_1⟩:=Nr.c2;go_wp2
   go_loopw [5] (fun y wr=>∃k:Nat,k<=S.ds.length/\y= .int .i64 k/\Hid (yx S.ds P k)/\Below w6.heap.size w6 wr) (fun y _=>S.ds.length -(intOf y).toNat)
   case atStart=>exact⟨0,aab _,rfl,h_ (fun j hj=>absurd hj o_),aaj _ _⟩
   case round=>
    obtain⟨k,hk,rfl,HT,Hd⟩:=hrel;clear x_0 x_1 x_2 x_3 x_4 x_5 x_6 x_7 n_0 n_1;have Fo:=Gi.trans (Hd.mono Gi.size);have ML:=bB.below Hd UW;have BY:=Nr.below Hd UX;obtain⟨x_0,x_1,x_2,x_3,x_4,x_5,x_6,x_7⟩:=ML.c8;obtain⟨n_0,n_1⟩:=BY.c2
    by_cases Hf:k<S.ds.length
    ·obtain⟨b,off,rfl,hd⟩:=FB.out o_
     have hd:=hd.below Fo;obtain⟨q0,q1,q2⟩:=hd.2 k Hf;have Hu:(k:Int)<(S.ds.length:Int):=o_
     have ik1:(0:Int)<=(k:Int):=o_
     have Mg:=h_ (UU.out k Hf);have GZ:=h_ (nW.out k HT.out);clear hd;generalize dpI S.ds k=D at*
     by_cases hp:P<D.k
     ·have e1:decide (P<D.k)=true:=aaQ hp
      have HX:Hid (ze S=false):=h_ (by rw[fv.out,Mg.out hp];simp);clear hp;go_wp2;go_ret
      exact⟨z8 HX.out.symm,Fo⟩
     ·have e1:decide (P<D.k)=false:=aaO hp
      have HX:=h_ (GZ.out o_);clear hp;go_wp2;go_roundw
      case rel=>exact⟨k+1,by omega,by go_num,HX,Hd⟩
      case measure=>simp[intOf];omega
    ·have gn:k=S.ds.length:=o_
     subst gn;have cU:=h_ (No.out HT.out)
     by_cases mu:S.ds.length=0
     ·have HX:Hid (ze S=true):=h_ (by rw[fv.out,cU.out,MK.out,aaQ mu];rfl)
      go_wp2;go_ret
      exact⟨z8 HX.out.symm,Fo⟩
     ·have HX:Hid (ze S=wB):=h_ (by rw[fv.out,cU.out,MK.out,aaO mu];cases wB<;>rfl)
      have e1:((S.ds.length:Int)==0)=false:=beq_eq_false_iff_ne.2 o_
      go_wp2_with fail
      refine(qU _ _ S.D.nn S.D.nl wB _ (HH.out.dr.nn.below Fo) (HH.out.dr.nl.below Fo) UP.out).mono ?_
      rintro e w9 ⟨rfl,Cv⟩;have UY:=Fo.trans (Cv.mono Fo.size);clear e1;go_wp2;go_ret
      exact⟨z8 HX.out.symm,UY⟩
 ·have e1:¬(0:Int)<(S.cs.length:Int):=o_
  have MK:Hid (decide (S.cs.length=0)=true):=h_ (aaQ o_);clear br
  go_wp2_with fail
  refine(Zu _ _ S.D.nn S.D.nl P _ (HH.out.dr.nn.below He) (HH.out.dr.nl.below He) MJ.out).mono ?_
  rintro e w6 ⟨rfl,gJ⟩;have Gi:=He.trans (gJ.mono He.size);have bB:=gS.below gJ gS.lt;have Nr:=bz.below gJ bz.lt;clear gJ He gS bz x_0 x_1 x_2 x_3 x_4 x_5 x_6 x_7 n_0 n_1;have UW:=bB.lt;have UX:=Nr.lt;obtain⟨x_0,x_1,x_2,x_3,x_4,x_5,x_6,x_7⟩:=bB.c8;obtain⟨n_0,n_1⟩:=Nr.c2;have UU:=h_ (fun k (hk:k<S.ds.length) (h:P<(dpI S.ds k).k)=>Qd hk h);have nW:=h_ (fun k (h:yx S.ds P k) h2=>xd (k:=k) h h2);have No:=h_ (fun (h:yx S.ds P S.ds.length)=>yU h);clear x_0 x_1 x_2 x_3 x_4 x_5 x_6 x_7 n_0 n_1;obtain⟨x_0,x_1,x_2,x_3,x_4,x_5,x_6,x_7⟩:=bB.c8;obtain⟨n_0,n_1⟩:=Nr.c2;go_wp2
  go_loopw [5] (fun y wr=>∃k:Nat,k<=S.ds.length/\y= .int .i64 k/\Hid (yx S.ds P k)/\Below w6.heap.size w6 wr) (fun y _=>S.ds.length -(intOf y).toNat)
  case atStart=>exact⟨0,aab _,rfl,h_ (fun j hj=>absurd hj o_),aaj _ _⟩
  case round=>
   obtain⟨k,hk,rfl,HT,Hd⟩:=hrel;clear x_0 x_1 x_2 x_3 x_4 x_5 x_6 x_7 n_0 n_1;have Fo:=Gi.trans (Hd.mono Gi.size);have ML:=bB.below Hd UW;have BY:=Nr.below Hd UX;obtain⟨x_0,x_1,x_2,x_3,x_4,x_5,x_6,x_7⟩:=ML.c8;obtain⟨n_0,n_1⟩:=BY.c2
   by_cases Hf:k<S.ds.length
   ·obtain⟨b,off,rfl,hd⟩:=FB.out o_
    have hd:=hd.below Fo;obtain⟨q0,q1,q2⟩:=hd.2 k Hf;have Hu:(k:Int)<(S.ds.length:Int):=o_
    have ik1:(0:Int)<=(k:Int):=o_
    have Mg:=h_ (UU.out k Hf);have GZ:=h_ (nW.out k HT.out);clear hd;generalize dpI S.ds k=D at*
    by_cases hp:P<D.k
    ·have e1:decide (P<D.k)=true:=aaQ hp
     have HX:Hid (ze S=false):=h_ (by rw[fv.out,Mg.out hp];simp);clear hp;go_wp2;go_ret
     exact⟨z8 HX.out.symm,Fo⟩
    ·have e1:decide (P<D.k)=false:=aaO hp
     have HX:=h_ (GZ.out o_);clear hp;go_wp2;go_roundw
     case rel=>exact⟨k+1,by omega,by go_num,HX,Hd⟩
     case measure=>simp[intOf];omega
   ·have gn:k=S.ds.length:=o_
    subst gn;have cU:=h_ (No.out HT.out)
    by_cases mu:S.ds.length=0
    ·have HX:Hid (ze S=true):=h_ (by rw[fv.out,cU.out,MK.out,aaQ mu];rfl)
     go_wp2;go_ret
     exact⟨z8 HX.out.symm,Fo⟩
    ·have HX:Hid (ze S=wB):=h_ (by rw[fv.out,cU.out,MK.out,aaO mu];cases wB<;>rfl)
     have e1:((S.ds.length:Int)==0)=false:=beq_eq_false_iff_ne.2 o_
     go_wp2_with fail
     refine(qU _ _ S.D.nn S.D.nl wB _ (HH.out.dr.nn.below Fo) (HH.out.dr.nl.below Fo) UP.out).mono ?_
     rintro e w9 ⟨rfl,Cv⟩;have UY:=Fo.trans (Cv.mono Fo.size);clear e1;go_wp2;go_ret
     exact⟨z8 HX.out.symm,UY⟩
theorem jc (v0 v1 v2 v3 v4 v5 v6:Value) (S:St) (r:Bool) (w:World) (h:RSt w v0 v1 v2 v3 v4 v5 v6 S) (hx:Hid (ze S=r)):
  CB_ 70 #[.agg #[v0,v1,v2,v3,v4,v5,v6,.int .i64 S.fund]] w (.bool r):=by
 rw[<-hx.out];exact z7P v0 v1 v2 v3 v4 v5 v6 S w h
theorem qA (v0 v1 v2 v3 v4 v5 v6:Value) (S:St) (r:Bool) (w:World) (h:RSt w v0 v1 v2 v3 v4 v5 v6 S) (hx:Hid (ze S=r)):
  CB_ 17 #[.agg #[v0,v1,v2,v3,v4,v5,v6,.int .i64 S.fund]] w (.bool r):=by
 rw[<-hx.out];exact z6N v0 v1 v2 v3 v4 v5 v6 S w h
end Go.Proofs.YtnjcpljhmhdhkaaGreat
