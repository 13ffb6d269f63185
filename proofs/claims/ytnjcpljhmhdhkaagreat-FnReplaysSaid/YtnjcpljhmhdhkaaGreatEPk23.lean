/- part 23 -/
import Derived.Test.YtnjcpljhmhdhkaaGreatEPk17
set_option linter.unusedSimpArgs false
set_option linter.unusedVariables false
set_option maxRecDepth 100000
set_option maxHeartbeats 16000000
namespace Go.Proofs.YtnjcpljhmhdhkaaGreat
open Go.RowKit
def plF (l:List Dp) (x:Int):Nat->Nat->Int
 |0,_=> -1
 |m+1,k=>if (dpI l k).k =x then(k:Int) else plF l x m (k+1)
theorem z3V {l:List Dp} {x:Int} {m k:Nat} (h:(dpI l k).k =x):plF l x (m+1) k=k:=by simp only[plF];rw[aao h]
theorem z64 {l:List Dp} {x:Int} {m k:Nat} (h:¬(dpI l k).k =x):plF l x (m+1) k=plF l x m (k+1):=by simp only[plF];rw[aaq h]
theorem QG (l:List Dp) (x:Int):∀m k,(∃i:Nat,plF l x m k=i/\k<=i/\i<k+m/\(dpI l i).k =x/\∀j,k<=j->j<i->¬(dpI l j).k =x)∨(plF l x m k= -1/\∀j,k<=j->j<k+m->¬(dpI l j).k =x)
 |0,k=> .inr ⟨rfl,fun j h1 h2=>by omega⟩
 |m+1,k=>by
  by_cases h:(dpI l k).k =x
  ·exact .inl ⟨k,z3V h,aaa _,by omega,h,fun j h1 h2=>by omega⟩
  ·rw[z64 h]
   rcases QG l x m (k+1) with ⟨i,h1,h2,h3,h4,h5⟩|⟨h1,h2⟩
   ·refine .inl ⟨i,h1,by omega,by omega,h4,fun j g1 g2=>?_⟩
    by_cases e:j=k
    ·subst e;exact h
    ·exact h5 j o_ g2
   ·refine .inr ⟨h1,fun j g1 g2=>?_⟩
    by_cases e:j=k
    ·subst e;exact h
    ·exact h2 j o_ o_
theorem z84 {l:List Dp} {x:Int} {n:Nat} (h:qv l x n=true):plF l x n 0= -1:=by
 rcases QG l x n 0 with ⟨i,h1,h2,h3,h4,h5⟩|⟨h1,h2⟩
 ·rw[Zu (show i<n by omega) h4] at h;cases h
 ·exact h1
theorem z8d {l:List Dp} {x:Int} {n:Nat} (h:qv l x n=false):∃i:Nat,plF l x n 0=i/\i<n/\(dpI l i).k =x:=by
 rcases QG l x n 0 with ⟨i,h1,h2,h3,h4,h5⟩|⟨h1,h2⟩
 ·exact⟨i,h1,by omega,h4⟩
 ·have:qv l x n=true:=by
   unfold qv;rw[aaL];intro i hi;have:=h2 i o_ (by have:=List.mem_range.1 hi;omega);simp[this]
  rw[this] at h;cases h
def DpAt (w:World) (b off n:Nat) (l:List Dp):Prop:=b<w.heap.size/\∀k,k<n->w.cell? ⟨b,off+k*3,none⟩=some (.int .i64 (dpI l k).k)/\w.cell? ⟨b,off+k*3+1,none⟩=some (.int .i64 (dpI l k).a)/\w.cell? ⟨b,off+k*3+2,none⟩=some (.int .i64 (dpI l k).b)
theorem DpAt.below {w w':World} {b off n:Nat} {l:List Dp} (h:DpAt w b off n l) (hb:Below w.heap.size w w'):DpAt w' b off n l:=
 ⟨aaD h.1 hb.size,fun k hk=>⟨(hb.cell (p:=⟨b,off+k*3,none⟩) h.1).trans (h.2 k hk).1,(hb.cell (p:=⟨b,off+k*3+1,none⟩) h.1).trans (h.2 k hk).2.1,(hb.cell (p:=⟨b,off+k*3+2,none⟩) h.1).trans (h.2 k hk).2.2⟩⟩
theorem DpAt.take {w:World} {b off n m:Nat} {l:List Dp} (h:DpAt w b off n l) (hm:m<=n):DpAt w b off m l:=⟨h.1,fun k hk=>h.2 k o_⟩
theorem RDp.at_ {w:World} {v:Value} {l:List Dp} (h:RDp w v l):∃A c,v= .slice A l.length c/\l.length<=c/\l.length<=maxLen/\(0<l.length->∃b off,A=some ⟨b,off,none⟩/\DpAt w b off l.length l):=by
 obtain⟨A,c,h1,h2,h3,h4⟩:=h.form;refine⟨A,c,h1,h2,h3,fun hp=>?_⟩
 obtain⟨b,off,g1,g2,g3⟩:=h4 hp;exact⟨b,off,g1,g2,fun k hk=>by rw[jW hk];exact g3 k hk⟩
theorem z5n (p c d x:Int) (g:Nat) (w:World) (hg:g<w.heap.size) (hx:w.cell? ⟨g,0,none⟩=some (.int .i64 x)):
  CB_ 206 #[.agg #[.int .i64 p,.int .i64 c,.int .i64 d],.pointer (some ⟨g,0,none⟩)] w (.bool (p==x)):=by
 go_enter Tryz.func206,Tryz.ntmps206
 go_wp2;go_ret
 exact⟨rfl,by exact bel_⟩
theorem z2U (b off n c:Nat) (l:List Dp) (x:Int) (g:Nat) (w:World) (hd:DpAt w b off n l) (hn:n<=maxLen) (hg:g<w.heap.size) (hx:w.cell? ⟨g,0,none⟩=some (.int .i64 x)):
  Calls Tryz.prog 205 #[.slice (some ⟨b,off,none⟩) n c,.func (.func 206) #[] #[.pointer (some ⟨g,0,none⟩)]] w
   fun e w'=>e= .returned (.int .i64 (plF l x n 0))/\Below w.heap.size w w':=by
 unfold maxLen at hn;have HD:=h_ hd;have HX:=h_ hx;have HY:=h_ (fun m k h=>z3V (l:=l) (x:=x) (m:=m) (k:=k) h);have BO:=h_ (fun m k h=>z64 (l:=l) (x:=x) (m:=m) (k:=k) h);have HZ:Hid (∀k,plF l x 0 k= -1):=h_ (fun _=>rfl)
 go_enter Tryz.func205,Tryz.ntmps205
 go_wp2
 go_loopw [8] (fun y wr=>∃k:Nat,k<=n/\y= .int .i64 k/\Hid (plF l x n 0=plF l x (n -k) k)/\Below w.heap.size w wr) (fun y _=>n -(intOf y).toNat)
 case atStart=>exact⟨0,aab _,rfl,h_ rfl,aaj _ _⟩
 case round=>
  obtain⟨k,hk,rfl,HK,Hb⟩:=hrel
  by_cases Hf:k<n
  ·have Hp:(k:Int)<(n:Int):=o_
   have ik1:(0:Int)<=(k:Int):=o_
   have hd:=HD.out.below Hb;obtain⟨q0,q1,q2⟩:=hd.2 k Hf;have hgx:=(Hb.cell (p:=⟨g,0,none⟩) hg).trans HX.out;have hgl:g<wr.heap.size:=aaD hg Hb.size;have Mj:=h_ (fun h=>HY.out (n -(k+1)) k h);have FV:=h_ (fun h=>BO.out (n -(k+1)) k h);rw[show n -(k+1)+1=n -k by omega] at Mj FV;generalize dpI l k=D at*
   go_wp2_with fail
   refine(z5n _ _ _ x g _ hgl hgx).mono ?_
   rintro e w2 ⟨rfl,Hd⟩;have Ha:=Hb.trans (Hd.mono Hb.size)
   by_cases he:D.k=x
   ·have e1:(D.k==x)=true:=beq_iff_eq.2 he
    have HE:=h_ (Mj.out he);go_wp2;go_ret
    exact⟨zo (by rw[HK.out,HE.out]),Ha⟩
   ·have e1:(D.k==x)=false:=beq_eq_false_iff_ne.2 he
    have HE:=h_ (FV.out he);go_wp2;go_roundw
    case rel=>exact⟨k+1,by omega,by go_num,h_ (by rw[HK.out,HE.out]),Ha⟩
    case measure=>simp[intOf];omega
  ·have gi:k=n:=o_
   have HE:=h_ (HK.out);subst gi;rw[aae,HZ.out] at HE;go_wp2;go_ret
   exact⟨zo HE.out.symm,Hb⟩
theorem xJ (b off n c:Nat) (l:List Dp) (x r:Int) (w:World) (hd:DpAt w b off n l) (hn:n<=maxLen) (hr:plF l x n 0=r):
  CB_ 143 #[.slice (some ⟨b,off,none⟩) n c,.int .i64 x] w (.int .i64 r):=by
 subst hr;have Hg:Below w.heap.size w (w.alloc (.cells #[.int .i64 x] 3)):=bel_
 have FE:(w.alloc (.cells #[.int .i64 x] 3)).cell? ⟨w.heap.size,0,none⟩=some (.int .i64 x):=(Blk.newAt (w:=w) (t:=3) (cs:= #[.int .i64 x]) rfl).cell 0;have HC:=h_ (z2U b off n c l x w.heap.size _ (hd.below Hg) hn (by simp) FE)
 go_enter Tryz.func143,Tryz.ntmps143
 go_wp2_with fail
 refine HC.out.mono ?_
 rintro e w2 ⟨rfl,Hd⟩;have Ha:=Hg.trans (Hd.mono Hg.size);go_wp2;go_ret
 exact⟨rfl,Ha⟩
theorem xM (v:Value) (l:List Dp) (w:World) (h:RDp w v l):
  CB_ 77 #[v] w (.bool (qB l)):=by
 obtain⟨A,c,rfl,hc,hm,fr⟩:=h.at_;unfold maxLen at hm;clear h
 by_cases CA:l.length<=40
 case neg=>
  have HX:=h_ (Vv CA);have h41:(40:Int)<(l.length:Int):=o_
  go_enter Tryz.func77,Tryz.ntmps77
  go_wp2;go_ret
  exact⟨z8 HX.out.symm,aaj _ _⟩
 have h41:¬(40:Int)<(l.length:Int):=o_
 have CP:=h_ (fun k (hk:k<l.length) h=>Xr hk h);have uw:=h_ (fun k (h:xA l k) h2=>Jp h h2);have Cm:=h_ (fun (h:xA l l.length)=>yD.2 ⟨CA,h⟩)
 go_enter Tryz.func77,Tryz.ntmps77
 go_wp2
 go_loopw [10] (fun x wr=>∃k:Nat,k<=l.length/\x= .int .i64 k/\Hid (xA l k)/\Below w.heap.size w wr) (fun x _=>l.length -(intOf x).toNat)
 case atStart=>exact⟨0,aab _,rfl,h_ (Vt l),aaj _ _⟩
 case round=>
  obtain⟨k,hk,rfl,HT,Hb⟩:=hrel
  by_cases Hf:k<l.length
  ·obtain⟨b,off,rfl,hd⟩:=fr o_
   have hd:=hd.below Hb;have be:=h_ (CP.out k Hf);have GW:=h_ (uw.out k HT.out);have Hp:(k:Int)<(l.length:Int):=o_
   have ik1:(0:Int)<=(k:Int):=o_
   have ikc:(k:Int)<=(c:Int):=o_
   obtain⟨q0,q1,q2⟩:=hd.2 k Hf;have Gb:=hd.1;have M0:Hid (depB l k=(inB (dpI l k).k 1 200&&(inB (dpI l k).a 1 50&&(inB (dpI l k).b 0 9999&&((decide (k=0)||decide ((dpI l (k -1)).b <=(dpI l k).b))&&qv l (dpI l k).k k))))):=h_ rfl;have HPL:=h_ (fun h=>z84 (l:=l) (x:=(dpI l k).k) (n:=k) h);have mQ:=h_ (fun h=>z8d (l:=l) (x:=(dpI l k).k) (n:=k) h);have HDA:=h_ (hd.take (show k<=l.length by omega));have ux:=h_ (fun (r:Nat) (h:r<l.length)=>hd.2 r h);clear hd fr;generalize (dpI l k).k =dp at*;generalize (dpI l k).a =dc at*;generalize (dpI l k).b =dd at*
   go_upto_region 6 with (fail)
   obtain⟨wq,FI⟩:∃v,v=wr.alloc (.cells #[.int .i64 dp,.int .i64 dc,.int .i64 dd] 48):=⟨_,rfl⟩;have hq:Blk wq wr.heap.size 48 #[.int .i64 dp,.int .i64 dc,.int .i64 dd]:=FI▸Blk.newAt rfl;have CQ:Below wr.heap.size wr wq:=FI▸(aaj _ _).alloc (aaa _) _;rw[<-FI];clear FI;have H8:=Hb.trans (CQ.mono Hb.size);have YY:=h_ (HDA.out.below CQ);generalize wr.heap.size=B at*;have hBl:=hq.lt;have hbQ:b<wq.heap.size:=YY.out.1;obtain⟨y_0,y_1,y_2⟩:=hq.c3;have uy:=h_ (fun (r:Nat) (h:r<l.length)=>(CQ.cell (p:=⟨b,off+r*3+2,none⟩) (aaD Gb (aaa _))).trans (ux.out r h).2.2);clear q0 q1 q2 CQ Hb
   cases Ff:inB dp 1 200
   ·have HX:=h_ (be.out (by rw[M0.out,Ff];rfl))
    have HK:=h_ Ff;clear Ff
    (refine z7 k_ k_ (fun hG=>?_))
    repeat (go_big_quiet_step ((go_at_call_of 78 dp;exact zY (zu dp _ _ false _ HK.out))))
    refine wpQuiet_nil ?_
    clear hG;rintro w3 ⟨⟨_,GG⟩,rfl⟩;have Hc:=H8.trans (GG.mono H8.size);clear GG H8 y_0 y_1 y_2;go_wp2;go_ret
    exact⟨z8 HX.out.symm,Hc⟩
   ·have HK:=h_ Ff
    cases gG:inB dc 1 50
    ·have HX:=h_ (be.out (by rw[M0.out,Ff,gG];rfl))
     have HA:=h_ gG;clear Ff gG
     (refine z7 k_ k_ (fun hG=>?_))
     repeat (go_big_quiet_step ((first|(go_at_call_of 78 dp;exact zY (zu dp _ _ true _ HK.out))|(go_at_call_of 78 dc;exact zY (zu dc _ _ false _ HA.out)))))
     refine wpQuiet_nil ?_
     clear hG;rintro w3 ⟨⟨_,GG⟩,rfl⟩;have Hc:=H8.trans (GG.mono H8.size);clear GG H8 y_0 y_1 y_2;go_wp2;go_ret
     exact⟨z8 HX.out.symm,Hc⟩
    ·have HA:=h_ gG
     cases Bv:inB dd 0 9999
     ·have HX:=h_ (be.out (by rw[M0.out,Ff,gG,Bv];rfl))
      have HB:=h_ Bv;clear Ff gG Bv
      (refine z7 k_ k_ (fun hG=>?_))
      repeat (go_big_quiet_step ((first|(go_at_call_of 78 dp;exact zY (zu dp _ _ true _ HK.out))|(go_at_call_of 78 dc;exact zY (zu dc _ _ true _ HA.out))|(go_at_call_of 78 dd;exact zY (zu dd _ _ false _ HB.out)))))
      refine wpQuiet_nil ?_
      clear hG;rintro w3 ⟨⟨_,GG⟩,rfl⟩;have Hc:=H8.trans (GG.mono H8.size);clear GG H8 y_0 y_1 y_2;go_wp2;go_ret
      exact⟨z8 HX.out.symm,Hc⟩
     ·have HB:=h_ Bv
      have Fa:Hid (depB l k=((decide (k=0)||decide ((dpI l (k -1)).b <=dd))&&qv l dp k)):=h_ (by rw[M0.out,Ff,gG,Bv];rfl);clear Ff gG Bv M0
      by_cases uz:0<k
      ·obtain⟨r,rfl⟩:∃r,k=r+1:=⟨k -1,by omega⟩
       have NQ:=uy.out r o_;rw[show r+1 -1=r by omega,aaO (show ¬r+1=0 by omega),Bool.false_or] at Fa;have FQ:((r+1:Nat):Int) -1=(r:Int):=o_
       have F5:IntKind.i64.wrap (((r+1:Nat):Int) -1)=(r:Int):=by rw[FQ];exact aaP _ o_
       have ir1:(0:Int)<=(r:Int):=o_
       have ir2:(r:Int)<(l.length:Int):=o_
       generalize (dpI l r).b =pv at*
       by_cases hday:dd<pv
       ·have HX:=h_ (be.out (by rw[Fa.out,aaO o_];rfl))
        (refine z7 k_ k_ (fun hG=>?_))
        repeat (go_big_quiet_step ((first|(go_at_call_of 78 dp;exact zY (zu dp _ _ true _ HK.out))|(go_at_call_of 78 dc;exact zY (zu dc _ _ true _ HA.out))|(go_at_call_of 78 dd;exact zY (zu dd _ _ true _ HB.out)))))
        refine wpQuiet_nil ?_
        clear hG;rintro w3 ⟨⟨_,GG⟩,rfl⟩;have Hc:=H8.trans (GG.mono H8.size);clear GG H8 y_0 y_1 y_2;clear NQ F5 FQ;go_wp2;go_ret
        exact⟨z8 HX.out.symm,Hc⟩
       ·rw[aaQ (show pv<=dd by omega),aaR] at Fa
        cases bU:qv l dp (r+1)
        ·have HX:=h_ (be.out (by rw[Fa.out,bU]))
         obtain⟨i,ct,Cq,Mq⟩:=mQ.out bU;have HR:=h_ ct;clear ct Mq bU
         (refine z7 k_ k_ (fun hG=>?_))
         repeat (go_big_quiet_step ((first|(go_at_call_of 78 dp;exact zY (zu dp _ _ true _ HK.out))|(go_at_call_of 78 dc;exact zY (zu dc _ _ true _ HA.out))|(go_at_call_of 78 dd;exact zY (zu dd _ _ true _ HB.out))|(go_at_call 143;exact zI (xJ b off (r+1) c l dp _ _ (YY.out.below (Grw.below _)) (by unfold maxLen;omega) HR.out)))))
         refine wpQuiet_nil ?_
         clear hG;rintro w3 ⟨⟨_,GG⟩,rfl⟩;have Hc:=H8.trans (GG.mono H8.size);clear GG H8 y_0 y_1 y_2;clear NQ F5 FQ;go_wp2;go_ret
         exact⟨z8 HX.out.symm,Hc⟩
        ·have HX:=h_ (GW.out (by rw[Fa.out,bU]))
         have HR:=h_ (HPL.out bU);clear bU
         (refine z7 k_ k_ (fun hG=>?_))
         repeat (go_big_quiet_step ((first|(go_at_call_of 78 dp;exact zY (zu dp _ _ true _ HK.out))|(go_at_call_of 78 dc;exact zY (zu dc _ _ true _ HA.out))|(go_at_call_of 78 dd;exact zY (zu dd _ _ true _ HB.out))|(go_at_call 143;exact zI (xJ b off (r+1) c l dp _ _ (YY.out.below (Grw.below _)) (by unfold maxLen;omega) HR.out)))))
         refine wpQuiet_nil ?_
         clear hG;rintro w3 ⟨⟨_,GG⟩,rfl⟩;have Hc:=H8.trans (GG.mono H8.size);clear GG H8 y_0 y_1 y_2;clear NQ F5 FQ;go_wp2;go_roundw
         case rel=>exact⟨r+1+1,by omega,by go_num,HX,Hc⟩
         case measure=>simp[intOf];omega
      ·have uA:k=0:=o_
       subst uA;rw[aaQ (rfl:(0:Nat)=0),Bool.true_or,aaR] at Fa;clear uy ux ik1 ikc hk
       cases bU:qv l dp (0)
       ·have HX:=h_ (be.out (by rw[Fa.out,bU]))
        obtain⟨i,ct,Cq,Mq⟩:=mQ.out bU;exact absurd Cq o_
       ·have HX:=h_ (GW.out (by rw[Fa.out,bU]))
        have HR:=h_ (HPL.out bU);clear bU
        (refine z7 k_ k_ (fun hG=>?_))
        repeat (go_big_quiet_step ((first|(go_at_call_of 78 dp;exact zY (zu dp _ _ true _ HK.out))|(go_at_call_of 78 dc;exact zY (zu dc _ _ true _ HA.out))|(go_at_call_of 78 dd;exact zY (zu dd _ _ true _ HB.out))|(go_at_call 143;exact zI (xJ b off (0) c l dp _ _ (YY.out.below (Grw.below _)) (by unfold maxLen;omega) HR.out)))))
        refine wpQuiet_nil ?_
        clear hG;rintro w3 ⟨⟨_,GG⟩,rfl⟩;have Hc:=H8.trans (GG.mono H8.size);clear GG H8 y_0 y_1 y_2;go_wp2;go_roundw
        case rel=>exact⟨0+1,by omega,by go_num,HX,Hc⟩
        case measure=>simp[intOf];omega
  ·have gi:k=l.length:=o_
   subst gi;have HX:=h_ (Cm.out HT.out);clear fr;go_wp2;go_ret
   exact⟨z8 HX.out.symm,Hb⟩
theorem Zb (v:Value) (l:List Dp) (w:World) (h:RDp w v l):
  CB_ 137 #[v] w (.bool (qB l)):=by
 obtain⟨A,c,rfl,hc,hm,fr⟩:=h.at_;unfold maxLen at hm;clear h;obtain⟨b4,Hw⟩:∃x,decide ((l.length:Int)<=40)=x:=⟨_,rfl⟩;have BQ:=h_ Hw;have CP:=h_ (fun k (hk:k<l.length) h=>Xr hk h);have uw:=h_ (fun k (h:xA l k) h2=>Jp h h2)
 have Cm:Hid (xA l l.length->qB l=b4):=h_ (fun h=>by
  cases b4
  ·have h2:=of_decide_eq_false Hw
   exact Vv o_
  ·have h2:=of_decide_eq_true Hw
   exact yD.2 ⟨by omega,h⟩)
 clear Hw
 go_enter Tryz.func137,Tryz.ntmps137
 go_wp2
 go_loopw [3] (fun x wr=>∃k:Nat,k<=l.length/\x= .int .i64 k/\Hid (xA l k)/\Below w.heap.size w wr) (fun x _=>l.length -(intOf x).toNat)
 case atStart=>exact⟨0,aab _,rfl,h_ (Vt l),aaj _ _⟩
 case round=>
  obtain⟨k,hk,rfl,HT,Hb⟩:=hrel
  by_cases Hf:k<l.length
  ·obtain⟨b,off,rfl,hd⟩:=fr o_
   have hd:=hd.below Hb;have be:=h_ (CP.out k Hf);have GW:=h_ (uw.out k HT.out);have Hp:(k:Int)<(l.length:Int):=o_
   have ik1:(0:Int)<=(k:Int):=o_
   obtain⟨q0,q1,q2⟩:=hd.2 k Hf;have Gb:=hd.1;have M0:Hid (depB l k=(inB (dpI l k).k 1 200&&(inB (dpI l k).a 1 50&&(inB (dpI l k).b 0 9999&&((decide (k=0)||decide ((dpI l (k -1)).b <=(dpI l k).b))&&qv l (dpI l k).k k))))):=h_ rfl;have HNB:=h_ (fun (j:Nat) (h1:j<k) (h2:(dpI l j).k =(dpI l k).k)=>Zu (l:=l) h1 h2);have wh:=h_ (fun (j:Nat)=>z0B l (dpI l k).k j);have bK:=h_ (z0l l (dpI l k).k);have ux:=h_ (fun (r:Nat) (h:r<l.length)=>hd.2 r h);clear hd;generalize (dpI l k).k =dp at*;generalize (dpI l k).a =dc at*;generalize (dpI l k).b =dd at*
   go_upto_region 5 with (fail)
   obtain⟨wq,FI⟩:∃v,v=wr.alloc (.cells #[.int .i64 dp,.int .i64 dc,.int .i64 dd] 48):=⟨_,rfl⟩;have hq:Blk wq wr.heap.size 48 #[.int .i64 dp,.int .i64 dc,.int .i64 dd]:=FI▸Blk.newAt rfl;have CQ:Below wr.heap.size wr wq:=FI▸(aaj _ _).alloc (aaa _) _;rw[<-FI];clear FI;have H8:=Hb.trans (CQ.mono Hb.size);generalize wr.heap.size=B at*;have hBl:=hq.lt;have hbQ:b<wq.heap.size:=o_
   obtain⟨y_0,y_1,y_2⟩:=hq.c3;have uy:=h_ (fun (r:Nat) (h:r<l.length)=>And.intro ((CQ.cell (p:=⟨b,off+r*3,none⟩) Gb).trans (ux.out r h).1) ((CQ.cell (p:=⟨b,off+r*3+2,none⟩) Gb).trans (ux.out r h).2.2));clear q0 q1 q2 CQ Hb
   cases Ff:inB dp 1 200
   ·have HX:=h_ (be.out (by rw[M0.out,Ff];rfl))
    have HK:=h_ Ff;clear Ff
    (refine z7 k_ k_ (fun hG=>?_))
    repeat (go_big_quiet_step ((go_at_call_of 138 dp;exact zY (zP dp _ _ false _ HK.out))))
    refine wpQuiet_nil ?_
    clear hG;rintro w3 ⟨⟨_,GG⟩,rfl⟩;have Hc:=H8.trans (GG.mono H8.size);clear GG H8 y_0 y_1 y_2;go_wp2;go_ret
    exact⟨z8 HX.out.symm,Hc⟩
   ·have HK:=h_ Ff
    cases gG:inB dc 1 50
    ·have HX:=h_ (be.out (by rw[M0.out,Ff,gG];rfl))
     have HA:=h_ gG;clear Ff gG
     (refine z7 k_ k_ (fun hG=>?_))
     repeat (go_big_quiet_step ((first|(go_at_call_of 138 dp;exact zY (zP dp _ _ true _ HK.out))|(go_at_call_of 138 dc;exact zY (zP dc _ _ false _ HA.out)))))
     refine wpQuiet_nil ?_
     clear hG;rintro w3 ⟨⟨_,GG⟩,rfl⟩;have Hc:=H8.trans (GG.mono H8.size);clear GG H8 y_0 y_1 y_2;go_wp2;go_ret
     exact⟨z8 HX.out.symm,Hc⟩
    ·have HA:=h_ gG
     cases Bv:inB dd 0 9999
     ·have HX:=h_ (be.out (by rw[M0.out,Ff,gG,Bv];rfl))
      have HB:=h_ Bv;clear Ff gG Bv
      (refine z7 k_ k_ (fun hG=>?_))
      repeat (go_big_quiet_step ((first|(go_at_call_of 138 dp;exact zY (zP dp _ _ true _ HK.out))|(go_at_call_of 138 dc;exact zY (zP dc _ _ true _ HA.out))|(go_at_call_of 138 dd;exact zY (zP dd _ _ false _ HB.out)))))
      refine wpQuiet_nil ?_
      clear hG;rintro w3 ⟨⟨_,GG⟩,rfl⟩;have Hc:=H8.trans (GG.mono H8.size);clear GG H8 y_0 y_1 y_2;go_wp2;go_ret
      exact⟨z8 HX.out.symm,Hc⟩
     ·have HB:=h_ Bv
      have Fa:Hid (depB l k=((decide (k=0)||decide ((dpI l (k -1)).b <=dd))&&qv l dp k)):=h_ (by rw[M0.out,Ff,gG,Bv];rfl);clear Ff gG Bv M0
      by_cases uz:0<k
      ·obtain⟨r,rfl⟩:∃r,k=r+1:=⟨k -1,by omega⟩
       have NQ:=(uy.out r o_).2;rw[show r+1 -1=r by omega,aaO (show ¬r+1=0 by omega),Bool.false_or] at Fa;have FQ:((r+1:Nat):Int) -1=(r:Int):=o_
       have F5:IntKind.i64.wrap (((r+1:Nat):Int) -1)=(r:Int):=by rw[FQ];exact aaP _ o_
       have ir1:(0:Int)<=(r:Int):=o_
       have ir2:(r:Int)<(l.length:Int):=o_
       generalize (dpI l r).b =pv at*
       by_cases hday:dd<pv
       ·have HX:=h_ (be.out (by rw[Fa.out,aaO o_];rfl))
        (refine z7 k_ k_ (fun hG=>?_))
        repeat (go_big_quiet_step ((first|(go_at_call_of 138 dp;exact zY (zP dp _ _ true _ HK.out))|(go_at_call_of 138 dc;exact zY (zP dc _ _ true _ HA.out))|(go_at_call_of 138 dd;exact zY (zP dd _ _ true _ HB.out)))))
        refine wpQuiet_nil ?_
        clear hG;rintro w3 ⟨⟨_,GG⟩,rfl⟩;have Hc:=H8.trans (GG.mono H8.size);clear GG H8 y_0 y_1 y_2 NQ F5 FQ;go_wp2;go_ret
        exact⟨z8 HX.out.symm,Hc⟩
       ·rw[aaQ (show pv<=dd by omega),aaR] at Fa
        (refine z7 k_ k_ (fun hG=>?_))
        repeat (go_big_quiet_step ((first|(go_at_call_of 138 dp;exact zY (zP dp _ _ true _ HK.out))|(go_at_call_of 138 dc;exact zY (zP dc _ _ true _ HA.out))|(go_at_call_of 138 dd;exact zY (zP dd _ _ true _ HB.out)))))
        refine wpQuiet_nil ?_
        clear hG;rintro w3 ⟨⟨_,GG⟩,rfl⟩;have Hc:=H8.trans (GG.mono H8.size);have rJ:=hq.below (GG.mono (aaa _)) hBl;have HPC3:=h_ (fun (r:Nat) (h:r<l.length)=>(GG.cell (p:=⟨b,off+r*3,none⟩) hbQ).trans (uy.out r h).1);have Wn:=aaD hbQ GG.size;clear GG H8 y_0 y_1 y_2 hq uy ux;clear NQ F5 FQ;obtain⟨y_0,y_1,y_2⟩:=rJ.c3;have GO:=rJ.lt;go_wp2
        go_loopw [5] (fun x wr=>∃j:Nat,j<=(r+1)/\x= .int .i64 j/\Hid (qv l dp j=true)/\Below w3.heap.size w3 wr) (fun x _=>(r+1) -(intOf x).toNat)
        case atStart=>exact⟨0,aab _,rfl,bK,aaj _ _⟩
        case round=>
         obtain⟨j,hj,rfl,HJ,mp⟩:=hrel
         by_cases FH:j<(r+1)
         ·have hjk1:(j:Int)<(((r+1):Nat):Int):=o_
          have ij1:(0:Int)<=(j:Int):=o_
          have ij2:(j:Int)<(l.length:Int):=o_
          have wZ:=(mp.cell (p:=⟨b,off+j*3,none⟩) Wn).trans (HPC3.out j o_);have hq4:=rJ.below mp GO;have Hw:=aaD Wn mp.size;have mL:=hq4.lt;clear y_0 y_1 y_2;obtain⟨y_0,y_1,y_2⟩:=hq4.c3;have HNB1:=h_ (fun h=>HNB.out j FH h);have HNS1:=h_ (wh.out j);generalize (dpI l j).k =pj at*
          by_cases he:pj=dp
          ·have e1:(pj==dp)=true:=beq_iff_eq.2 he
           have HX:=h_ (be.out (by rw[Fa.out];exact HNB1.out he));clear he
           go_wp2_with fail
           (refine z7 k_ k_ (fun hG=>?_))
           repeat (go_big_quiet_step (fail))
           refine wpQuiet_nil ?_
           clear hG;rintro w5 ⟨⟨_,G1⟩,rfl⟩;have uB:=mp.trans (G1.mono mp.size);clear G1 mp wZ y_0 y_1 y_2;go_wp2;go_ret
           exact⟨z8 HX.out.symm,Hc.trans (uB.mono Hc.size)⟩
          ·have e1:(pj==dp)=false:=beq_eq_false_iff_ne.2 he
           have HX:=h_ (HNS1.out.trans (by rw[HJ.out,aaQ he]<;>rfl));clear he
           go_wp2_with fail
           (refine z7 k_ k_ (fun hG=>?_))
           repeat (go_big_quiet_step (fail))
           refine wpQuiet_nil ?_
           clear hG;rintro w5 ⟨⟨_,G1⟩,rfl⟩;have uB:=mp.trans (G1.mono mp.size);clear G1 mp wZ y_0 y_1 y_2;go_wp2;go_roundw
           case rel=>exact⟨j+1,by omega,by go_num,HX,uB⟩
           case measure=>simp[intOf];omega
         ·have GP:j=(r+1):=o_
          subst GP;have HX:=h_ (GW.out (by rw[Fa.out];exact HJ.out));have Hv:=Hc.trans (mp.mono Hc.size);clear y_0 y_1 y_2;go_wp2;go_roundw
          case rel=>exact⟨(r+1)+1,by omega,by go_num,HX,Hv⟩
          case measure=>simp[intOf];omega
      ·have uA:k=0:=o_
       subst uA;rw[aaQ (rfl:(0:Nat)=0),Bool.true_or,aaR] at Fa;clear ik1 hk
       (refine z7 k_ k_ (fun hG=>?_))
       repeat (go_big_quiet_step ((first|(go_at_call_of 138 dp;exact zY (zP dp _ _ true _ HK.out))|(go_at_call_of 138 dc;exact zY (zP dc _ _ true _ HA.out))|(go_at_call_of 138 dd;exact zY (zP dd _ _ true _ HB.out)))))
       refine wpQuiet_nil ?_
       clear hG;rintro w3 ⟨⟨_,GG⟩,rfl⟩;have Hc:=H8.trans (GG.mono H8.size);have rJ:=hq.below (GG.mono (aaa _)) hBl;clear GG H8 y_0 y_1 y_2 hq uy ux
       skip
       obtain⟨y_0,y_1,y_2⟩:=rJ.c3;go_wp2
       go_loopw [5] (fun x wr=>∃j:Nat,j<=0/\x= .int .i64 j/\Hid (qv l dp j=true)/\Below w3.heap.size w3 wr) (fun x _=>0 -(intOf x).toNat)
       case atStart=>exact⟨0,aab _,rfl,bK,aaj _ _⟩
       case round=>
        obtain⟨j,hj,rfl,HJ,mp⟩:=hrel
        by_cases FH:j<0
        ·exact absurd FH o_
        ·have GP:j=0:=o_
         subst GP;have HX:=h_ (GW.out (by rw[Fa.out];exact HJ.out));have Hv:=Hc.trans (mp.mono Hc.size);clear y_0 y_1 y_2;go_wp2;go_roundw
         case rel=>exact⟨0+1,by omega,by go_num,HX,Hv⟩
         case measure=>simp[intOf];omega
  ·have gi:k=l.length:=o_
   subst gi;have HX:=h_ (Cm.out HT.out);have fX:=BQ.out;clear fr
   cases b4
   ·go_wp2
    go_ret
    exact⟨z8 HX.out.symm,Hb⟩
   ·go_wp2
    go_ret
    exact⟨z8 HX.out.symm,Hb⟩
end Go.Proofs.YtnjcpljhmhdhkaaGreat
