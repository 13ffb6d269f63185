/- part 23 -/
import Derived.Test.YtnjcpljhmhdhkaaGreatTPk18
set_option linter.unusedSimpArgs false
set_option linter.unusedVariables false
set_option maxRecDepth 100000
set_option maxHeartbeats 16000000
namespace Go.Proofs.YtnjcpljhmhdhkaaGreat
open Go.RowKit
def plF (l:List Dp) (x:Int):Nat->Nat->Int
 |0,_=> -1
 |m+1,k=>if (dpI l k).k =x then(k:Int) else plF l x m (k+1)
theorem z52 {l:List Dp} {x:Int} {m k:Nat} (h:(dpI l k).k =x):plF l x (m+1) k=k:=by simp only[plF];rw[aao h]
theorem z6t {l:List Dp} {x:Int} {m k:Nat} (h:¬(dpI l k).k =x):plF l x (m+1) k=plF l x m (k+1):=by simp only[plF];rw[aaq h]
theorem xE (l:List Dp) (x:Int):∀m k,(∃i:Nat,plF l x m k=i/\k<=i/\i<k+m/\(dpI l i).k =x/\∀j,k<=j->j<i->¬(dpI l j).k =x)∨(plF l x m k= -1/\∀j,k<=j->j<k+m->¬(dpI l j).k =x)
 |0,k=> .inr ⟨rfl,fun j h1 h2=>by omega⟩
 |m+1,k=>by
  by_cases h:(dpI l k).k =x
  ·exact .inl ⟨k,z52 h,aaa _,by omega,h,fun j h1 h2=>by omega⟩
  ·rw[z6t h]
   rcases xE l x m (k+1) with ⟨i,h1,h2,h3,h4,h5⟩|⟨h1,h2⟩
   ·refine .inl ⟨i,h1,by omega,by omega,h4,fun j g1 g2=>?_⟩
    by_cases e:j=k
    ·subst e;exact h
    ·exact h5 j o_ g2
   ·refine .inr ⟨h1,fun j g1 g2=>?_⟩
    by_cases e:j=k
    ·subst e;exact h
    ·exact h2 j o_ o_
theorem z9h {l:List Dp} {x:Int} {n:Nat} (h:qB l x n=true):plF l x n 0= -1:=by
 rcases xE l x n 0 with ⟨i,h1,h2,h3,h4,h5⟩|⟨h1,h2⟩
 ·rw[xY (show i<n by omega) h4] at h;cases h
 ·exact h1
theorem z99 {l:List Dp} {x:Int} {n:Nat} (h:qB l x n=false):∃i:Nat,plF l x n 0=i/\i<n/\(dpI l i).k =x:=by
 rcases xE l x n 0 with ⟨i,h1,h2,h3,h4,h5⟩|⟨h1,h2⟩
 ·exact⟨i,h1,by omega,h4⟩
 ·have:qB l x n=true:=by
   unfold qB;rw[aaL];intro i hi;have:=h2 i o_ (by have:=List.mem_range.1 hi;omega);simp[this]
  rw[this] at h;cases h
def DpAt (w:World) (b off n:Nat) (l:List Dp):Prop:=b<w.heap.size/\∀k,k<n->w.cell? ⟨b,off+k*3,none⟩=some (.int .i64 (dpI l k).k)/\w.cell? ⟨b,off+k*3+1,none⟩=some (.int .i64 (dpI l k).a)/\w.cell? ⟨b,off+k*3+2,none⟩=some (.int .i64 (dpI l k).b)
theorem DpAt.below {w w':World} {b off n:Nat} {l:List Dp} (h:DpAt w b off n l) (hb:Below w.heap.size w w'):DpAt w' b off n l:=
 ⟨aaD h.1 hb.size,fun k hk=>⟨(hb.cell (p:=⟨b,off+k*3,none⟩) h.1).trans (h.2 k hk).1,(hb.cell (p:=⟨b,off+k*3+1,none⟩) h.1).trans (h.2 k hk).2.1,(hb.cell (p:=⟨b,off+k*3+2,none⟩) h.1).trans (h.2 k hk).2.2⟩⟩
theorem DpAt.take {w:World} {b off n m:Nat} {l:List Dp} (h:DpAt w b off n l) (hm:m<=n):DpAt w b off m l:=⟨h.1,fun k hk=>h.2 k o_⟩
theorem RDp.at_ {w:World} {v:Value} {l:List Dp} (h:RDp w v l):∃A c,v= .slice A l.length c/\l.length<=c/\l.length<=maxLen/\(0<l.length->∃b off,A=some ⟨b,off,none⟩/\DpAt w b off l.length l):=by
 obtain⟨A,c,h1,h2,h3,h4⟩:=h.form;refine⟨A,c,h1,h2,h3,fun hp=>?_⟩
 obtain⟨b,off,g1,g2,g3⟩:=h4 hp;exact⟨b,off,g1,g2,fun k hk=>by rw[y6 hk];exact g3 k hk⟩
theorem z5g (p c d x:Int) (g:Nat) (w:World) (hg:g<w.heap.size) (hx:w.cell? ⟨g,0,none⟩=some (.int .i64 x)):
  CB_ 206 #[.agg #[.int .i64 p,.int .i64 c,.int .i64 d],.pointer (some ⟨g,0,none⟩)] w (.bool (p==x)):=by
 go_enter Tryz.func206,Tryz.ntmps206
 go_wp2;go_ret
 exact⟨rfl,by exact bel_⟩
theorem z4l (b off n c:Nat) (l:List Dp) (x:Int) (g:Nat) (w:World) (hd:DpAt w b off n l) (hn:n<=maxLen) (hg:g<w.heap.size) (hx:w.cell? ⟨g,0,none⟩=some (.int .i64 x)):
  Calls Tryz.prog 205 #[.slice (some ⟨b,off,none⟩) n c,.func (.func 206) #[] #[.pointer (some ⟨g,0,none⟩)]] w
   fun e w'=>e= .returned (.int .i64 (plF l x n 0))/\Below w.heap.size w w':=by
 unfold maxLen at hn;have HD:=h_ hd;have HX:=h_ hx;have HY:=h_ (fun m k h=>z52 (l:=l) (x:=x) (m:=m) (k:=k) h);have BL:=h_ (fun m k h=>z6t (l:=l) (x:=x) (m:=m) (k:=k) h);have HZ:Hid (∀k,plF l x 0 k= -1):=h_ (fun _=>rfl)
 go_enter Tryz.func205,Tryz.ntmps205
 go_wp2
 go_loopw [8] (fun y wr=>∃k:Nat,k<=n/\y= .int .i64 k/\Hid (plF l x n 0=plF l x (n -k) k)/\Below w.heap.size w wr) (fun y _=>n -(intOf y).toNat)
 case atStart=>exact⟨0,aab _,rfl,h_ rfl,aaj _ _⟩
 case round=>
  obtain⟨k,hk,rfl,HK,Hd⟩:=hrel
  by_cases Hf:k<n
  ·have Hu:(k:Int)<(n:Int):=o_
   have ik1:(0:Int)<=(k:Int):=o_
   have hd:=HD.out.below Hd;obtain⟨q0,q1,q2⟩:=hd.2 k Hf;have hgx:=(Hd.cell (p:=⟨g,0,none⟩) hg).trans HX.out;have hgl:g<wr.heap.size:=aaD hg Hd.size;have Ms:=h_ (fun h=>HY.out (n -(k+1)) k h);have cB:=h_ (fun h=>BL.out (n -(k+1)) k h);rw[show n -(k+1)+1=n -k by omega] at Ms cB;generalize dpI l k=D at*
   go_wp2_with fail
   refine(z5g _ _ _ x g _ hgl hgx).mono ?_
   rintro e w2 ⟨rfl,Hh⟩;have Hc:=Hd.trans (Hh.mono Hd.size)
   by_cases he:D.k=x
   ·have e1:(D.k==x)=true:=beq_iff_eq.2 he
    have HE:=h_ (Ms.out he);go_wp2;go_ret
    exact⟨zi (by rw[HK.out,HE.out]),Hc⟩
   ·have e1:(D.k==x)=false:=beq_eq_false_iff_ne.2 he
    have HE:=h_ (cB.out he);go_wp2;go_roundw
    case rel=>exact⟨k+1,by omega,by go_num,h_ (by rw[HK.out,HE.out]),Hc⟩
    case measure=>simp[intOf];omega
  ·have gn:k=n:=o_
   have HE:=h_ (HK.out);subst gn;rw[aae,HZ.out] at HE;go_wp2;go_ret
   exact⟨zi HE.out.symm,Hd⟩
theorem Qb (b off n c:Nat) (l:List Dp) (x r:Int) (w:World) (hd:DpAt w b off n l) (hn:n<=maxLen) (hr:plF l x n 0=r):
  CB_ 143 #[.slice (some ⟨b,off,none⟩) n c,.int .i64 x] w (.int .i64 r):=by
 subst hr;have Hi:Below w.heap.size w (w.alloc (.cells #[.int .i64 x] 3)):=bel_
 have Fy:(w.alloc (.cells #[.int .i64 x] 3)).cell? ⟨w.heap.size,0,none⟩=some (.int .i64 x):=(Blk.newAt (w:=w) (t:=3) (cs:= #[.int .i64 x]) rfl).cell 0;have HC:=h_ (z4l b off n c l x w.heap.size _ (hd.below Hi) hn (by simp) Fy)
 go_enter Tryz.func143,Tryz.ntmps143
 go_wp2_with fail
 refine HC.out.mono ?_
 rintro e w2 ⟨rfl,Hh⟩;have Hc:=Hi.trans (Hh.mono Hi.size);go_wp2;go_ret
 exact⟨rfl,Hc⟩
theorem Qa (v:Value) (l:List Dp) (w:World) (h:RDp w v l):
  CB_ 77 #[v] w (.bool (qn l)):=by
 obtain⟨A,c,rfl,hc,hm,fI⟩:=h.at_;unfold maxLen at hm;clear h
 by_cases Mp:l.length<=40
 case neg=>
  have HX:=h_ (JN Mp);have h41:(40:Int)<(l.length:Int):=o_
  go_enter Tryz.func77,Tryz.ntmps77
  go_wp2;go_ret
  exact⟨z8 HX.out.symm,aaj _ _⟩
 have h41:¬(40:Int)<(l.length:Int):=o_
 have Bb:=h_ (fun k (hk:k<l.length) h=>XT hk h);have UD:=h_ (fun k (h:xZ l k) h2=>VN h h2);have C9:=h_ (fun (h:xZ l l.length)=>ym.2 ⟨Mp,h⟩)
 go_enter Tryz.func77,Tryz.ntmps77
 go_wp2
 go_loopw [10] (fun x wr=>∃k:Nat,k<=l.length/\x= .int .i64 k/\Hid (xZ l k)/\Below w.heap.size w wr) (fun x _=>l.length -(intOf x).toNat)
 case atStart=>exact⟨0,aab _,rfl,h_ (VC l),aaj _ _⟩
 case round=>
  obtain⟨k,hk,rfl,HT,Hd⟩:=hrel
  by_cases Hf:k<l.length
  ·obtain⟨b,off,rfl,hd⟩:=fI o_
   have hd:=hd.below Hd;have Bu:=h_ (Bb.out k Hf);have GZ:=h_ (UD.out k HT.out);have Hu:(k:Int)<(l.length:Int):=o_
   have ik1:(0:Int)<=(k:Int):=o_
   have ikc:(k:Int)<=(c:Int):=o_
   obtain⟨q0,q1,q2⟩:=hd.2 k Hf;have Ge:=hd.1;have Nm:Hid (depB l k=(inB (dpI l k).k 1 200&&(inB (dpI l k).a 1 50&&(inB (dpI l k).b 0 9999&&((decide (k=0)||decide ((dpI l (k -1)).b <=(dpI l k).b))&&qB l (dpI l k).k k))))):=h_ rfl;have ra:=h_ (fun h=>z9h (l:=l) (x:=(dpI l k).k) (n:=k) h);have MJ:=h_ (fun h=>z99 (l:=l) (x:=(dpI l k).k) (n:=k) h);have HDA:=h_ (hd.take (show k<=l.length by omega));have UE:=h_ (fun (r:Nat) (h:r<l.length)=>hd.2 r h);clear hd fI;generalize (dpI l k).k =dp at*;generalize (dpI l k).a =dc at*;generalize (dpI l k).b =dd at*
   go_upto_region 6 with (fail)
   obtain⟨wq,cD⟩:∃v,v=wr.alloc (.cells #[.int .i64 dp,.int .i64 dc,.int .i64 dd] 48):=⟨_,rfl⟩;have hq:Blk wq wr.heap.size 48 #[.int .i64 dp,.int .i64 dc,.int .i64 dd]:=cD▸Blk.newAt rfl;have bv:Below wr.heap.size wr wq:=cD▸(aaj _ _).alloc (aaa _) _;rw[<-cD];clear cD;have gi:=Hd.trans (bv.mono Hd.size);have HDQ:=h_ (HDA.out.below bv);generalize wr.heap.size=B at*;have hBl:=hq.lt;have hbQ:b<wq.heap.size:=HDQ.out.1;obtain⟨y_0,y_1,y_2⟩:=hq.c3;have UF:=h_ (fun (r:Nat) (h:r<l.length)=>(bv.cell (p:=⟨b,off+r*3+2,none⟩) (aaD Ge (aaa _))).trans (UE.out r h).2.2);clear q0 q1 q2 bv Hd
   cases FC:inB dp 1 200
   ·have HX:=h_ (Bu.out (by rw[Nm.out,FC];rfl))
    have HK:=h_ FC;clear FC
    (refine z7 k_ k_ (fun hG=>?_))
    repeat (go_big_quiet_step ((go_at_call_of 78 dp;exact zY (zn dp _ _ false _ HK.out))))
    refine wpQuiet_nil ?_
    clear hG;rintro w3 ⟨⟨_,GF⟩,rfl⟩;have He:=gi.trans (GF.mono gi.size);clear GF gi y_0 y_1 y_2;go_wp2;go_ret
    exact⟨z8 HX.out.symm,He⟩
   ·have HK:=h_ FC
    cases gU:inB dc 1 50
    ·have HX:=h_ (Bu.out (by rw[Nm.out,FC,gU];rfl))
     have HA:=h_ gU;clear FC gU
     (refine z7 k_ k_ (fun hG=>?_))
     repeat (go_big_quiet_step ((first|(go_at_call_of 78 dp;exact zY (zn dp _ _ true _ HK.out))|(go_at_call_of 78 dc;exact zY (zn dc _ _ false _ HA.out)))))
     refine wpQuiet_nil ?_
     clear hG;rintro w3 ⟨⟨_,GF⟩,rfl⟩;have He:=gi.trans (GF.mono gi.size);clear GF gi y_0 y_1 y_2;go_wp2;go_ret
     exact⟨z8 HX.out.symm,He⟩
    ·have HA:=h_ gU
     cases mv:inB dd 0 9999
     ·have HX:=h_ (Bu.out (by rw[Nm.out,FC,gU,mv];rfl))
      have HB:=h_ mv;clear FC gU mv
      (refine z7 k_ k_ (fun hG=>?_))
      repeat (go_big_quiet_step ((first|(go_at_call_of 78 dp;exact zY (zn dp _ _ true _ HK.out))|(go_at_call_of 78 dc;exact zY (zn dc _ _ true _ HA.out))|(go_at_call_of 78 dd;exact zY (zn dd _ _ false _ HB.out)))))
      refine wpQuiet_nil ?_
      clear hG;rintro w3 ⟨⟨_,GF⟩,rfl⟩;have He:=gi.trans (GF.mono gi.size);clear GF gi y_0 y_1 y_2;go_wp2;go_ret
      exact⟨z8 HX.out.symm,He⟩
     ·have HB:=h_ mv
      have FK:Hid (depB l k=((decide (k=0)||decide ((dpI l (k -1)).b <=dd))&&qB l dp k)):=h_ (by rw[Nm.out,FC,gU,mv];rfl);clear FC gU mv Nm
      by_cases Nc:0<k
      ·obtain⟨r,rfl⟩:∃r,k=r+1:=⟨k -1,by omega⟩
       have Wp:=UF.out r o_;rw[show r+1 -1=r by omega,aaO (show ¬r+1=0 by omega),Bool.false_or] at FK;have Fd:((r+1:Nat):Int) -1=(r:Int):=o_
       have F9:IntKind.i64.wrap (((r+1:Nat):Int) -1)=(r:Int):=by rw[Fd];exact aaP _ o_
       have ir1:(0:Int)<=(r:Int):=o_
       have ir2:(r:Int)<(l.length:Int):=o_
       generalize (dpI l r).b =pv at*
       by_cases hday:dd<pv
       ·have HX:=h_ (Bu.out (by rw[FK.out,aaO o_];rfl))
        (refine z7 k_ k_ (fun hG=>?_))
        repeat (go_big_quiet_step ((first|(go_at_call_of 78 dp;exact zY (zn dp _ _ true _ HK.out))|(go_at_call_of 78 dc;exact zY (zn dc _ _ true _ HA.out))|(go_at_call_of 78 dd;exact zY (zn dd _ _ true _ HB.out)))))
        refine wpQuiet_nil ?_
        clear hG;rintro w3 ⟨⟨_,GF⟩,rfl⟩;have He:=gi.trans (GF.mono gi.size);clear GF gi y_0 y_1 y_2;clear Wp F9 Fd;go_wp2;go_ret
        exact⟨z8 HX.out.symm,He⟩
       ·rw[aaQ (show pv<=dd by omega),aaR] at FK
        cases BT:qB l dp (r+1)
        ·have HX:=h_ (Bu.out (by rw[FK.out,BT]))
         obtain⟨i,Cz,CS,NO⟩:=MJ.out BT;have HR:=h_ Cz;clear Cz NO BT
         (refine z7 k_ k_ (fun hG=>?_))
         repeat (go_big_quiet_step ((first|(go_at_call_of 78 dp;exact zY (zn dp _ _ true _ HK.out))|(go_at_call_of 78 dc;exact zY (zn dc _ _ true _ HA.out))|(go_at_call_of 78 dd;exact zY (zn dd _ _ true _ HB.out))|(go_at_call 143;exact zE (Qb b off (r+1) c l dp _ _ (HDQ.out.below (Grw.below _)) (by unfold maxLen;omega) HR.out)))))
         refine wpQuiet_nil ?_
         clear hG;rintro w3 ⟨⟨_,GF⟩,rfl⟩;have He:=gi.trans (GF.mono gi.size);clear GF gi y_0 y_1 y_2;clear Wp F9 Fd;go_wp2;go_ret
         exact⟨z8 HX.out.symm,He⟩
        ·have HX:=h_ (GZ.out (by rw[FK.out,BT]))
         have HR:=h_ (ra.out BT);clear BT
         (refine z7 k_ k_ (fun hG=>?_))
         repeat (go_big_quiet_step ((first|(go_at_call_of 78 dp;exact zY (zn dp _ _ true _ HK.out))|(go_at_call_of 78 dc;exact zY (zn dc _ _ true _ HA.out))|(go_at_call_of 78 dd;exact zY (zn dd _ _ true _ HB.out))|(go_at_call 143;exact zE (Qb b off (r+1) c l dp _ _ (HDQ.out.below (Grw.below _)) (by unfold maxLen;omega) HR.out)))))
         refine wpQuiet_nil ?_
         clear hG;rintro w3 ⟨⟨_,GF⟩,rfl⟩;have He:=gi.trans (GF.mono gi.size);clear GF gi y_0 y_1 y_2;clear Wp F9 Fd;go_wp2;go_roundw
         case rel=>exact⟨r+1+1,by omega,by go_num,HX,He⟩
         case measure=>simp[intOf];omega
      ·have UG:k=0:=o_
       subst UG;rw[aaQ (rfl:(0:Nat)=0),Bool.true_or,aaR] at FK;clear UF UE ik1 ikc hk
       cases BT:qB l dp (0)
       ·have HX:=h_ (Bu.out (by rw[FK.out,BT]))
        obtain⟨i,Cz,CS,NO⟩:=MJ.out BT;exact absurd CS o_
       ·have HX:=h_ (GZ.out (by rw[FK.out,BT]))
        have HR:=h_ (ra.out BT);clear BT
        (refine z7 k_ k_ (fun hG=>?_))
        repeat (go_big_quiet_step ((first|(go_at_call_of 78 dp;exact zY (zn dp _ _ true _ HK.out))|(go_at_call_of 78 dc;exact zY (zn dc _ _ true _ HA.out))|(go_at_call_of 78 dd;exact zY (zn dd _ _ true _ HB.out))|(go_at_call 143;exact zE (Qb b off (0) c l dp _ _ (HDQ.out.below (Grw.below _)) (by unfold maxLen;omega) HR.out)))))
        refine wpQuiet_nil ?_
        clear hG;rintro w3 ⟨⟨_,GF⟩,rfl⟩;have He:=gi.trans (GF.mono gi.size);clear GF gi y_0 y_1 y_2;go_wp2;go_roundw
        case rel=>exact⟨0+1,by omega,by go_num,HX,He⟩
        case measure=>simp[intOf];omega
  ·have gn:k=l.length:=o_
   subst gn;have HX:=h_ (C9.out HT.out);clear fI;go_wp2;go_ret
   exact⟨z8 HX.out.symm,Hd⟩
theorem Ql (v:Value) (l:List Dp) (w:World) (h:RDp w v l):
  CB_ 137 #[v] w (.bool (qn l)):=by
 obtain⟨A,c,rfl,hc,hm,fI⟩:=h.at_;unfold maxLen at hm;clear h;obtain⟨b4,H5⟩:∃x,decide ((l.length:Int)<=40)=x:=⟨_,rfl⟩;have mK:=h_ H5;have Bb:=h_ (fun k (hk:k<l.length) h=>XT hk h);have UD:=h_ (fun k (h:xZ l k) h2=>VN h h2)
 have C9:Hid (xZ l l.length->qn l=b4):=h_ (fun h=>by
  cases b4
  ·have h2:=of_decide_eq_false H5
   exact JN o_
  ·have h2:=of_decide_eq_true H5
   exact ym.2 ⟨by omega,h⟩)
 clear H5
 go_enter Tryz.func137,Tryz.ntmps137
 go_wp2
 go_loopw [3] (fun x wr=>∃k:Nat,k<=l.length/\x= .int .i64 k/\Hid (xZ l k)/\Below w.heap.size w wr) (fun x _=>l.length -(intOf x).toNat)
 case atStart=>exact⟨0,aab _,rfl,h_ (VC l),aaj _ _⟩
 case round=>
  obtain⟨k,hk,rfl,HT,Hd⟩:=hrel
  by_cases Hf:k<l.length
  ·obtain⟨b,off,rfl,hd⟩:=fI o_
   have hd:=hd.below Hd;have Bu:=h_ (Bb.out k Hf);have GZ:=h_ (UD.out k HT.out);have Hu:(k:Int)<(l.length:Int):=o_
   have ik1:(0:Int)<=(k:Int):=o_
   obtain⟨q0,q1,q2⟩:=hd.2 k Hf;have Ge:=hd.1;have Nm:Hid (depB l k=(inB (dpI l k).k 1 200&&(inB (dpI l k).a 1 50&&(inB (dpI l k).b 0 9999&&((decide (k=0)||decide ((dpI l (k -1)).b <=(dpI l k).b))&&qB l (dpI l k).k k))))):=h_ rfl;have HNB:=h_ (fun (j:Nat) (h1:j<k) (h2:(dpI l j).k =(dpI l k).k)=>xY (l:=l) h1 h2);have Yo:=h_ (fun (j:Nat)=>z0Z l (dpI l k).k j);have mS:=h_ (z1h l (dpI l k).k);have UE:=h_ (fun (r:Nat) (h:r<l.length)=>hd.2 r h);clear hd;generalize (dpI l k).k =dp at*;generalize (dpI l k).a =dc at*;generalize (dpI l k).b =dd at*
   go_upto_region 5 with (fail)
   obtain⟨wq,cD⟩:∃v,v=wr.alloc (.cells #[.int .i64 dp,.int .i64 dc,.int .i64 dd] 48):=⟨_,rfl⟩;have hq:Blk wq wr.heap.size 48 #[.int .i64 dp,.int .i64 dc,.int .i64 dd]:=cD▸Blk.newAt rfl;have bv:Below wr.heap.size wr wq:=cD▸(aaj _ _).alloc (aaa _) _;rw[<-cD];clear cD;have gi:=Hd.trans (bv.mono Hd.size);generalize wr.heap.size=B at*;have hBl:=hq.lt;have hbQ:b<wq.heap.size:=o_
   obtain⟨y_0,y_1,y_2⟩:=hq.c3;have UF:=h_ (fun (r:Nat) (h:r<l.length)=>And.intro ((bv.cell (p:=⟨b,off+r*3,none⟩) Ge).trans (UE.out r h).1) ((bv.cell (p:=⟨b,off+r*3+2,none⟩) Ge).trans (UE.out r h).2.2));clear q0 q1 q2 bv Hd
   cases FC:inB dp 1 200
   ·have HX:=h_ (Bu.out (by rw[Nm.out,FC];rfl))
    have HK:=h_ FC;clear FC
    (refine z7 k_ k_ (fun hG=>?_))
    repeat (go_big_quiet_step ((go_at_call_of 138 dp;exact zY (zP dp _ _ false _ HK.out))))
    refine wpQuiet_nil ?_
    clear hG;rintro w3 ⟨⟨_,GF⟩,rfl⟩;have He:=gi.trans (GF.mono gi.size);clear GF gi y_0 y_1 y_2;go_wp2;go_ret
    exact⟨z8 HX.out.symm,He⟩
   ·have HK:=h_ FC
    cases gU:inB dc 1 50
    ·have HX:=h_ (Bu.out (by rw[Nm.out,FC,gU];rfl))
     have HA:=h_ gU;clear FC gU
     (refine z7 k_ k_ (fun hG=>?_))
     repeat (go_big_quiet_step ((first|(go_at_call_of 138 dp;exact zY (zP dp _ _ true _ HK.out))|(go_at_call_of 138 dc;exact zY (zP dc _ _ false _ HA.out)))))
     refine wpQuiet_nil ?_
     clear hG;rintro w3 ⟨⟨_,GF⟩,rfl⟩;have He:=gi.trans (GF.mono gi.size);clear GF gi y_0 y_1 y_2;go_wp2;go_ret
     exact⟨z8 HX.out.symm,He⟩
    ·have HA:=h_ gU
     cases mv:inB dd 0 9999
     ·have HX:=h_ (Bu.out (by rw[Nm.out,FC,gU,mv];rfl))
      have HB:=h_ mv;clear FC gU mv
      (refine z7 k_ k_ (fun hG=>?_))
      repeat (go_big_quiet_step ((first|(go_at_call_of 138 dp;exact zY (zP dp _ _ true _ HK.out))|(go_at_call_of 138 dc;exact zY (zP dc _ _ true _ HA.out))|(go_at_call_of 138 dd;exact zY (zP dd _ _ false _ HB.out)))))
      refine wpQuiet_nil ?_
      clear hG;rintro w3 ⟨⟨_,GF⟩,rfl⟩;have He:=gi.trans (GF.mono gi.size);clear GF gi y_0 y_1 y_2;go_wp2;go_ret
      exact⟨z8 HX.out.symm,He⟩
     ·have HB:=h_ mv
      have FK:Hid (depB l k=((decide (k=0)||decide ((dpI l (k -1)).b <=dd))&&qB l dp k)):=h_ (by rw[Nm.out,FC,gU,mv];rfl);clear FC gU mv Nm
      by_cases Nc:0<k
      ·obtain⟨r,rfl⟩:∃r,k=r+1:=⟨k -1,by omega⟩
       have Wp:=(UF.out r o_).2;rw[show r+1 -1=r by omega,aaO (show ¬r+1=0 by omega),Bool.false_or] at FK;have Fd:((r+1:Nat):Int) -1=(r:Int):=o_
       have F9:IntKind.i64.wrap (((r+1:Nat):Int) -1)=(r:Int):=by rw[Fd];exact aaP _ o_
       have ir1:(0:Int)<=(r:Int):=o_
       have ir2:(r:Int)<(l.length:Int):=o_
       generalize (dpI l r).b =pv at*
       by_cases hday:dd<pv
       ·have HX:=h_ (Bu.out (by rw[FK.out,aaO o_];rfl))
        (refine z7 k_ k_ (fun hG=>?_))
        repeat (go_big_quiet_step ((first|(go_at_call_of 138 dp;exact zY (zP dp _ _ true _ HK.out))|(go_at_call_of 138 dc;exact zY (zP dc _ _ true _ HA.out))|(go_at_call_of 138 dd;exact zY (zP dd _ _ true _ HB.out)))))
        refine wpQuiet_nil ?_
        clear hG;rintro w3 ⟨⟨_,GF⟩,rfl⟩;have He:=gi.trans (GF.mono gi.size);clear GF gi y_0 y_1 y_2 Wp F9 Fd;go_wp2;go_ret
        exact⟨z8 HX.out.symm,He⟩
       ·rw[aaQ (show pv<=dd by omega),aaR] at FK
        (refine z7 k_ k_ (fun hG=>?_))
        repeat (go_big_quiet_step ((first|(go_at_call_of 138 dp;exact zY (zP dp _ _ true _ HK.out))|(go_at_call_of 138 dc;exact zY (zP dc _ _ true _ HA.out))|(go_at_call_of 138 dd;exact zY (zP dd _ _ true _ HB.out)))))
        refine wpQuiet_nil ?_
        clear hG;rintro w3 ⟨⟨_,GF⟩,rfl⟩;have He:=gi.trans (GF.mono gi.size);have UH:=hq.below (GF.mono (aaa _)) hBl;have HPC3:=h_ (fun (r:Nat) (h:r<l.length)=>(GF.cell (p:=⟨b,off+r*3,none⟩) hbQ).trans (UF.out r h).1);have Y6:=aaD hbQ GF.size;clear GF gi y_0 y_1 y_2 hq UF UE;clear Wp F9 Fd;obtain⟨y_0,y_1,y_2⟩:=UH.c3;have GJ:=UH.lt;go_wp2
        go_loopw [5] (fun x wr=>∃j:Nat,j<=(r+1)/\x= .int .i64 j/\Hid (qB l dp j=true)/\Below w3.heap.size w3 wr) (fun x _=>(r+1) -(intOf x).toNat)
        case atStart=>exact⟨0,aab _,rfl,mS,aaj _ _⟩
        case round=>
         obtain⟨j,hj,rfl,HJ,Mh⟩:=hrel
         by_cases cm:j<(r+1)
         ·have hjk1:(j:Int)<(((r+1):Nat):Int):=o_
          have ij1:(0:Int)<=(j:Int):=o_
          have ij2:(j:Int)<(l.length:Int):=o_
          have YT:=(Mh.cell (p:=⟨b,off+j*3,none⟩) Y6).trans (HPC3.out j o_);have hq4:=UH.below Mh GJ;have H5:=aaD Y6 Mh.size;have MD:=hq4.lt;clear y_0 y_1 y_2;obtain⟨y_0,y_1,y_2⟩:=hq4.c3;have HNB1:=h_ (fun h=>HNB.out j cm h);have HNS1:=h_ (Yo.out j);generalize (dpI l j).k =pj at*
          by_cases he:pj=dp
          ·have e1:(pj==dp)=true:=beq_iff_eq.2 he
           have HX:=h_ (Bu.out (by rw[FK.out];exact HNB1.out he));clear he
           go_wp2_with fail
           (refine z7 k_ k_ (fun hG=>?_))
           repeat (go_big_quiet_step (fail))
           refine wpQuiet_nil ?_
           clear hG;rintro w5 ⟨⟨_,Gk⟩,rfl⟩;have UI:=Mh.trans (Gk.mono Mh.size);clear Gk Mh YT y_0 y_1 y_2;go_wp2;go_ret
           exact⟨z8 HX.out.symm,He.trans (UI.mono He.size)⟩
          ·have e1:(pj==dp)=false:=beq_eq_false_iff_ne.2 he
           have HX:=h_ (HNS1.out.trans (by rw[HJ.out,aaQ he]<;>rfl));clear he
           go_wp2_with fail
           (refine z7 k_ k_ (fun hG=>?_))
           repeat (go_big_quiet_step (fail))
           refine wpQuiet_nil ?_
           clear hG;rintro w5 ⟨⟨_,Gk⟩,rfl⟩;have UI:=Mh.trans (Gk.mono Mh.size);clear Gk Mh YT y_0 y_1 y_2;go_wp2;go_roundw
           case rel=>exact⟨j+1,by omega,by go_num,HX,UI⟩
           case measure=>simp[intOf];omega
         ·have GS:j=(r+1):=o_
          subst GS;have HX:=h_ (GZ.out (by rw[FK.out];exact HJ.out));have H8:=He.trans (Mh.mono He.size);clear y_0 y_1 y_2;go_wp2;go_roundw
          case rel=>exact⟨(r+1)+1,by omega,by go_num,HX,H8⟩
          case measure=>simp[intOf];omega
      ·have UG:k=0:=o_
       subst UG;rw[aaQ (rfl:(0:Nat)=0),Bool.true_or,aaR] at FK;clear ik1 hk
       (refine z7 k_ k_ (fun hG=>?_))
       repeat (go_big_quiet_step ((first|(go_at_call_of 138 dp;exact zY (zP dp _ _ true _ HK.out))|(go_at_call_of 138 dc;exact zY (zP dc _ _ true _ HA.out))|(go_at_call_of 138 dd;exact zY (zP dd _ _ true _ HB.out)))))
       refine wpQuiet_nil ?_
       clear hG;rintro w3 ⟨⟨_,GF⟩,rfl⟩;have He:=gi.trans (GF.mono gi.size);have UH:=hq.below (GF.mono (aaa _)) hBl;clear GF gi y_0 y_1 y_2 hq UF UE
       skip
       obtain⟨y_0,y_1,y_2⟩:=UH.c3;go_wp2
       go_loopw [5] (fun x wr=>∃j:Nat,j<=0/\x= .int .i64 j/\Hid (qB l dp j=true)/\Below w3.heap.size w3 wr) (fun x _=>0 -(intOf x).toNat)
       case atStart=>exact⟨0,aab _,rfl,mS,aaj _ _⟩
       case round=>
        obtain⟨j,hj,rfl,HJ,Mh⟩:=hrel
        by_cases cm:j<0
        ·exact absurd cm o_
        ·have GS:j=0:=o_
         subst GS;have HX:=h_ (GZ.out (by rw[FK.out];exact HJ.out));have H8:=He.trans (Mh.mono He.size);clear y_0 y_1 y_2;go_wp2;go_roundw
         case rel=>exact⟨0+1,by omega,by go_num,HX,H8⟩
         case measure=>simp[intOf];omega
  ·have gn:k=l.length:=o_
   subst gn;have HX:=h_ (C9.out HT.out);have FE:=mK.out;clear fI
   cases b4
   ·go_wp2
    go_ret
    exact⟨z8 HX.out.symm,Hd⟩
   ·go_wp2
    go_ret
    exact⟨z8 HX.out.symm,Hd⟩
end Go.Proofs.YtnjcpljhmhdhkaaGreat
