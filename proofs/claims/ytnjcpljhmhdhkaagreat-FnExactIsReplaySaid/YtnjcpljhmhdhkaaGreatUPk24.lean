/- part 24 -/
import Derived.Test.YtnjcpljhmhdhkaaGreatUPk18
set_option linter.unusedSimpArgs false
set_option linter.unusedVariables false
set_option maxRecDepth 100000
set_option maxHeartbeats 16000000
namespace Go.Proofs.YtnjcpljhmhdhkaaGreat
open Go.RowKit
def plF (l:List Dp) (x:Int):Nat->Nat->Int
 |0,_=> -1
 |m+1,k=>if (dpI l k).k =x then(k:Int) else plF l x m (k+1)
theorem z6w {l:List Dp} {x:Int} {m k:Nat} (h:(dpI l k).k =x):plF l x (m+1) k=k:=by simp only[plF];rw[aao h]
theorem z9r {l:List Dp} {x:Int} {m k:Nat} (h:¬(dpI l k).k =x):plF l x (m+1) k=plF l x m (k+1):=by simp only[plF];rw[aaq h]
theorem Qa (l:List Dp) (x:Int):∀m k,(∃i:Nat,plF l x m k=i/\k<=i/\i<k+m/\(dpI l i).k =x/\∀j,k<=j->j<i->¬(dpI l j).k =x)∨(plF l x m k= -1/\∀j,k<=j->j<k+m->¬(dpI l j).k =x)
 |0,k=> .inr ⟨rfl,fun j h1 h2=>by omega⟩
 |m+1,k=>by
  by_cases h:(dpI l k).k =x
  ·exact .inl ⟨k,z6w h,aaa _,by omega,h,fun j h1 h2=>by omega⟩
  ·rw[z9r h]
   rcases Qa l x m (k+1) with ⟨i,h1,h2,h3,h4,h5⟩|⟨h1,h2⟩
   ·refine .inl ⟨i,h1,by omega,by omega,h4,fun j g1 g2=>?_⟩
    by_cases e:j=k
    ·subst e;exact h
    ·exact h5 j o_ g2
   ·refine .inr ⟨h1,fun j g1 g2=>?_⟩
    by_cases e:j=k
    ·subst e;exact h
    ·exact h2 j o_ o_
theorem zaa {l:List Dp} {x:Int} {n:Nat} (h:qu l x n=true):plF l x n 0= -1:=by
 rcases Qa l x n 0 with ⟨i,h1,h2,h3,h4,h5⟩|⟨h1,h2⟩
 ·rw[Qc (show i<n by omega) h4] at h;cases h
 ·exact h1
theorem z9B {l:List Dp} {x:Int} {n:Nat} (h:qu l x n=false):∃i:Nat,plF l x n 0=i/\i<n/\(dpI l i).k =x:=by
 rcases Qa l x n 0 with ⟨i,h1,h2,h3,h4,h5⟩|⟨h1,h2⟩
 ·exact⟨i,h1,by omega,h4⟩
 ·have:qu l x n=true:=by
   unfold qu;rw[aaM];intro i hi;have:=h2 i o_ (by have:=List.mem_range.1 hi;omega);simp[this]
  rw[this] at h;cases h
def DpAt (w:World) (b off n:Nat) (l:List Dp):Prop:=b<w.heap.size/\∀k,k<n->w.cell? ⟨b,off+k*3,none⟩=some (.int .i64 (dpI l k).k)/\w.cell? ⟨b,off+k*3+1,none⟩=some (.int .i64 (dpI l k).a)/\w.cell? ⟨b,off+k*3+2,none⟩=some (.int .i64 (dpI l k).b)
theorem DpAt.below {w w':World} {b off n:Nat} {l:List Dp} (h:DpAt w b off n l) (hb:Below w.heap.size w w'):DpAt w' b off n l:=
 ⟨aaE h.1 hb.size,fun k hk=>⟨(hb.cell (p:=⟨b,off+k*3,none⟩) h.1).trans (h.2 k hk).1,(hb.cell (p:=⟨b,off+k*3+1,none⟩) h.1).trans (h.2 k hk).2.1,(hb.cell (p:=⟨b,off+k*3+2,none⟩) h.1).trans (h.2 k hk).2.2⟩⟩
theorem DpAt.take {w:World} {b off n m:Nat} {l:List Dp} (h:DpAt w b off n l) (hm:m<=n):DpAt w b off m l:=⟨h.1,fun k hk=>h.2 k o_⟩
theorem RDp.at_ {w:World} {v:Value} {l:List Dp} (h:RDp w v l):∃A c,v= .slice A l.length c/\l.length<=c/\l.length<=maxLen/\(0<l.length->∃b off,A=some ⟨b,off,none⟩/\DpAt w b off l.length l):=by
 obtain⟨A,c,h1,h2,h3,h4⟩:=h.form;refine⟨A,c,h1,h2,h3,fun hp=>?_⟩
 obtain⟨b,off,g1,g2,g3⟩:=h4 hp;exact⟨b,off,g1,g2,fun k hk=>by rw[jV hk];exact g3 k hk⟩
theorem z73 (p c d x:Int) (g:Nat) (w:World) (hg:g<w.heap.size) (hx:w.cell? ⟨g,0,none⟩=some (.int .i64 x)):
  CB_ 206 #[.agg #[.int .i64 p,.int .i64 c,.int .i64 d],.pointer (some ⟨g,0,none⟩)] w (.bool (p==x)):=by
 go_enter Tryz.func206,Tryz.ntmps206
 go_wp2;go_ret
 exact⟨rfl,by exact bel_⟩
theorem z4G (b off n c:Nat) (l:List Dp) (x:Int) (g:Nat) (w:World) (hd:DpAt w b off n l) (hn:n<=maxLen) (hg:g<w.heap.size) (hx:w.cell? ⟨g,0,none⟩=some (.int .i64 x)):
  Calls Tryz.prog 205 #[.slice (some ⟨b,off,none⟩) n c,.func (.func 206) #[] #[.pointer (some ⟨g,0,none⟩)]] w
   fun e w'=>e= .returned (.int .i64 (plF l x n 0))/\Below w.heap.size w w':=by
 unfold maxLen at hn;have HD:=h_ hd;have HX:=h_ hx;have HY:=h_ (fun m k h=>z6w (l:=l) (x:=x) (m:=m) (k:=k) h);have BM:=h_ (fun m k h=>z9r (l:=l) (x:=x) (m:=m) (k:=k) h);have HZ:Hid (∀k,plF l x 0 k= -1):=h_ (fun _=>rfl)
 go_enter Tryz.func205,Tryz.ntmps205
 go_wp2
 go_loopw [8] (fun y wr=>∃k:Nat,k<=n/\y= .int .i64 k/\Hid (plF l x n 0=plF l x (n -k) k)/\Below w.heap.size w wr) (fun y _=>n -(intOf y).toNat)
 case atStart=>exact⟨0,aab _,rfl,h_ rfl,aaj _ _⟩
 case round=>
  obtain⟨k,hk,rfl,HK,Hb⟩:=hrel
  by_cases Hd:k<n
  ·have Hr:(k:Int)<(n:Int):=o_
   have ik1:(0:Int)<=(k:Int):=o_
   have hd:=HD.out.below Hb;obtain⟨q0,q1,q2⟩:=hd.2 k Hd;have hgx:=(Hb.cell (p:=⟨g,0,none⟩) hg).trans HX.out;have hgl:g<wr.heap.size:=aaE hg Hb.size;have MT:=h_ (fun h=>HY.out (n -(k+1)) k h);have F9:=h_ (fun h=>BM.out (n -(k+1)) k h);rw[show n -(k+1)+1=n -k by omega] at MT F9;generalize dpI l k=D at*
   go_wp2_with fail
   refine(z73 _ _ _ x g _ hgl hgx).mono ?_
   rintro e w2 ⟨rfl,He⟩;have Ha:=Hb.trans (He.mono Hb.size)
   by_cases he:D.k=x
   ·have e1:(D.k==x)=true:=beq_iff_eq.2 he
    have HE:=h_ (MT.out he);go_wp2;go_ret
    exact⟨zb (by rw[HK.out,HE.out]),Ha⟩
   ·have e1:(D.k==x)=false:=beq_eq_false_iff_ne.2 he
    have HE:=h_ (F9.out he);go_wp2;go_roundw
    case rel=>exact⟨k+1,by omega,by go_num,h_ (by rw[HK.out,HE.out]),Ha⟩
    case measure=>simp[intOf];omega
  ·have Hw:k=n:=o_
   have HE:=h_ (HK.out);subst Hw;rw[aae,HZ.out] at HE;go_wp2;go_ret
   exact⟨zb HE.out.symm,Hb⟩
theorem QD (b off n c:Nat) (l:List Dp) (x r:Int) (w:World) (hd:DpAt w b off n l) (hn:n<=maxLen) (hr:plF l x n 0=r):
  CB_ 143 #[.slice (some ⟨b,off,none⟩) n c,.int .i64 x] w (.int .i64 r):=by
 subst hr;have Hg:Below w.heap.size w (w.alloc (.cells #[.int .i64 x] 3)):=bel_
 have GU:(w.alloc (.cells #[.int .i64 x] 3)).cell? ⟨w.heap.size,0,none⟩=some (.int .i64 x):=(Blk.newAt (w:=w) (t:=3) (cs:= #[.int .i64 x]) rfl).cell 0;have HC:=h_ (z4G b off n c l x w.heap.size _ (hd.below Hg) hn (by simp) GU)
 go_enter Tryz.func143,Tryz.ntmps143
 go_wp2_with fail
 refine HC.out.mono ?_
 rintro e w2 ⟨rfl,He⟩;have Ha:=Hg.trans (He.mono Hg.size);go_wp2;go_ret
 exact⟨rfl,Ha⟩
theorem Qs (v:Value) (l:List Dp) (w:World) (h:RDp w v l):
  CB_ 77 #[v] w (.bool (qm l)):=by
 obtain⟨A,c,rfl,hc,hm,Gy⟩:=h.at_;unfold maxLen at hm;clear h
 by_cases cY:l.length<=40
 case neg=>
  have HX:=h_ (Xg cY);have h41:(40:Int)<(l.length:Int):=o_
  go_enter Tryz.func77,Tryz.ntmps77
  go_wp2;go_ret
  exact⟨z8 HX.out.symm,aaj _ _⟩
 have h41:¬(40:Int)<(l.length:Int):=o_
 have Ba:=h_ (fun k (hk:k<l.length) h=>z1n hk h);have HSUC:=h_ (fun k (h:Qb l k) h2=>Xn h h2);have CZ:=h_ (fun (h:Qb l l.length)=>yt.2 ⟨cY,h⟩)
 go_enter Tryz.func77,Tryz.ntmps77
 go_wp2
 go_loopw [10] (fun x wr=>∃k:Nat,k<=l.length/\x= .int .i64 k/\Hid (Qb l k)/\Below w.heap.size w wr) (fun x _=>l.length -(intOf x).toNat)
 case atStart=>exact⟨0,aab _,rfl,h_ (Xb l),aaj _ _⟩
 case round=>
  obtain⟨k,hk,rfl,HT,Hb⟩:=hrel
  by_cases Hd:k<l.length
  ·obtain⟨b,off,rfl,hd⟩:=Gy o_
   have hd:=hd.below Hb;have By:=h_ (Ba.out k Hd);have fg:=h_ (HSUC.out k HT.out);have Hr:(k:Int)<(l.length:Int):=o_
   have ik1:(0:Int)<=(k:Int):=o_
   have ikc:(k:Int)<=(c:Int):=o_
   obtain⟨q0,q1,q2⟩:=hd.2 k Hd;have gn:=hd.1;have rk:Hid (depB l k=(inB (dpI l k).k 1 200&&(inB (dpI l k).a 1 50&&(inB (dpI l k).b 0 9999&&((decide (k=0)||decide ((dpI l (k -1)).b <=(dpI l k).b))&&qu l (dpI l k).k k))))):=h_ rfl;have HPL:=h_ (fun h=>zaa (l:=l) (x:=(dpI l k).k) (n:=k) h);have nC:=h_ (fun h=>z9B (l:=l) (x:=(dpI l k).k) (n:=k) h);have HDA:=h_ (hd.take (show k<=l.length by omega));have HPV:=h_ (fun (r:Nat) (h:r<l.length)=>hd.2 r h);clear hd Gy;generalize (dpI l k).k =dp at*;generalize (dpI l k).a =dc at*;generalize (dpI l k).b =dd at*
   go_upto_region 6 with (fail)
   obtain⟨wq,cI⟩:∃v,v=wr.alloc (.cells #[.int .i64 dp,.int .i64 dc,.int .i64 dd] 48):=⟨_,rfl⟩;have hq:Blk wq wr.heap.size 48 #[.int .i64 dp,.int .i64 dc,.int .i64 dd]:=cI▸Blk.newAt rfl;have Hh:Below wr.heap.size wr wq:=cI▸(aaj _ _).alloc (aaa _) _;rw[<-cI];clear cI;have gy:=Hb.trans (Hh.mono Hb.size);have HDQ:=h_ (HDA.out.below Hh);generalize wr.heap.size=B at*;have hBl:=hq.lt;have hbQ:b<wq.heap.size:=HDQ.out.1;obtain⟨y_0,y_1,y_2⟩:=hq.c3;have HPC:=h_ (fun (r:Nat) (h:r<l.length)=>(Hh.cell (p:=⟨b,off+r*3+2,none⟩) (aaE gn (aaa _))).trans (HPV.out r h).2.2);clear q0 q1 q2 Hh Hb
   cases F5:inB dp 1 200
   ·have HX:=h_ (By.out (by rw[rk.out,F5];rfl))
    have HK:=h_ F5;clear F5
    (refine z7 k_ k_ (fun hG=>?_))
    repeat (go_big_quiet_step ((go_at_call_of 78 dp;exact zT (zm dp _ _ false _ HK.out))))
    refine wpQuiet_nil ?_
    clear hG;rintro w3 ⟨⟨_,GL⟩,rfl⟩;have Hc:=gy.trans (GL.mono gy.size);clear GL gy y_0 y_1 y_2;go_wp2;go_ret
    exact⟨z8 HX.out.symm,Hc⟩
   ·have HK:=h_ F5
    cases Gj:inB dc 1 50
    ·have HX:=h_ (By.out (by rw[rk.out,F5,Gj];rfl))
     have HA:=h_ Gj;clear F5 Gj
     (refine z7 k_ k_ (fun hG=>?_))
     repeat (go_big_quiet_step ((first|(go_at_call_of 78 dp;exact zT (zm dp _ _ true _ HK.out))|(go_at_call_of 78 dc;exact zT (zm dc _ _ false _ HA.out)))))
     refine wpQuiet_nil ?_
     clear hG;rintro w3 ⟨⟨_,GL⟩,rfl⟩;have Hc:=gy.trans (GL.mono gy.size);clear GL gy y_0 y_1 y_2;go_wp2;go_ret
     exact⟨z8 HX.out.symm,Hc⟩
    ·have HA:=h_ Gj
     cases mZ:inB dd 0 9999
     ·have HX:=h_ (By.out (by rw[rk.out,F5,Gj,mZ];rfl))
      have HB:=h_ mZ;clear F5 Gj mZ
      (refine z7 k_ k_ (fun hG=>?_))
      repeat (go_big_quiet_step ((first|(go_at_call_of 78 dp;exact zT (zm dp _ _ true _ HK.out))|(go_at_call_of 78 dc;exact zT (zm dc _ _ true _ HA.out))|(go_at_call_of 78 dd;exact zT (zm dd _ _ false _ HB.out)))))
      refine wpQuiet_nil ?_
      clear hG;rintro w3 ⟨⟨_,GL⟩,rfl⟩;have Hc:=gy.trans (GL.mono gy.size);clear GL gy y_0 y_1 y_2;go_wp2;go_ret
      exact⟨z8 HX.out.symm,Hc⟩
     ·have HB:=h_ mZ
      have FJ:Hid (depB l k=((decide (k=0)||decide ((dpI l (k -1)).b <=dd))&&qu l dp k)):=h_ (by rw[rk.out,F5,Gj,mZ];rfl);clear F5 Gj mZ rk
      by_cases hk0:0<k
      ·obtain⟨r,rfl⟩:∃r,k=r+1:=⟨k -1,by omega⟩
       have hpc:=HPC.out r o_;rw[show r+1 -1=r by omega,aaP (show ¬r+1=0 by omega),Bool.false_or] at FJ;have Fv:((r+1:Nat):Int) -1=(r:Int):=o_
       have FY:IntKind.i64.wrap (((r+1:Nat):Int) -1)=(r:Int):=by rw[Fv];exact aaQ _ o_
       have ir1:(0:Int)<=(r:Int):=o_
       have ir2:(r:Int)<(l.length:Int):=o_
       generalize (dpI l r).b =pv at*
       by_cases hday:dd<pv
       ·have HX:=h_ (By.out (by rw[FJ.out,aaP o_];rfl))
        (refine z7 k_ k_ (fun hG=>?_))
        repeat (go_big_quiet_step ((first|(go_at_call_of 78 dp;exact zT (zm dp _ _ true _ HK.out))|(go_at_call_of 78 dc;exact zT (zm dc _ _ true _ HA.out))|(go_at_call_of 78 dd;exact zT (zm dd _ _ true _ HB.out)))))
        refine wpQuiet_nil ?_
        clear hG;rintro w3 ⟨⟨_,GL⟩,rfl⟩;have Hc:=gy.trans (GL.mono gy.size);clear GL gy y_0 y_1 y_2;clear hpc FY Fv;go_wp2;go_ret
        exact⟨z8 HX.out.symm,Hc⟩
       ·rw[aaR (show pv<=dd by omega),aaS] at FJ
        cases Nj:qu l dp (r+1)
        ·have HX:=h_ (By.out (by rw[FJ.out,Nj]))
         obtain⟨i,FT,cf,MZ⟩:=nC.out Nj;have HR:=h_ FT;clear FT MZ Nj
         (refine z7 k_ k_ (fun hG=>?_))
         repeat (go_big_quiet_step ((first|(go_at_call_of 78 dp;exact zT (zm dp _ _ true _ HK.out))|(go_at_call_of 78 dc;exact zT (zm dc _ _ true _ HA.out))|(go_at_call_of 78 dd;exact zT (zm dd _ _ true _ HB.out))|(go_at_call 143;exact zy (QD b off (r+1) c l dp _ _ (HDQ.out.below (Grw.below _)) (by unfold maxLen;omega) HR.out)))))
         refine wpQuiet_nil ?_
         clear hG;rintro w3 ⟨⟨_,GL⟩,rfl⟩;have Hc:=gy.trans (GL.mono gy.size);clear GL gy y_0 y_1 y_2;clear hpc FY Fv;go_wp2;go_ret
         exact⟨z8 HX.out.symm,Hc⟩
        ·have HX:=h_ (fg.out (by rw[FJ.out,Nj]))
         have HR:=h_ (HPL.out Nj);clear Nj
         (refine z7 k_ k_ (fun hG=>?_))
         repeat (go_big_quiet_step ((first|(go_at_call_of 78 dp;exact zT (zm dp _ _ true _ HK.out))|(go_at_call_of 78 dc;exact zT (zm dc _ _ true _ HA.out))|(go_at_call_of 78 dd;exact zT (zm dd _ _ true _ HB.out))|(go_at_call 143;exact zy (QD b off (r+1) c l dp _ _ (HDQ.out.below (Grw.below _)) (by unfold maxLen;omega) HR.out)))))
         refine wpQuiet_nil ?_
         clear hG;rintro w3 ⟨⟨_,GL⟩,rfl⟩;have Hc:=gy.trans (GL.mono gy.size);clear GL gy y_0 y_1 y_2;clear hpc FY Fv;go_wp2;go_roundw
         case rel=>exact⟨r+1+1,by omega,by go_num,HX,Hc⟩
         case measure=>simp[intOf];omega
      ·have hk00:k=0:=o_
       subst hk00;rw[aaR (rfl:(0:Nat)=0),Bool.true_or,aaS] at FJ;clear HPC HPV ik1 ikc hk
       cases Nj:qu l dp (0)
       ·have HX:=h_ (By.out (by rw[FJ.out,Nj]))
        obtain⟨i,FT,cf,MZ⟩:=nC.out Nj;exact absurd cf o_
       ·have HX:=h_ (fg.out (by rw[FJ.out,Nj]))
        have HR:=h_ (HPL.out Nj);clear Nj
        (refine z7 k_ k_ (fun hG=>?_))
        repeat (go_big_quiet_step ((first|(go_at_call_of 78 dp;exact zT (zm dp _ _ true _ HK.out))|(go_at_call_of 78 dc;exact zT (zm dc _ _ true _ HA.out))|(go_at_call_of 78 dd;exact zT (zm dd _ _ true _ HB.out))|(go_at_call 143;exact zy (QD b off (0) c l dp _ _ (HDQ.out.below (Grw.below _)) (by unfold maxLen;omega) HR.out)))))
        refine wpQuiet_nil ?_
        clear hG;rintro w3 ⟨⟨_,GL⟩,rfl⟩;have Hc:=gy.trans (GL.mono gy.size);clear GL gy y_0 y_1 y_2;go_wp2;go_roundw
        case rel=>exact⟨0+1,by omega,by go_num,HX,Hc⟩
        case measure=>simp[intOf];omega
  ·have Hw:k=l.length:=o_
   subst Hw;have HX:=h_ (CZ.out HT.out);clear Gy;go_wp2;go_ret
   exact⟨z8 HX.out.symm,Hb⟩
theorem Qq (v:Value) (l:List Dp) (w:World) (h:RDp w v l):
  CB_ 137 #[v] w (.bool (qm l)):=by
 obtain⟨A,c,rfl,hc,hm,Gy⟩:=h.at_;unfold maxLen at hm;clear h;obtain⟨b4,Hv⟩:∃x,decide ((l.length:Int)<=40)=x:=⟨_,rfl⟩;have mV:=h_ Hv;have Ba:=h_ (fun k (hk:k<l.length) h=>z1n hk h);have HSUC:=h_ (fun k (h:Qb l k) h2=>Xn h h2)
 have CZ:Hid (Qb l l.length->qm l=b4):=h_ (fun h=>by
  cases b4
  ·have h2:=of_decide_eq_false Hv
   exact Xg o_
  ·have h2:=of_decide_eq_true Hv
   exact yt.2 ⟨by omega,h⟩)
 clear Hv
 go_enter Tryz.func137,Tryz.ntmps137
 go_wp2
 go_loopw [3] (fun x wr=>∃k:Nat,k<=l.length/\x= .int .i64 k/\Hid (Qb l k)/\Below w.heap.size w wr) (fun x _=>l.length -(intOf x).toNat)
 case atStart=>exact⟨0,aab _,rfl,h_ (Xb l),aaj _ _⟩
 case round=>
  obtain⟨k,hk,rfl,HT,Hb⟩:=hrel
  by_cases Hd:k<l.length
  ·obtain⟨b,off,rfl,hd⟩:=Gy o_
   have hd:=hd.below Hb;have By:=h_ (Ba.out k Hd);have fg:=h_ (HSUC.out k HT.out);have Hr:(k:Int)<(l.length:Int):=o_
   have ik1:(0:Int)<=(k:Int):=o_
   obtain⟨q0,q1,q2⟩:=hd.2 k Hd;have gn:=hd.1;have rk:Hid (depB l k=(inB (dpI l k).k 1 200&&(inB (dpI l k).a 1 50&&(inB (dpI l k).b 0 9999&&((decide (k=0)||decide ((dpI l (k -1)).b <=(dpI l k).b))&&qu l (dpI l k).k k))))):=h_ rfl;have HNB:=h_ (fun (j:Nat) (h1:j<k) (h2:(dpI l j).k =(dpI l k).k)=>Qc (l:=l) h1 h2);have Ud:=h_ (fun (j:Nat)=>z1O l (dpI l k).k j);have mU:=h_ (z2o l (dpI l k).k);have HPV:=h_ (fun (r:Nat) (h:r<l.length)=>hd.2 r h);clear hd;generalize (dpI l k).k =dp at*;generalize (dpI l k).a =dc at*;generalize (dpI l k).b =dd at*
   go_upto_region 5 with (fail)
   obtain⟨wq,cI⟩:∃v,v=wr.alloc (.cells #[.int .i64 dp,.int .i64 dc,.int .i64 dd] 48):=⟨_,rfl⟩;have hq:Blk wq wr.heap.size 48 #[.int .i64 dp,.int .i64 dc,.int .i64 dd]:=cI▸Blk.newAt rfl;have Hh:Below wr.heap.size wr wq:=cI▸(aaj _ _).alloc (aaa _) _;rw[<-cI];clear cI;have gy:=Hb.trans (Hh.mono Hb.size);generalize wr.heap.size=B at*;have hBl:=hq.lt;have hbQ:b<wq.heap.size:=o_
   obtain⟨y_0,y_1,y_2⟩:=hq.c3;have HPC:=h_ (fun (r:Nat) (h:r<l.length)=>And.intro ((Hh.cell (p:=⟨b,off+r*3,none⟩) gn).trans (HPV.out r h).1) ((Hh.cell (p:=⟨b,off+r*3+2,none⟩) gn).trans (HPV.out r h).2.2));clear q0 q1 q2 Hh Hb
   cases F5:inB dp 1 200
   ·have HX:=h_ (By.out (by rw[rk.out,F5];rfl))
    have HK:=h_ F5;clear F5
    (refine z7 k_ k_ (fun hG=>?_))
    repeat (go_big_quiet_step ((go_at_call_of 138 dp;exact zT (zN dp _ _ false _ HK.out))))
    refine wpQuiet_nil ?_
    clear hG;rintro w3 ⟨⟨_,GL⟩,rfl⟩;have Hc:=gy.trans (GL.mono gy.size);clear GL gy y_0 y_1 y_2;go_wp2;go_ret
    exact⟨z8 HX.out.symm,Hc⟩
   ·have HK:=h_ F5
    cases Gj:inB dc 1 50
    ·have HX:=h_ (By.out (by rw[rk.out,F5,Gj];rfl))
     have HA:=h_ Gj;clear F5 Gj
     (refine z7 k_ k_ (fun hG=>?_))
     repeat (go_big_quiet_step ((first|(go_at_call_of 138 dp;exact zT (zN dp _ _ true _ HK.out))|(go_at_call_of 138 dc;exact zT (zN dc _ _ false _ HA.out)))))
     refine wpQuiet_nil ?_
     clear hG;rintro w3 ⟨⟨_,GL⟩,rfl⟩;have Hc:=gy.trans (GL.mono gy.size);clear GL gy y_0 y_1 y_2;go_wp2;go_ret
     exact⟨z8 HX.out.symm,Hc⟩
    ·have HA:=h_ Gj
     cases mZ:inB dd 0 9999
     ·have HX:=h_ (By.out (by rw[rk.out,F5,Gj,mZ];rfl))
      have HB:=h_ mZ;clear F5 Gj mZ
      (refine z7 k_ k_ (fun hG=>?_))
      repeat (go_big_quiet_step ((first|(go_at_call_of 138 dp;exact zT (zN dp _ _ true _ HK.out))|(go_at_call_of 138 dc;exact zT (zN dc _ _ true _ HA.out))|(go_at_call_of 138 dd;exact zT (zN dd _ _ false _ HB.out)))))
      refine wpQuiet_nil ?_
      clear hG;rintro w3 ⟨⟨_,GL⟩,rfl⟩;have Hc:=gy.trans (GL.mono gy.size);clear GL gy y_0 y_1 y_2;go_wp2;go_ret
      exact⟨z8 HX.out.symm,Hc⟩
     ·have HB:=h_ mZ
      have FJ:Hid (depB l k=((decide (k=0)||decide ((dpI l (k -1)).b <=dd))&&qu l dp k)):=h_ (by rw[rk.out,F5,Gj,mZ];rfl);clear F5 Gj mZ rk
      by_cases hk0:0<k
      ·obtain⟨r,rfl⟩:∃r,k=r+1:=⟨k -1,by omega⟩
       have hpc:=(HPC.out r o_).2;rw[show r+1 -1=r by omega,aaP (show ¬r+1=0 by omega),Bool.false_or] at FJ;have Fv:((r+1:Nat):Int) -1=(r:Int):=o_
       have FY:IntKind.i64.wrap (((r+1:Nat):Int) -1)=(r:Int):=by rw[Fv];exact aaQ _ o_
       have ir1:(0:Int)<=(r:Int):=o_
       have ir2:(r:Int)<(l.length:Int):=o_
       generalize (dpI l r).b =pv at*
       by_cases hday:dd<pv
       ·have HX:=h_ (By.out (by rw[FJ.out,aaP o_];rfl))
        (refine z7 k_ k_ (fun hG=>?_))
        repeat (go_big_quiet_step ((first|(go_at_call_of 138 dp;exact zT (zN dp _ _ true _ HK.out))|(go_at_call_of 138 dc;exact zT (zN dc _ _ true _ HA.out))|(go_at_call_of 138 dd;exact zT (zN dd _ _ true _ HB.out)))))
        refine wpQuiet_nil ?_
        clear hG;rintro w3 ⟨⟨_,GL⟩,rfl⟩;have Hc:=gy.trans (GL.mono gy.size);clear GL gy y_0 y_1 y_2 hpc FY Fv;go_wp2;go_ret
        exact⟨z8 HX.out.symm,Hc⟩
       ·rw[aaR (show pv<=dd by omega),aaS] at FJ
        (refine z7 k_ k_ (fun hG=>?_))
        repeat (go_big_quiet_step ((first|(go_at_call_of 138 dp;exact zT (zN dp _ _ true _ HK.out))|(go_at_call_of 138 dc;exact zT (zN dc _ _ true _ HA.out))|(go_at_call_of 138 dd;exact zT (zN dd _ _ true _ HB.out)))))
        refine wpQuiet_nil ?_
        clear hG;rintro w3 ⟨⟨_,GL⟩,rfl⟩;have Hc:=gy.trans (GL.mono gy.size);have hq3:=hq.below (GL.mono (aaa _)) hBl;have HPC3:=h_ (fun (r:Nat) (h:r<l.length)=>(GL.cell (p:=⟨b,off+r*3,none⟩) hbQ).trans (HPC.out r h).1);have hbQ3:=aaE hbQ GL.size;clear GL gy y_0 y_1 y_2 hq HPC HPV;clear hpc FY Fv;obtain⟨y_0,y_1,y_2⟩:=hq3.c3;have GZ:=hq3.lt;go_wp2
        go_loopw [5] (fun x wr=>∃j:Nat,j<=(r+1)/\x= .int .i64 j/\Hid (qu l dp j=true)/\Below w3.heap.size w3 wr) (fun x _=>(r+1) -(intOf x).toNat)
        case atStart=>exact⟨0,aab _,rfl,mU,aaj _ _⟩
        case round=>
         obtain⟨j,hj,rfl,HJ,MI⟩:=hrel
         by_cases F8:j<(r+1)
         ·have hjk1:(j:Int)<(((r+1):Nat):Int):=o_
          have ij1:(0:Int)<=(j:Int):=o_
          have ij2:(j:Int)<(l.length:Int):=o_
          have hcj:=(MI.cell (p:=⟨b,off+j*3,none⟩) hbQ3).trans (HPC3.out j o_);have hq4:=hq3.below MI GZ;have Hv:=aaE hbQ3 MI.size;have uA:=hq4.lt;clear y_0 y_1 y_2;obtain⟨y_0,y_1,y_2⟩:=hq4.c3;have HNB1:=h_ (fun h=>HNB.out j F8 h);have HNS1:=h_ (Ud.out j);generalize (dpI l j).k =pj at*
          by_cases he:pj=dp
          ·have e1:(pj==dp)=true:=beq_iff_eq.2 he
           have HX:=h_ (By.out (by rw[FJ.out];exact HNB1.out he));clear he
           go_wp2_with fail
           (refine z7 k_ k_ (fun hG=>?_))
           repeat (go_big_quiet_step (fail))
           refine wpQuiet_nil ?_
           clear hG;rintro w5 ⟨⟨_,Gn⟩,rfl⟩;have hbj5:=MI.trans (Gn.mono MI.size);clear Gn MI hcj y_0 y_1 y_2;go_wp2;go_ret
           exact⟨z8 HX.out.symm,Hc.trans (hbj5.mono Hc.size)⟩
          ·have e1:(pj==dp)=false:=beq_eq_false_iff_ne.2 he
           have HX:=h_ (HNS1.out.trans (by rw[HJ.out,aaR he]<;>rfl));clear he
           go_wp2_with fail
           (refine z7 k_ k_ (fun hG=>?_))
           repeat (go_big_quiet_step (fail))
           refine wpQuiet_nil ?_
           clear hG;rintro w5 ⟨⟨_,Gn⟩,rfl⟩;have hbj5:=MI.trans (Gn.mono MI.size);clear Gn MI hcj y_0 y_1 y_2;go_wp2;go_roundw
           case rel=>exact⟨j+1,by omega,by go_num,HX,hbj5⟩
           case measure=>simp[intOf];omega
         ·have GV:j=(r+1):=o_
          subst GV;have HX:=h_ (fg.out (by rw[FJ.out];exact HJ.out));have Hx:=Hc.trans (MI.mono Hc.size);clear y_0 y_1 y_2;go_wp2;go_roundw
          case rel=>exact⟨(r+1)+1,by omega,by go_num,HX,Hx⟩
          case measure=>simp[intOf];omega
      ·have hk00:k=0:=o_
       subst hk00;rw[aaR (rfl:(0:Nat)=0),Bool.true_or,aaS] at FJ;clear ik1 hk
       (refine z7 k_ k_ (fun hG=>?_))
       repeat (go_big_quiet_step ((first|(go_at_call_of 138 dp;exact zT (zN dp _ _ true _ HK.out))|(go_at_call_of 138 dc;exact zT (zN dc _ _ true _ HA.out))|(go_at_call_of 138 dd;exact zT (zN dd _ _ true _ HB.out)))))
       refine wpQuiet_nil ?_
       clear hG;rintro w3 ⟨⟨_,GL⟩,rfl⟩;have Hc:=gy.trans (GL.mono gy.size);have hq3:=hq.below (GL.mono (aaa _)) hBl;clear GL gy y_0 y_1 y_2 hq HPC HPV
       skip
       obtain⟨y_0,y_1,y_2⟩:=hq3.c3;go_wp2
       go_loopw [5] (fun x wr=>∃j:Nat,j<=0/\x= .int .i64 j/\Hid (qu l dp j=true)/\Below w3.heap.size w3 wr) (fun x _=>0 -(intOf x).toNat)
       case atStart=>exact⟨0,aab _,rfl,mU,aaj _ _⟩
       case round=>
        obtain⟨j,hj,rfl,HJ,MI⟩:=hrel
        by_cases F8:j<0
        ·exact absurd F8 o_
        ·have GV:j=0:=o_
         subst GV;have HX:=h_ (fg.out (by rw[FJ.out];exact HJ.out));have Hx:=Hc.trans (MI.mono Hc.size);clear y_0 y_1 y_2;go_wp2;go_roundw
         case rel=>exact⟨0+1,by omega,by go_num,HX,Hx⟩
         case measure=>simp[intOf];omega
  ·have Hw:k=l.length:=o_
   subst Hw;have HX:=h_ (CZ.out HT.out);have FF:=mV.out;clear Gy
   cases b4
   ·go_wp2
    go_ret
    exact⟨z8 HX.out.symm,Hb⟩
   ·go_wp2
    go_ret
    exact⟨z8 HX.out.symm,Hb⟩
end Go.Proofs.YtnjcpljhmhdhkaaGreat
