/- part 35 -/
import Derived.Test.YtnjcpljhmhdhkaaGreatTPk34
set_option linter.unusedSimpArgs false
set_option linter.unusedVariables false
set_option maxRecDepth 100000
set_option maxHeartbeats 16000000
namespace Go.Proofs.YtnjcpljhmhdhkaaGreat
open Go.RowKit
def plF (l:List Dp) (x:Int):Nat→Nat→Int
 |0,_=> -1
 |m+1,k=>if (dpI l k).k =x then(k:Int) else plF l x m (k+1)
theorem z2v {l:List Dp} {x:Int} {m k:Nat} (h:(dpI l k).k =x):plF l x (m+1) k=k:=by simp only[plF];rw[if_pos h]
theorem z3W {l:List Dp} {x:Int} {m k:Nat} (h:¬(dpI l k).k =x):plF l x (m+1) k=plF l x m (k+1):=by simp only[plF];rw[if_neg h]
theorem Ji (l:List Dp) (x:Int):∀m k,(∃i:Nat,plF l x m k=i∧k≤i∧i<k+m∧(dpI l i).k =x∧∀j,k≤j→j<i→¬(dpI l j).k =x)∨(plF l x m k= -1∧∀j,k≤j→j<k+m→¬(dpI l j).k =x)
 |0,k=> .inr ⟨rfl,fun j h1 h2=>by omega⟩
 |m+1,k=>by
  by_cases h:(dpI l k).k =x
  ·exact .inl ⟨k,z2v h,Nat.le_refl _,by omega,h,fun j h1 h2=>by omega⟩
  ·rw[z3W h]
   rcases Ji l x m (k+1) with ⟨i,h1,h2,h3,h4,h5⟩|⟨h1,h2⟩
   ·refine .inl ⟨i,h1,by omega,by omega,h4,fun j g1 g2=>?_⟩
    by_cases e:j=k
    ·subst e;exact h
    ·exact h5 j (by omega) g2
   ·refine .inr ⟨h1,fun j g1 g2=>?_⟩
    by_cases e:j=k
    ·subst e;exact h
    ·exact h2 j (by omega) (by omega)
theorem z5i {l:List Dp} {x:Int} {n:Nat} (h:qc l x n=true):plF l x n 0= -1:=by
 rcases Ji l x n 0 with ⟨i,h1,h2,h3,h4,h5⟩|⟨h1,h2⟩
 ·rw[QD (show i<n by omega) h4] at h;cases h
 ·exact h1
theorem z5g {l:List Dp} {x:Int} {n:Nat} (h:qc l x n=false):∃i:Nat,plF l x n 0=i∧i<n∧(dpI l i).k =x:=by
 rcases Ji l x n 0 with ⟨i,h1,h2,h3,h4,h5⟩|⟨h1,h2⟩
 ·exact⟨i,h1,by omega,h4⟩
 ·have:qc l x n=true:=by
   unfold qc;rw[List.all_eq_true];intro i hi;have:=h2 i (by omega) (by have:=List.mem_range.1 hi;omega);simp[this]
  rw[this] at h;cases h
def DpAt (w:World) (b off n:Nat) (l:List Dp):Prop:=b<w.heap.size∧∀k,k<n→w.cell? ⟨b,off+k*3,none⟩=some (.int .i64 (dpI l k).k)∧w.cell? ⟨b,off+k*3+1,none⟩=some (.int .i64 (dpI l k).a)∧w.cell? ⟨b,off+k*3+2,none⟩=some (.int .i64 (dpI l k).b)
theorem DpAt.below {w w':World} {b off n:Nat} {l:List Dp} (h:DpAt w b off n l) (hb:Below w.heap.size w w'):DpAt w' b off n l:=
 ⟨Nat.lt_of_lt_of_le h.1 hb.size,fun k hk=>⟨(hb.cell (p:=⟨b,off+k*3,none⟩) h.1).trans (h.2 k hk).1,(hb.cell (p:=⟨b,off+k*3+1,none⟩) h.1).trans (h.2 k hk).2.1,(hb.cell (p:=⟨b,off+k*3+2,none⟩) h.1).trans (h.2 k hk).2.2⟩⟩
theorem DpAt.take {w:World} {b off n m:Nat} {l:List Dp} (h:DpAt w b off n l) (hm:m≤n):DpAt w b off m l:=⟨h.1,fun k hk=>h.2 k (by omega)⟩
theorem RDp.at_ {w:World} {v:Value} {l:List Dp} (h:RDp w v l):∃A c,v= .slice A l.length c∧l.length≤c∧l.length≤maxLen∧(0<l.length→∃b off,A=some ⟨b,off,none⟩∧DpAt w b off l.length l):=by
 obtain⟨A,c,h1,h2,h3,h4⟩:=h.form;refine⟨A,c,h1,h2,h3,fun hp=>?_⟩
 obtain⟨b,off,g1,g2,g3⟩:=h4 hp;exact⟨b,off,g1,g2,fun k hk=>by rw[jr hk];exact g3 k hk⟩
theorem z2O (p c d x:Int) (g:Nat) (w:World) (hg:g<w.heap.size) (hx:w.cell? ⟨g,0,none⟩=some (.int .i64 x)):
  Calls Tryz.prog 206 #[.agg #[.int .i64 p,.int .i64 c,.int .i64 d],.pointer (some ⟨g,0,none⟩)] w fun e w'=>e= .returned (.bool (p==x))∧Below w.heap.size w w':=by
 go_enter Tryz.func206,Tryz.ntmps206
 go_wp2;go_ret
 exact⟨rfl,by exact bel_⟩
theorem z14 (b off n c:Nat) (l:List Dp) (x:Int) (g:Nat) (w:World) (hd:DpAt w b off n l) (hn:n≤maxLen) (hg:g<w.heap.size) (hx:w.cell? ⟨g,0,none⟩=some (.int .i64 x)):
  Calls Tryz.prog 205 #[.slice (some ⟨b,off,none⟩) n c,.func (.func 206) #[] #[.pointer (some ⟨g,0,none⟩)]] w
   fun e w'=>e= .returned (.int .i64 (plF l x n 0))∧Below w.heap.size w w':=by
 unfold maxLen at hn;have HD:=Lib.hid hd;have HX:=Lib.hid hx;have HY:=Lib.hid (fun m k h=>z2v (l:=l) (x:=x) (m:=m) (k:=k) h);have HNo:=Lib.hid (fun m k h=>z3W (l:=l) (x:=x) (m:=m) (k:=k) h);have HZ:Hid (∀k,plF l x 0 k= -1):=Lib.hid (fun _=>rfl);clear hd hx
 go_enter Tryz.func205,Tryz.ntmps205
 go_wp2
 go_loopw [8] (fun y wr=>∃k:Nat,k≤n∧y= .int .i64 k∧Hid (plF l x n 0=plF l x (n -k) k)∧Below w.heap.size w wr) (fun y _=>n -(intOf y).toNat)
 case atStart=>exact⟨0,Nat.zero_le _,rfl,Lib.hid rfl,Below.refl _ _⟩
 case round=>
  obtain⟨k,hk,rfl,HK,hbl⟩:=hrel
  by_cases hlt:k<n
  ·have hlt1:(k:Int)<(n:Int):=by omega
   have ik1:(0:Int)≤(k:Int):=by omega
   have hd:=HD.out.below hbl;obtain⟨q0,q1,q2⟩:=hd.2 k hlt;have hbl2:=hd.1;have hgx:=(hbl.cell (p:=⟨g,0,none⟩) hg).trans HX.out;have hgl:g<wr.heap.size:=Nat.lt_of_lt_of_le hg hbl.size;have HY1:=Lib.hid (fun h=>HY.out (n -(k+1)) k h);have HN1:=Lib.hid (fun h=>HNo.out (n -(k+1)) k h);rw[show n -(k+1)+1=n -k by omega] at HY1 HN1;clear hd;generalize dpI l k=D at*
   go_wp2_with fail
   refine(z2O _ _ _ x g _ hgl hgx).mono ?_
   rintro e w2 ⟨rfl,hb2⟩;have hbw2:=hbl.trans (hb2.mono hbl.size);clear hb2 hbl q0 q1 q2 hgx
   by_cases he:D.k=x
   ·have e1:(D.k==x)=true:=beq_iff_eq.2 he
    have HE:=Lib.hid (HY1.out he);clear he;go_wp2;go_ret
    exact⟨ze (by rw[HK.out,HE.out]),hbw2⟩
   ·have e1:(D.k==x)=false:=beq_eq_false_iff_ne.2 he
    have HE:=Lib.hid (HN1.out he);clear he;go_wp2;go_roundw
    case rel=>exact⟨k+1,by omega,by go_num,Lib.hid (by rw[HK.out,HE.out]),hbw2⟩
    case measure=>simp[intOf];omega
  ·have hkk:k=n:=by omega
   have HE:=Lib.hid (HK.out);subst hkk;rw[Nat.sub_self,HZ.out] at HE;go_wp2;go_ret
   exact⟨ze HE.out.symm,hbl⟩
theorem Qu (b off n c:Nat) (l:List Dp) (x r:Int) (w:World) (hd:DpAt w b off n l) (hn:n≤maxLen) (hr:plF l x n 0=r):
  Calls Tryz.prog 143 #[.slice (some ⟨b,off,none⟩) n c,.int .i64 x] w fun e w'=>e= .returned (.int .i64 r)∧Below w.heap.size w w':=by
 subst hr;have hb0:Below w.heap.size w (w.alloc (.cells #[.int .i64 x] 3)):=by exact bel_
 have hx0:(w.alloc (.cells #[.int .i64 x] 3)).cell? ⟨w.heap.size,0,none⟩=some (.int .i64 x):=(Blk.newAt (w:=w) (t:=3) (cs:= #[.int .i64 x]) rfl).cell 0;have HC:=Lib.hid (z14 b off n c l x w.heap.size _ (hd.below hb0) hn (by simp) hx0);clear hd hx0
 go_enter Tryz.func143,Tryz.ntmps143
 go_wp2_with fail
 refine HC.out.mono ?_
 rintro e w2 ⟨rfl,hb2⟩;have hbw2:=hb0.trans (hb2.mono hb0.size);go_wp2;go_ret
 exact⟨rfl,hbw2⟩
theorem Qv (v:Value) (l:List Dp) (w:World) (h:RDp w v l):
  Calls Tryz.prog 77 #[v] w fun e w'=>e= .returned (.bool (qW l))∧Below w.heap.size w w':=by
 obtain⟨A,c,rfl,hc,hm,hat⟩:=h.at_;have hmx:=hm;unfold maxLen at hm;clear h
 by_cases h40:l.length≤40
 case neg=>
  have HX:=Lib.hid (Jl h40);have h41:(40:Int)<(l.length:Int):=by omega
  go_enter Tryz.func77,Tryz.ntmps77
  go_wp2;go_ret
  exact⟨za HX.out.symm,Below.refl _ _⟩
 have h41:¬(40:Int)<(l.length:Int):=by omega
 have HBAD:=Lib.hid (fun k (hk:k<l.length) h=>JH hk h);have HSUC:=Lib.hid (fun k (h:kn l k) h2=>Jd h h2);have HEND:=Lib.hid (fun (h:kn l l.length)=>jY.2 ⟨h40,h⟩)
 go_enter Tryz.func77,Tryz.ntmps77
 go_wp2
 go_loopw [10] (fun x wr=>∃k:Nat,k≤l.length∧x= .int .i64 k∧Hid (kn l k)∧Below w.heap.size w wr) (fun x _=>l.length -(intOf x).toNat)
 case atStart=>exact⟨0,Nat.zero_le _,rfl,Lib.hid (J6 l),Below.refl _ _⟩
 case round=>
  obtain⟨k,hk,rfl,HT,hbl⟩:=hrel
  by_cases hlt:k<l.length
  ·obtain⟨b,off,rfl,hd⟩:=hat (by omega)
   have hd:=hd.below hbl;have HB1:=Lib.hid (HBAD.out k hlt);have HS1:=Lib.hid (HSUC.out k HT.out);have hlt1:(k:Int)<(l.length:Int):=by omega
   have ik1:(0:Int)≤(k:Int):=by omega
   have ikc:(k:Int)≤(c:Int):=by omega
   obtain⟨q0,q1,q2⟩:=hd.2 k hlt;have hbl2:=hd.1;have HDP:Hid (depB l k=(inB (dpI l k).k 1 200&&(inB (dpI l k).a 1 50&&(inB (dpI l k).b 0 9999&&((decide (k=0)||decide ((dpI l (k -1)).b ≤(dpI l k).b))&&qc l (dpI l k).k k))))):=Lib.hid rfl;have HPL:=Lib.hid (fun h=>z5i (l:=l) (x:=(dpI l k).k) (n:=k) h);have HPP:=Lib.hid (fun h=>z5g (l:=l) (x:=(dpI l k).k) (n:=k) h);have HDA:=Lib.hid (hd.take (show k≤l.length by omega));have HPV:=Lib.hid (fun (r:Nat) (h:r<l.length)=>hd.2 r h);clear hd hat;generalize (dpI l k).k =dp at*;generalize (dpI l k).a =dc at*;generalize (dpI l k).b =dd at*
   go_upto_region 6 with (fail)
   obtain⟨wq,hwq⟩:∃v,v=wr.alloc (.cells #[.int .i64 dp,.int .i64 dc,.int .i64 dd] 48):=⟨_,rfl⟩;have hq:Blk wq wr.heap.size 48 #[.int .i64 dp,.int .i64 dc,.int .i64 dd]:=hwq▸Blk.newAt rfl;have hbq:Below wr.heap.size wr wq:=hwq▸(Below.refl _ _).alloc (Nat.le_refl _) _;rw[←hwq];clear hwq;have hbw:=hbl.trans (hbq.mono hbl.size);have HDQ:=Lib.hid (HDA.out.below hbq);generalize wr.heap.size=B at*;have hBl:=hq.lt;have hbQ:b<wq.heap.size:=HDQ.out.1;obtain⟨y_0,y_1,y_2⟩:=hq.c3;have HPC:=Lib.hid (fun (r:Nat) (h:r<l.length)=>(hbq.cell (p:=⟨b,off+r*3+2,none⟩) (Nat.lt_of_lt_of_le hbl2 (Nat.le_refl _))).trans (HPV.out r h).2.2);clear q0 q1 q2 hbq hbl
   cases hk1:inB dp 1 200
   ·have HX:=Lib.hid (HB1.out (by rw[HDP.out,hk1];rfl))
    have HK:=Lib.hid hk1;clear hk1
    (refine z9 (by kernel_rfl) (by kernel_rfl) (fun hG=>?_))
    repeat (go_big_quiet_step ((go_at_call_of 78 dp;exact zM (zn dp _ _ false _ HK.out))))
    refine wpQuiet_nil ?_
    clear hG;rintro w3 ⟨⟨_,hs3⟩,rfl⟩;have hbw3:=hbw.trans (hs3.mono hbw.size);clear hs3 hbw y_0 y_1 y_2;go_wp2;go_ret
    exact⟨za HX.out.symm,hbw3⟩
   ·have HK:=Lib.hid hk1
    cases hk2:inB dc 1 50
    ·have HX:=Lib.hid (HB1.out (by rw[HDP.out,hk1,hk2];rfl))
     have HA:=Lib.hid hk2;clear hk1 hk2
     (refine z9 (by kernel_rfl) (by kernel_rfl) (fun hG=>?_))
     repeat (go_big_quiet_step ((first|(go_at_call_of 78 dp;exact zM (zn dp _ _ true _ HK.out))|(go_at_call_of 78 dc;exact zM (zn dc _ _ false _ HA.out)))))
     refine wpQuiet_nil ?_
     clear hG;rintro w3 ⟨⟨_,hs3⟩,rfl⟩;have hbw3:=hbw.trans (hs3.mono hbw.size);clear hs3 hbw y_0 y_1 y_2;go_wp2;go_ret
     exact⟨za HX.out.symm,hbw3⟩
    ·have HA:=Lib.hid hk2
     cases hk3:inB dd 0 9999
     ·have HX:=Lib.hid (HB1.out (by rw[HDP.out,hk1,hk2,hk3];rfl))
      have HB:=Lib.hid hk3;clear hk1 hk2 hk3
      (refine z9 (by kernel_rfl) (by kernel_rfl) (fun hG=>?_))
      repeat (go_big_quiet_step ((first|(go_at_call_of 78 dp;exact zM (zn dp _ _ true _ HK.out))|(go_at_call_of 78 dc;exact zM (zn dc _ _ true _ HA.out))|(go_at_call_of 78 dd;exact zM (zn dd _ _ false _ HB.out)))))
      refine wpQuiet_nil ?_
      clear hG;rintro w3 ⟨⟨_,hs3⟩,rfl⟩;have hbw3:=hbw.trans (hs3.mono hbw.size);clear hs3 hbw y_0 y_1 y_2;go_wp2;go_ret
      exact⟨za HX.out.symm,hbw3⟩
     ·have HB:=Lib.hid hk3
      have HDP2:Hid (depB l k=((decide (k=0)||decide ((dpI l (k -1)).b ≤dd))&&qc l dp k)):=Lib.hid (by rw[HDP.out,hk1,hk2,hk3];rfl);clear hk1 hk2 hk3 HDP
      by_cases hk0:0<k
      ·obtain⟨r,rfl⟩:∃r,k=r+1:=⟨k -1,by omega⟩
       have hpc:=HPC.out r (by omega);rw[show r+1 -1=r by omega,decide_eq_false (show ¬r+1=0 by omega),Bool.false_or] at HDP2;have hs1:((r+1:Nat):Int) -1=(r:Int):=by omega
       have hw1:IntKind.i64.wrap (((r+1:Nat):Int) -1)=(r:Int):=by rw[hs1];exact IntWalk.i64_in _ (by omega)
       have ir1:(0:Int)≤(r:Int):=by omega
       have ir2:(r:Int)<(l.length:Int):=by omega
       have kp:decide ((0:Int)<((r+1:Nat):Int))=true:=decide_eq_true (by omega);generalize (dpI l r).b =pv at*
       by_cases hday:dd<pv
       ·have HX:=Lib.hid (HB1.out (by rw[HDP2.out,decide_eq_false (by omega)];rfl))
        have hd1:decide (dd<pv)=true:=decide_eq_true hday
        (refine z9 (by kernel_rfl) (by kernel_rfl) (fun hG=>?_))
        repeat (go_big_quiet_step ((first|(go_at_call_of 78 dp;exact zM (zn dp _ _ true _ HK.out))|(go_at_call_of 78 dc;exact zM (zn dc _ _ true _ HA.out))|(go_at_call_of 78 dd;exact zM (zn dd _ _ true _ HB.out)))))
        refine wpQuiet_nil ?_
        clear hG;rintro w3 ⟨⟨_,hs3⟩,rfl⟩;have hbw3:=hbw.trans (hs3.mono hbw.size);clear hs3 hbw y_0 y_1 y_2;clear hpc hw1 hs1 kp hd1;go_wp2;go_ret
        exact⟨za HX.out.symm,hbw3⟩
       ·rw[decide_eq_true (show pv≤dd by omega),Bool.true_and] at HDP2
        have hd1:decide (dd<pv)=false:=decide_eq_false hday
        cases hnp:qc l dp (r+1)
        ·have HX:=Lib.hid (HB1.out (by rw[HDP2.out,hnp]))
         obtain⟨i,hi1,hi2,hi3⟩:=HPP.out hnp;have HR:=Lib.hid hi1;have hge:decide ((0:Int)≤(i:Int))=true:=decide_eq_true (by omega);clear hi1 hi3 hnp
         (refine z9 (by kernel_rfl) (by kernel_rfl) (fun hG=>?_))
         repeat (go_big_quiet_step ((first|(go_at_call_of 78 dp;exact zM (zn dp _ _ true _ HK.out))|(go_at_call_of 78 dc;exact zM (zn dc _ _ true _ HA.out))|(go_at_call_of 78 dd;exact zM (zn dd _ _ true _ HB.out))|(go_at_call 143;exact zv (Qu b off (r+1) c l dp _ _ (HDQ.out.below (Grw.below _)) (by unfold maxLen;omega) HR.out)))))
         refine wpQuiet_nil ?_
         clear hG;rintro w3 ⟨⟨_,hs3⟩,rfl⟩;have hbw3:=hbw.trans (hs3.mono hbw.size);clear hs3 hbw y_0 y_1 y_2;clear hpc hw1 hs1 kp hd1 hge;go_wp2;go_ret
         exact⟨za HX.out.symm,hbw3⟩
        ·have HX:=Lib.hid (HS1.out (by rw[HDP2.out,hnp]))
         have HR:=Lib.hid (HPL.out hnp);have hge:decide ((0:Int)≤(-1:Int))=false:=rfl;clear hnp
         (refine z9 (by kernel_rfl) (by kernel_rfl) (fun hG=>?_))
         repeat (go_big_quiet_step ((first|(go_at_call_of 78 dp;exact zM (zn dp _ _ true _ HK.out))|(go_at_call_of 78 dc;exact zM (zn dc _ _ true _ HA.out))|(go_at_call_of 78 dd;exact zM (zn dd _ _ true _ HB.out))|(go_at_call 143;exact zv (Qu b off (r+1) c l dp _ _ (HDQ.out.below (Grw.below _)) (by unfold maxLen;omega) HR.out)))))
         refine wpQuiet_nil ?_
         clear hG;rintro w3 ⟨⟨_,hs3⟩,rfl⟩;have hbw3:=hbw.trans (hs3.mono hbw.size);clear hs3 hbw y_0 y_1 y_2;clear hpc hw1 hs1 kp hd1 hge;go_wp2;go_roundw
         case rel=>exact⟨r+1+1,by omega,by go_num,HX,hbw3⟩
         case measure=>simp[intOf];omega
      ·have hk00:k=0:=by omega
       subst hk00;rw[decide_eq_true (rfl:(0:Nat)=0),Bool.true_or,Bool.true_and] at HDP2;clear HPC HPV ik1 ikc hk
       cases hnp:qc l dp (0)
       ·have HX:=Lib.hid (HB1.out (by rw[HDP2.out,hnp]))
        obtain⟨i,hi1,hi2,hi3⟩:=HPP.out hnp;exact absurd hi2 (by omega)
       ·have HX:=Lib.hid (HS1.out (by rw[HDP2.out,hnp]))
        have HR:=Lib.hid (HPL.out hnp);have hge:decide ((0:Int)≤(-1:Int))=false:=rfl;clear hnp
        (refine z9 (by kernel_rfl) (by kernel_rfl) (fun hG=>?_))
        repeat (go_big_quiet_step ((first|(go_at_call_of 78 dp;exact zM (zn dp _ _ true _ HK.out))|(go_at_call_of 78 dc;exact zM (zn dc _ _ true _ HA.out))|(go_at_call_of 78 dd;exact zM (zn dd _ _ true _ HB.out))|(go_at_call 143;exact zv (Qu b off (0) c l dp _ _ (HDQ.out.below (Grw.below _)) (by unfold maxLen;omega) HR.out)))))
        refine wpQuiet_nil ?_
        clear hG;rintro w3 ⟨⟨_,hs3⟩,rfl⟩;have hbw3:=hbw.trans (hs3.mono hbw.size);clear hs3 hbw y_0 y_1 y_2;clear hge;go_wp2;go_roundw
        case rel=>exact⟨0+1,by omega,by go_num,HX,hbw3⟩
        case measure=>simp[intOf];omega
  ·have hkk:k=l.length:=by omega
   subst hkk;have HX:=Lib.hid (HEND.out HT.out);clear hat;go_wp2;go_ret
   exact⟨za HX.out.symm,hbl⟩
theorem Qy (v:Value) (l:List Dp) (w:World) (h:RDp w v l):
  Calls Tryz.prog 137 #[v] w fun e w'=>e= .returned (.bool (qW l))∧Below w.heap.size w w':=by
 obtain⟨A,c,rfl,hc,hm,hat⟩:=h.at_;unfold maxLen at hm;clear h;obtain⟨b4,hb4⟩:∃x,decide ((l.length:Int)≤40)=x:=⟨_,rfl⟩;have HB4:=Lib.hid hb4;have HBAD:=Lib.hid (fun k (hk:k<l.length) h=>JH hk h);have HSUC:=Lib.hid (fun k (h:kn l k) h2=>Jd h h2)
 have HEND:Hid (kn l l.length→qW l=b4):=Lib.hid (fun h=>by
  cases b4
  ·have h2:=of_decide_eq_false hb4
   exact Jl (by omega)
  ·have h2:=of_decide_eq_true hb4
   exact jY.2 ⟨by omega,h⟩)
 clear hb4
 go_enter Tryz.func137,Tryz.ntmps137
 go_wp2
 go_loopw [3] (fun x wr=>∃k:Nat,k≤l.length∧x= .int .i64 k∧Hid (kn l k)∧Below w.heap.size w wr) (fun x _=>l.length -(intOf x).toNat)
 case atStart=>exact⟨0,Nat.zero_le _,rfl,Lib.hid (J6 l),Below.refl _ _⟩
 case round=>
  obtain⟨k,hk,rfl,HT,hbl⟩:=hrel
  by_cases hlt:k<l.length
  ·obtain⟨b,off,rfl,hd⟩:=hat (by omega)
   have hd:=hd.below hbl;have HB1:=Lib.hid (HBAD.out k hlt);have HS1:=Lib.hid (HSUC.out k HT.out);have hlt1:(k:Int)<(l.length:Int):=by omega
   have ik1:(0:Int)≤(k:Int):=by omega
   obtain⟨q0,q1,q2⟩:=hd.2 k hlt;have hbl2:=hd.1;have HDP:Hid (depB l k=(inB (dpI l k).k 1 200&&(inB (dpI l k).a 1 50&&(inB (dpI l k).b 0 9999&&((decide (k=0)||decide ((dpI l (k -1)).b ≤(dpI l k).b))&&qc l (dpI l k).k k))))):=Lib.hid rfl;have HNB:=Lib.hid (fun (j:Nat) (h1:j<k) (h2:(dpI l j).k =(dpI l k).k)=>QD (l:=l) h1 h2);have HNS:=Lib.hid (fun (j:Nat)=>Vz l (dpI l k).k j);have HN0:=Lib.hid (VY l (dpI l k).k);have HPV:=Lib.hid (fun (r:Nat) (h:r<l.length)=>hd.2 r h);clear hd;generalize (dpI l k).k =dp at*;generalize (dpI l k).a =dc at*;generalize (dpI l k).b =dd at*
   go_upto_region 5 with (fail)
   obtain⟨wq,hwq⟩:∃v,v=wr.alloc (.cells #[.int .i64 dp,.int .i64 dc,.int .i64 dd] 48):=⟨_,rfl⟩;have hq:Blk wq wr.heap.size 48 #[.int .i64 dp,.int .i64 dc,.int .i64 dd]:=hwq▸Blk.newAt rfl;have hbq:Below wr.heap.size wr wq:=hwq▸(Below.refl _ _).alloc (Nat.le_refl _) _;rw[←hwq];clear hwq;have hbw:=hbl.trans (hbq.mono hbl.size);generalize wr.heap.size=B at*;have hBl:=hq.lt;have hbQ:b<wq.heap.size:=by omega
   obtain⟨y_0,y_1,y_2⟩:=hq.c3;have HPC:=Lib.hid (fun (r:Nat) (h:r<l.length)=>And.intro ((hbq.cell (p:=⟨b,off+r*3,none⟩) hbl2).trans (HPV.out r h).1) ((hbq.cell (p:=⟨b,off+r*3+2,none⟩) hbl2).trans (HPV.out r h).2.2));clear q0 q1 q2 hbq hbl
   cases hk1:inB dp 1 200
   ·have HX:=Lib.hid (HB1.out (by rw[HDP.out,hk1];rfl))
    have HK:=Lib.hid hk1;clear hk1
    (refine z9 (by kernel_rfl) (by kernel_rfl) (fun hG=>?_))
    repeat (go_big_quiet_step ((go_at_call_of 138 dp;exact zM (zF dp _ _ false _ HK.out))))
    refine wpQuiet_nil ?_
    clear hG;rintro w3 ⟨⟨_,hs3⟩,rfl⟩;have hbw3:=hbw.trans (hs3.mono hbw.size);clear hs3 hbw y_0 y_1 y_2;go_wp2;go_ret
    exact⟨za HX.out.symm,hbw3⟩
   ·have HK:=Lib.hid hk1
    cases hk2:inB dc 1 50
    ·have HX:=Lib.hid (HB1.out (by rw[HDP.out,hk1,hk2];rfl))
     have HA:=Lib.hid hk2;clear hk1 hk2
     (refine z9 (by kernel_rfl) (by kernel_rfl) (fun hG=>?_))
     repeat (go_big_quiet_step ((first|(go_at_call_of 138 dp;exact zM (zF dp _ _ true _ HK.out))|(go_at_call_of 138 dc;exact zM (zF dc _ _ false _ HA.out)))))
     refine wpQuiet_nil ?_
     clear hG;rintro w3 ⟨⟨_,hs3⟩,rfl⟩;have hbw3:=hbw.trans (hs3.mono hbw.size);clear hs3 hbw y_0 y_1 y_2;go_wp2;go_ret
     exact⟨za HX.out.symm,hbw3⟩
    ·have HA:=Lib.hid hk2
     cases hk3:inB dd 0 9999
     ·have HX:=Lib.hid (HB1.out (by rw[HDP.out,hk1,hk2,hk3];rfl))
      have HB:=Lib.hid hk3;clear hk1 hk2 hk3
      (refine z9 (by kernel_rfl) (by kernel_rfl) (fun hG=>?_))
      repeat (go_big_quiet_step ((first|(go_at_call_of 138 dp;exact zM (zF dp _ _ true _ HK.out))|(go_at_call_of 138 dc;exact zM (zF dc _ _ true _ HA.out))|(go_at_call_of 138 dd;exact zM (zF dd _ _ false _ HB.out)))))
      refine wpQuiet_nil ?_
      clear hG;rintro w3 ⟨⟨_,hs3⟩,rfl⟩;have hbw3:=hbw.trans (hs3.mono hbw.size);clear hs3 hbw y_0 y_1 y_2;go_wp2;go_ret
      exact⟨za HX.out.symm,hbw3⟩
     ·have HB:=Lib.hid hk3
      have HDP2:Hid (depB l k=((decide (k=0)||decide ((dpI l (k -1)).b ≤dd))&&qc l dp k)):=Lib.hid (by rw[HDP.out,hk1,hk2,hk3];rfl);clear hk1 hk2 hk3 HDP
      by_cases hk0:0<k
      ·obtain⟨r,rfl⟩:∃r,k=r+1:=⟨k -1,by omega⟩
       have hpc:=(HPC.out r (by omega)).2;rw[show r+1 -1=r by omega,decide_eq_false (show ¬r+1=0 by omega),Bool.false_or] at HDP2;have hs1:((r+1:Nat):Int) -1=(r:Int):=by omega
       have hw1:IntKind.i64.wrap (((r+1:Nat):Int) -1)=(r:Int):=by rw[hs1];exact IntWalk.i64_in _ (by omega)
       have ir1:(0:Int)≤(r:Int):=by omega
       have ir2:(r:Int)<(l.length:Int):=by omega
       have kp:decide ((0:Int)<((r+1:Nat):Int))=true:=decide_eq_true (by omega);generalize (dpI l r).b =pv at*
       by_cases hday:dd<pv
       ·have HX:=Lib.hid (HB1.out (by rw[HDP2.out,decide_eq_false (by omega)];rfl))
        have hd1:decide (dd<pv)=true:=decide_eq_true hday
        (refine z9 (by kernel_rfl) (by kernel_rfl) (fun hG=>?_))
        repeat (go_big_quiet_step ((first|(go_at_call_of 138 dp;exact zM (zF dp _ _ true _ HK.out))|(go_at_call_of 138 dc;exact zM (zF dc _ _ true _ HA.out))|(go_at_call_of 138 dd;exact zM (zF dd _ _ true _ HB.out)))))
        refine wpQuiet_nil ?_
        clear hG;rintro w3 ⟨⟨_,hs3⟩,rfl⟩;have hbw3:=hbw.trans (hs3.mono hbw.size);clear hs3 hbw y_0 y_1 y_2 hpc hw1 hs1 kp hd1;go_wp2;go_ret
        exact⟨za HX.out.symm,hbw3⟩
       ·rw[decide_eq_true (show pv≤dd by omega),Bool.true_and] at HDP2
        have hd1:decide (dd<pv)=false:=decide_eq_false hday
        (refine z9 (by kernel_rfl) (by kernel_rfl) (fun hG=>?_))
        repeat (go_big_quiet_step ((first|(go_at_call_of 138 dp;exact zM (zF dp _ _ true _ HK.out))|(go_at_call_of 138 dc;exact zM (zF dc _ _ true _ HA.out))|(go_at_call_of 138 dd;exact zM (zF dd _ _ true _ HB.out)))))
        refine wpQuiet_nil ?_
        clear hG;rintro w3 ⟨⟨_,hs3⟩,rfl⟩;have hbw3:=hbw.trans (hs3.mono hbw.size);have hq3:=hq.below (hs3.mono (Nat.le_refl _)) hBl;have HPC3:=Lib.hid (fun (r:Nat) (h:r<l.length)=>(hs3.cell (p:=⟨b,off+r*3,none⟩) hbQ).trans (HPC.out r h).1);have hbQ3:=Nat.lt_of_lt_of_le hbQ hs3.size;clear hs3 hbw y_0 y_1 y_2 hq HPC HPV;clear hpc hw1 hs1 kp hd1;have HK1:=Lib.hid (HT);obtain⟨y_0,y_1,y_2⟩:=hq3.c3;have hB3:=hq3.lt;go_wp2
        go_loopw [5] (fun x wr=>∃j:Nat,j≤(r+1)∧x= .int .i64 j∧Hid (qc l dp j=true)∧Below w3.heap.size w3 wr) (fun x _=>(r+1) -(intOf x).toNat)
        case atStart=>exact⟨0,Nat.zero_le _,rfl,HN0,Below.refl _ _⟩
        case round=>
         obtain⟨j,hj,rfl,HJ,hbj⟩:=hrel
         by_cases hjk:j<(r+1)
         ·have hjk1:(j:Int)<(((r+1):Nat):Int):=by omega
          have ij1:(0:Int)≤(j:Int):=by omega
          have ij2:(j:Int)<(l.length:Int):=by omega
          have hcj:=(hbj.cell (p:=⟨b,off+j*3,none⟩) hbQ3).trans (HPC3.out j (by omega));have hq4:=hq3.below hbj hB3;have hb4:=Nat.lt_of_lt_of_le hbQ3 hbj.size;have hB4:=hq4.lt;clear y_0 y_1 y_2;obtain⟨y_0,y_1,y_2⟩:=hq4.c3;have HNB1:=Lib.hid (fun h=>HNB.out j hjk h);have HNS1:=Lib.hid (HNS.out j);generalize (dpI l j).k =pj at*
          by_cases he:pj=dp
          ·have e1:(pj==dp)=true:=beq_iff_eq.2 he
           have HX:=Lib.hid (HB1.out (by rw[HDP2.out];exact HNB1.out he));clear he
           go_wp2_with fail
           (refine z9 (by kernel_rfl) (by kernel_rfl) (fun hG=>?_))
           repeat (go_big_quiet_step (fail))
           refine wpQuiet_nil ?_
           clear hG;rintro w5 ⟨⟨_,hs5⟩,rfl⟩;have hbj5:=hbj.trans (hs5.mono hbj.size);clear hs5 hbj hcj y_0 y_1 y_2;go_wp2;go_ret
           exact⟨za HX.out.symm,hbw3.trans (hbj5.mono hbw3.size)⟩
          ·have e1:(pj==dp)=false:=beq_eq_false_iff_ne.2 he
           have HX:=Lib.hid (HNS1.out.trans (by rw[HJ.out,decide_eq_true he]<;>rfl));clear he
           go_wp2_with fail
           (refine z9 (by kernel_rfl) (by kernel_rfl) (fun hG=>?_))
           repeat (go_big_quiet_step (fail))
           refine wpQuiet_nil ?_
           clear hG;rintro w5 ⟨⟨_,hs5⟩,rfl⟩;have hbj5:=hbj.trans (hs5.mono hbj.size);clear hs5 hbj hcj y_0 y_1 y_2;go_wp2;go_roundw
           case rel=>exact⟨j+1,by omega,by go_num,HX,hbj5⟩
           case measure=>simp[intOf];omega
         ·have hjj:j=(r+1):=by omega
          subst hjj;have HX:=Lib.hid (HS1.out (by rw[HDP2.out];exact HJ.out));have hbw5:=hbw3.trans (hbj.mono hbw3.size);clear y_0 y_1 y_2;go_wp2;go_roundw
          case rel=>exact⟨(r+1)+1,by omega,by go_num,HX,hbw5⟩
          case measure=>simp[intOf];omega
      ·have hk00:k=0:=by omega
       subst hk00;rw[decide_eq_true (rfl:(0:Nat)=0),Bool.true_or,Bool.true_and] at HDP2;clear ik1 hk
       (refine z9 (by kernel_rfl) (by kernel_rfl) (fun hG=>?_))
       repeat (go_big_quiet_step ((first|(go_at_call_of 138 dp;exact zM (zF dp _ _ true _ HK.out))|(go_at_call_of 138 dc;exact zM (zF dc _ _ true _ HA.out))|(go_at_call_of 138 dd;exact zM (zF dd _ _ true _ HB.out)))))
       refine wpQuiet_nil ?_
       clear hG;rintro w3 ⟨⟨_,hs3⟩,rfl⟩;have hbw3:=hbw.trans (hs3.mono hbw.size);have hq3:=hq.below (hs3.mono (Nat.le_refl _)) hBl;have HPC3:=Lib.hid (fun (r:Nat) (h:r<l.length)=>(hs3.cell (p:=⟨b,off+r*3,none⟩) hbQ).trans (HPC.out r h).1);have hbQ3:=Nat.lt_of_lt_of_le hbQ hs3.size;clear hs3 hbw y_0 y_1 y_2 hq HPC HPV
       skip
       have HK1:=Lib.hid (HT);obtain⟨y_0,y_1,y_2⟩:=hq3.c3;have hB3:=hq3.lt;go_wp2
       go_loopw [5] (fun x wr=>∃j:Nat,j≤0∧x= .int .i64 j∧Hid (qc l dp j=true)∧Below w3.heap.size w3 wr) (fun x _=>0 -(intOf x).toNat)
       case atStart=>exact⟨0,Nat.zero_le _,rfl,HN0,Below.refl _ _⟩
       case round=>
        obtain⟨j,hj,rfl,HJ,hbj⟩:=hrel
        by_cases hjk:j<0
        ·exact absurd hjk (by omega)
        ·have hjj:j=0:=by omega
         subst hjj;have HX:=Lib.hid (HS1.out (by rw[HDP2.out];exact HJ.out));have hbw5:=hbw3.trans (hbj.mono hbw3.size);clear y_0 y_1 y_2;go_wp2;go_roundw
         case rel=>exact⟨0+1,by omega,by go_num,HX,hbw5⟩
         case measure=>simp[intOf];omega
  ·have hkk:k=l.length:=by omega
   subst hkk;have HX:=Lib.hid (HEND.out HT.out);have HB5:=HB4.out;clear hat
   cases b4
   ·go_wp2
    go_ret
    exact⟨za HX.out.symm,hbl⟩
   ·go_wp2
    go_ret
    exact⟨za HX.out.symm,hbl⟩
end Go.Proofs.YtnjcpljhmhdhkaaGreat
