/- part 38 -/
import Derived.Test.YtnjcpljhmhdhkaaGreatTPk36
import Derived.Test.YtnjcpljhmhdhkaaGreatTPk37
import Derived.Deep.Upon
set_option linter.unusedSimpArgs false
set_option linter.unusedVariables false
set_option maxRecDepth 100000
set_option maxHeartbeats 32000000
namespace Go.Proofs.YtnjcpljhmhdhkaaGreat
open Go.RowKit
theorem z4w (v:Value) (l:List Dp) (b:Bool) (w:World) (h:RDp w v l) (hb:qW l=b):
  Calls Tryz.prog 137 #[v] w fun e w'=>e= .returned (.bool b)∧Below w.heap.size w w':=by
 subst hb;exact Qy v l w h
theorem z4s (v:Value) (l:List Dp) (b:Bool) (w:World) (h:RDp w v l) (hb:qW l=b):
  Calls Tryz.prog 77 #[v] w fun e w'=>e= .returned (.bool b)∧Below w.heap.size w w':=by
 subst hb;exact Qv v l w h
def jA (l:List Dp) (P:Int) (k:Nat):Prop:=∀j,j<k→(dpI l j).k ≤P
theorem jX {l:List Dp} {P:Int} (h:jA l P l.length):l.all (fun d=>decide (d.k≤P))=true:=by
 rw[List.all_eq_true];intro d hd;obtain⟨j,hj,rfl⟩:=List.getElem_of_mem hd;have:=h j hj;rw[jr hj] at this
 simpa using this
theorem yq {l:List Dp} {P:Int} {k:Nat} (hk:k<l.length) (h:P<(dpI l k).k):l.all (fun d=>decide (d.k≤P))=false:=by
 cases hc:l.all (fun d=>decide (d.k≤P))
 ·rfl
 ·have:=List.all_eq_true.1 hc l[k] (List.getElem_mem hk)
  rw[jr hk] at h;simp at this
  omega
theorem jR {l:List Dp} {P:Int} {k:Nat} (h:jA l P k) (hk:(dpI l k).k ≤P):jA l P (k+1):=fun j hj=>by
 by_cases e:j=k
 ·subst e;exact hk
 ·exact h j (by omega)
theorem z3L (v0 v1 v2 v3 v4 v5 v6:Value) (S:St) (w:World) (h:RSt w v0 v1 v2 v3 v4 v5 v6 S):
  Calls Tryz.prog 17 #[.agg #[v0,v1,v2,v3,v4,v5,v6,.int .i64 S.fund]] w fun e w'=>e= .returned (.bool (q8 S))∧Below w.heap.size w w':=by
 obtain⟨B2,d2,ev2,_⟩:=h.dr.nn.formI;obtain⟨B3,d3,ev3,_⟩:=h.dr.nl.formI;obtain⟨B5,d5,ev5,hc5,hm5,_⟩:=h.cs.form;obtain⟨B6,d6,ev6,hc6,hm6,hat⟩:=h.ds.at_;subst ev2 ev3 ev5 ev6;unfold maxLen at hm5 hm6;have hb0:Below w.heap.size w (w.alloc (.cells #[v0,v1,.slice B2 S.D.nn.length d2,.slice B3 S.D.nl.length d3,v4,.slice B5 S.cs.length d5,.slice B6 S.ds.length d6,.int .i64 S.fund] 34)):=by exact bel_
 have hX0:Blk (w.alloc (.cells #[v0,v1,.slice B2 S.D.nn.length d2,.slice B3 S.D.nl.length d3,v4,.slice B5 S.cs.length d5,.slice B6 S.ds.length d6,.int .i64 S.fund] 34)) w.heap.size 34 #[v0,v1,.slice B2 S.D.nn.length d2,.slice B3 S.D.nl.length d3,v4,.slice B5 S.cs.length d5,.slice B6 S.ds.length d6,.int .i64 S.fund]:=Blk.newAt rfl;have HAT:=Lib.hid hat;have HH:=Lib.hid h;clear hat h;obtain⟨od,hod⟩:∃x,okD S.D=x:=⟨_,rfl⟩;obtain⟨dB,hdB⟩:∃x,qW S.ds=x:=⟨_,rfl⟩;obtain⟨fB,hfB⟩:∃x,inB S.fund 0 1000000=x:=⟨_,rfl⟩;obtain⟨pB,hpB⟩:∃x,qL S.D.nn S.D.nl S.cs=x:=⟨_,rfl⟩;obtain⟨wB,hwB⟩:∃x,zm S.D.nn S.D.nl=x:=⟨_,rfl⟩;obtain⟨P,hP⟩:∃x,yh S.D.nn S.D.nl=x:=⟨_,rfl⟩;have HDEF:Hid (q8 S=(od&&(dB&&(fB&&((decide (S.cs.length=0)||pB)&&((decide (S.ds.length=0)||wB)&&S.ds.all (fun d=>decide (d.k≤P)))))))):=Lib.hid (by unfold q8;rw[hod,hdB,hfB,hpB,hwB,hP]);have HOD:=Lib.hid hod;have HDB:=Lib.hid hdB;have HFB:=Lib.hid hfB;have HPB:=Lib.hid hpB;have HWB:=Lib.hid hwB;have HPP:=Lib.hid hP;clear hod hdB hfB hpB hwB hP
 go_enter Tryz.func17,Tryz.ntmps17
 go_wp2_with fail
 refine(z4N _ _ _ _ _ S.D od _ (HH.out.dr.below hb0) HOD).mono ?_
 rintro e w1 ⟨rfl,hb1⟩;have hbw1:=hb0.trans (hb1.mono hb0.size);have hX1:=hX0.below hb1 hX0.lt;clear hb1 hb0 hX0
 cases od
 ·have HX:Hid (q8 S=false):=Lib.hid (by rw[HDEF.out];rfl)
  go_wp2;go_ret
  exact⟨za HX.out.symm,hbw1⟩
 obtain⟨x_0,x_1,x_2,x_3,x_4,x_5,x_6,x_7⟩:=hX1.c8
 go_wp2_with fail
 refine(z4s _ S.ds dB _ (HH.out.ds.below hbw1) HDB.out).mono ?_
 rintro e w2 ⟨rfl,hb2⟩;have hbw2:=hbw1.trans (hb2.mono hbw1.size);have hX2:=hX1.below hb2 hX1.lt;clear hb2 hbw1 hX1 x_0 x_1 x_2 x_3 x_4 x_5 x_6 x_7
 cases dB
 ·have HX:Hid (q8 S=false):=Lib.hid (by rw[HDEF.out];rfl)
  go_wp2;go_ret
  exact⟨za HX.out.symm,hbw2⟩
 obtain⟨x_0,x_1,x_2,x_3,x_4,x_5,x_6,x_7⟩:=hX2.c8;have hXl2:=hX2.lt
 go_wp2_with fail
 refine(zn S.fund 0 1000000 fB _ HFB.out).mono ?_
 rintro e w' ⟨rfl,rfl⟩
 cases fB
 ·have HX:Hid (q8 S=false):=Lib.hid (by rw[HDEF.out];rfl)
  go_wp2;go_ret
  exact⟨za HX.out.symm,hbw2⟩
 go_upto_region 4 with (fail)
 obtain⟨w3,hw3⟩:∃u,u=w2.alloc (.cells #[.slice B2 S.D.nn.length d2,.slice B3 S.D.nl.length d3] 27):=⟨_,rfl⟩;have hN3:Blk w3 w2.heap.size 27 #[.slice B2 S.D.nn.length d2,.slice B3 S.D.nl.length d3]:=hw3▸Blk.newAt rfl;have hb3:Below w2.heap.size w2 w3:=hw3▸(Below.refl _ _).alloc (Nat.le_refl _) _;rw[←hw3];clear hw3;have hbw3:=hbw2.trans (hb3.mono hbw2.size);have hX3:=hX2.below hb3 hXl2;have hXl3:=hX3.lt;have hNl3:=hN3.lt;clear hb3 hbw2 hX2 x_0 x_1 x_2 x_3 x_4 x_5 x_6 x_7 hXl2;generalize w2.heap.size=Nb at*;obtain⟨x_0,x_1,x_2,x_3,x_4,x_5,x_6,x_7⟩:=hX3.c8;obtain⟨n_0,n_1⟩:=hN3.c2
 by_cases hc0:0<S.cs.length
 ·have e1:(0:Int)<(S.cs.length:Int):=by omega
  have HC0:Hid (decide (S.cs.length=0)=false):=Lib.hid (decide_eq_false (by omega))
  go_wp2_with fail
  refine(z1e _ _ _ S.D.nn S.D.nl S.cs pB _ (HH.out.dr.nn.below hbw3) (HH.out.dr.nl.below hbw3) (HH.out.cs.below hbw3) HPB.out).mono ?_
  rintro e w4 ⟨rfl,hb4⟩;have hbw4:=hbw3.trans (hb4.mono hbw3.size);have hX4:=hX3.below hb4 hX3.lt;have hN4:=hN3.below hb4 hN3.lt;clear hb4 hbw3 hX3 hN3 hXl3 hNl3 x_0 x_1 x_2 x_3 x_4 x_5 x_6 x_7 n_0 n_1;have hXl4:=hX4.lt;have hNl4:=hN4.lt;obtain⟨x_0,x_1,x_2,x_3,x_4,x_5,x_6,x_7⟩:=hX4.c8;obtain⟨n_0,n_1⟩:=hN4.c2;clear e1 hc0
  cases pB
  ·have HX:Hid (q8 S=false):=Lib.hid (by rw[HDEF.out,HC0.out];simp)
   go_wp2;go_ret
   exact⟨za HX.out.symm,hbw4⟩
  ·skip
   by_cases hd0:0<S.ds.length
   ·have e2:(0:Int)<(S.ds.length:Int):=by omega
    have HD0:Hid (decide (S.ds.length=0)=false):=Lib.hid (decide_eq_false (by omega))
    go_wp2_with fail
    refine(jc _ _ S.D.nn S.D.nl wB _ (HH.out.dr.nn.below hbw4) (HH.out.dr.nl.below hbw4) HWB.out).mono ?_
    rintro e w5 ⟨rfl,hb5⟩;have hbw5:=hbw4.trans (hb5.mono hbw4.size);have hX5:=hX4.below hb5 hX4.lt;have hN5:=hN4.below hb5 hN4.lt;clear hb5 hbw4 hX4 hN4 hXl4 hNl4 x_0 x_1 x_2 x_3 x_4 x_5 x_6 x_7 n_0 n_1;have hXl5:=hX5.lt;have hNl5:=hN5.lt;obtain⟨x_0,x_1,x_2,x_3,x_4,x_5,x_6,x_7⟩:=hX5.c8;obtain⟨n_0,n_1⟩:=hN5.c2;clear e2
    cases wB
    ·have HX:Hid (q8 S=false):=Lib.hid (by rw[HDEF.out,HD0.out];simp)
     go_wp2;go_ret
     exact⟨za HX.out.symm,hbw5⟩
    ·skip
     have HAL:=Lib.hid (fun k (hk:k<S.ds.length) (h:P<(dpI S.ds k).k)=>yq hk h);have HSU:=Lib.hid (fun k (h:jA S.ds P k) h2=>jR (k:=k) h h2);have HEN:=Lib.hid (fun (h:jA S.ds P S.ds.length)=>jX h);clear x_0 x_1 x_2 x_3 x_4 x_5 x_6 x_7 n_0 n_1;obtain⟨x_0,x_1,x_2,x_3,x_4,x_5,x_6,x_7⟩:=hX5.c8;obtain⟨n_0,n_1⟩:=hN5.c2;go_wp2
     go_loopw [50] (fun y wr=>∃k:Nat,k≤S.ds.length∧y= .int .i64 k∧Hid (jA S.ds P k)∧Below w5.heap.size w5 wr) (fun y _=>S.ds.length -(intOf y).toNat)
     case atStart=>exact⟨0,Nat.zero_le _,rfl,Lib.hid (fun j hj=>absurd hj (by omega)),Below.refl _ _⟩
     case round=>
      obtain⟨k,hk,rfl,HT,hbl⟩:=hrel;clear x_0 x_1 x_2 x_3 x_4 x_5 x_6 x_7 n_0 n_1;have hbr:=hbw5.trans (hbl.mono hbw5.size);have hXr:=hX5.below hbl hXl5;have hNr:=hN5.below hbl hNl5;have hXlr:=hXr.lt;have hNlr:=hNr.lt;obtain⟨x_0,x_1,x_2,x_3,x_4,x_5,x_6,x_7⟩:=hXr.c8;obtain⟨n_0,n_1⟩:=hNr.c2
      by_cases hlt:k<S.ds.length
      ·obtain⟨b,off,rfl,hd⟩:=HAT.out (by omega)
       have hd:=hd.below hbr;obtain⟨q0,q1,q2⟩:=hd.2 k hlt;have hbz:=hd.1;have hlt1:(k:Int)<(S.ds.length:Int):=by omega
       have ik1:(0:Int)≤(k:Int):=by omega
       have HA1:=Lib.hid (HAL.out k hlt);have HS1:=Lib.hid (HSU.out k HT.out);clear hd;generalize dpI S.ds k=D at*
       go_upto_region 9 with (fail)
       obtain⟨wq,hwq⟩:∃v,v=wr.alloc (.cells #[.int .i64 D.k,.int .i64 D.a,.int .i64 D.b] 48):=⟨_,rfl⟩;have hq:Blk wq wr.heap.size 48 #[.int .i64 D.k,.int .i64 D.a,.int .i64 D.b]:=hwq▸Blk.newAt rfl;have hbq:Below wr.heap.size wr wq:=hwq▸(Below.refl _ _).alloc (Nat.le_refl _) _;rw[←hwq];clear hwq;have hNq:=hNr.below hbq hNlr;have hNlq:=hNq.lt;have hbrq:=hbr.trans (hbq.mono hbr.size);have hblq:=hbl.trans (hbq.mono hbl.size);have rn:=HH.out.dr.nn.below hbrq;have rl:=HH.out.dr.nl.below hbrq;have hql:=hq.lt;clear x_0 x_1 x_2 x_3 x_4 x_5 x_6 x_7 n_0 n_1 q0 q1 q2 hXr hNr hbq hbl hbr;obtain⟨y_0,y_1,y_2⟩:=hq.c3;obtain⟨n_0,n_1⟩:=hNq.c2;generalize wr.heap.size=Bq at*
       by_cases hp:P<D.k
       ·have e1:decide (P<D.k)=true:=decide_eq_true hp
        have HX:Hid (q8 S=false):=Lib.hid (by rw[HDEF.out,HA1.out hp];simp);clear hp
        go_wp2_with fail
        (refine z9 (by kernel_rfl) (by kernel_rfl) (fun hG=>?_))
        repeat (go_big_quiet_step ((go_at_call 22;exact zv (kI _ _ S.D.nn S.D.nl P _ (rn.below (Grw.below _)) (rl.below (Grw.below _)) HPP.out))))
        refine wpQuiet_nil ?_
        clear hG;rintro w8 ⟨⟨_,hs8⟩,rfl⟩;have hbl8:=hblq.trans (hs8.mono hblq.size);clear hs8 hblq y_0 y_1 y_2 n_0 n_1;go_wp2;go_ret
        exact⟨za HX.out.symm,hbw5.trans (hbl8.mono hbw5.size)⟩
       ·have e1:decide (P<D.k)=false:=decide_eq_false hp
        have HX:=Lib.hid (HS1.out (by omega));clear hp
        go_wp2_with fail
        (refine z9 (by kernel_rfl) (by kernel_rfl) (fun hG=>?_))
        repeat (go_big_quiet_step ((go_at_call 22;exact zv (kI _ _ S.D.nn S.D.nl P _ (rn.below (Grw.below _)) (rl.below (Grw.below _)) HPP.out))))
        refine wpQuiet_nil ?_
        clear hG;rintro w8 ⟨⟨_,hs8⟩,rfl⟩;have hbl8:=hblq.trans (hs8.mono hblq.size);clear hs8 hblq y_0 y_1 y_2 n_0 n_1;go_wp2;go_roundw
        case rel=>exact⟨k+1,by omega,by go_num,HX,hbl8⟩
        case measure=>simp[intOf];omega
      ·have hkk:k=S.ds.length:=by omega
       subst hkk;have HEN1:=Lib.hid (HEN.out HT.out);have HX:Hid (q8 S=true):=Lib.hid (by rw[HDEF.out,HEN1.out,HC0.out,HD0.out];rfl);go_wp2;go_ret
       exact⟨za HX.out.symm,hbr⟩
   ·have e2:¬(0:Int)<(S.ds.length:Int):=by omega
    have HD0:Hid (decide (S.ds.length=0)=true):=Lib.hid (decide_eq_true (by omega));clear hd0;have HAL:=Lib.hid (fun k (hk:k<S.ds.length) (h:P<(dpI S.ds k).k)=>yq hk h);have HSU:=Lib.hid (fun k (h:jA S.ds P k) h2=>jR (k:=k) h h2);have HEN:=Lib.hid (fun (h:jA S.ds P S.ds.length)=>jX h);clear x_0 x_1 x_2 x_3 x_4 x_5 x_6 x_7 n_0 n_1;obtain⟨x_0,x_1,x_2,x_3,x_4,x_5,x_6,x_7⟩:=hX4.c8;obtain⟨n_0,n_1⟩:=hN4.c2;go_wp2
    go_loopw [50] (fun y wr=>∃k:Nat,k≤S.ds.length∧y= .int .i64 k∧Hid (jA S.ds P k)∧Below w4.heap.size w4 wr) (fun y _=>S.ds.length -(intOf y).toNat)
    case atStart=>exact⟨0,Nat.zero_le _,rfl,Lib.hid (fun j hj=>absurd hj (by omega)),Below.refl _ _⟩
    case round=>
     obtain⟨k,hk,rfl,HT,hbl⟩:=hrel;clear x_0 x_1 x_2 x_3 x_4 x_5 x_6 x_7 n_0 n_1;have hbr:=hbw4.trans (hbl.mono hbw4.size);have hXr:=hX4.below hbl hXl4;have hNr:=hN4.below hbl hNl4;have hXlr:=hXr.lt;have hNlr:=hNr.lt;obtain⟨x_0,x_1,x_2,x_3,x_4,x_5,x_6,x_7⟩:=hXr.c8;obtain⟨n_0,n_1⟩:=hNr.c2
     by_cases hlt:k<S.ds.length
     ·exact absurd hlt (by omega)
     ·have hkk:k=S.ds.length:=by omega
      subst hkk;have HEN1:=Lib.hid (HEN.out HT.out);have HX:Hid (q8 S=true):=Lib.hid (by rw[HDEF.out,HEN1.out,HC0.out,HD0.out];rfl);go_wp2;go_ret
      exact⟨za HX.out.symm,hbr⟩
 ·have e1:¬(0:Int)<(S.cs.length:Int):=by omega
  have HC0:Hid (decide (S.cs.length=0)=true):=Lib.hid (decide_eq_true (by omega));clear hc0
  by_cases hd0:0<S.ds.length
  ·have e2:(0:Int)<(S.ds.length:Int):=by omega
   have HD0:Hid (decide (S.ds.length=0)=false):=Lib.hid (decide_eq_false (by omega))
   go_wp2_with fail
   refine(jc _ _ S.D.nn S.D.nl wB _ (HH.out.dr.nn.below hbw3) (HH.out.dr.nl.below hbw3) HWB.out).mono ?_
   rintro e w5 ⟨rfl,hb5⟩;have hbw5:=hbw3.trans (hb5.mono hbw3.size);have hX5:=hX3.below hb5 hX3.lt;have hN5:=hN3.below hb5 hN3.lt;clear hb5 hbw3 hX3 hN3 hXl3 hNl3 x_0 x_1 x_2 x_3 x_4 x_5 x_6 x_7 n_0 n_1;have hXl5:=hX5.lt;have hNl5:=hN5.lt;obtain⟨x_0,x_1,x_2,x_3,x_4,x_5,x_6,x_7⟩:=hX5.c8;obtain⟨n_0,n_1⟩:=hN5.c2;clear e2
   cases wB
   ·have HX:Hid (q8 S=false):=Lib.hid (by rw[HDEF.out,HD0.out];simp)
    go_wp2;go_ret
    exact⟨za HX.out.symm,hbw5⟩
   ·skip
    have HAL:=Lib.hid (fun k (hk:k<S.ds.length) (h:P<(dpI S.ds k).k)=>yq hk h);have HSU:=Lib.hid (fun k (h:jA S.ds P k) h2=>jR (k:=k) h h2);have HEN:=Lib.hid (fun (h:jA S.ds P S.ds.length)=>jX h);clear x_0 x_1 x_2 x_3 x_4 x_5 x_6 x_7 n_0 n_1;obtain⟨x_0,x_1,x_2,x_3,x_4,x_5,x_6,x_7⟩:=hX5.c8;obtain⟨n_0,n_1⟩:=hN5.c2;go_wp2
    go_loopw [50] (fun y wr=>∃k:Nat,k≤S.ds.length∧y= .int .i64 k∧Hid (jA S.ds P k)∧Below w5.heap.size w5 wr) (fun y _=>S.ds.length -(intOf y).toNat)
    case atStart=>exact⟨0,Nat.zero_le _,rfl,Lib.hid (fun j hj=>absurd hj (by omega)),Below.refl _ _⟩
    case round=>
     obtain⟨k,hk,rfl,HT,hbl⟩:=hrel;clear x_0 x_1 x_2 x_3 x_4 x_5 x_6 x_7 n_0 n_1;have hbr:=hbw5.trans (hbl.mono hbw5.size);have hXr:=hX5.below hbl hXl5;have hNr:=hN5.below hbl hNl5;have hXlr:=hXr.lt;have hNlr:=hNr.lt;obtain⟨x_0,x_1,x_2,x_3,x_4,x_5,x_6,x_7⟩:=hXr.c8;obtain⟨n_0,n_1⟩:=hNr.c2
     by_cases hlt:k<S.ds.length
     ·obtain⟨b,off,rfl,hd⟩:=HAT.out (by omega)
      have hd:=hd.below hbr;obtain⟨q0,q1,q2⟩:=hd.2 k hlt;have hbz:=hd.1;have hlt1:(k:Int)<(S.ds.length:Int):=by omega
      have ik1:(0:Int)≤(k:Int):=by omega
      have HA1:=Lib.hid (HAL.out k hlt);have HS1:=Lib.hid (HSU.out k HT.out);clear hd;generalize dpI S.ds k=D at*
      go_upto_region 9 with (fail)
      obtain⟨wq,hwq⟩:∃v,v=wr.alloc (.cells #[.int .i64 D.k,.int .i64 D.a,.int .i64 D.b] 48):=⟨_,rfl⟩;have hq:Blk wq wr.heap.size 48 #[.int .i64 D.k,.int .i64 D.a,.int .i64 D.b]:=hwq▸Blk.newAt rfl;have hbq:Below wr.heap.size wr wq:=hwq▸(Below.refl _ _).alloc (Nat.le_refl _) _;rw[←hwq];clear hwq;have hNq:=hNr.below hbq hNlr;have hNlq:=hNq.lt;have hbrq:=hbr.trans (hbq.mono hbr.size);have hblq:=hbl.trans (hbq.mono hbl.size);have rn:=HH.out.dr.nn.below hbrq;have rl:=HH.out.dr.nl.below hbrq;have hql:=hq.lt;clear x_0 x_1 x_2 x_3 x_4 x_5 x_6 x_7 n_0 n_1 q0 q1 q2 hXr hNr hbq hbl hbr;obtain⟨y_0,y_1,y_2⟩:=hq.c3;obtain⟨n_0,n_1⟩:=hNq.c2;generalize wr.heap.size=Bq at*
      by_cases hp:P<D.k
      ·have e1:decide (P<D.k)=true:=decide_eq_true hp
       have HX:Hid (q8 S=false):=Lib.hid (by rw[HDEF.out,HA1.out hp];simp);clear hp
       go_wp2_with fail
       (refine z9 (by kernel_rfl) (by kernel_rfl) (fun hG=>?_))
       repeat (go_big_quiet_step ((go_at_call 22;exact zv (kI _ _ S.D.nn S.D.nl P _ (rn.below (Grw.below _)) (rl.below (Grw.below _)) HPP.out))))
       refine wpQuiet_nil ?_
       clear hG;rintro w8 ⟨⟨_,hs8⟩,rfl⟩;have hbl8:=hblq.trans (hs8.mono hblq.size);clear hs8 hblq y_0 y_1 y_2 n_0 n_1;go_wp2;go_ret
       exact⟨za HX.out.symm,hbw5.trans (hbl8.mono hbw5.size)⟩
      ·have e1:decide (P<D.k)=false:=decide_eq_false hp
       have HX:=Lib.hid (HS1.out (by omega));clear hp
       go_wp2_with fail
       (refine z9 (by kernel_rfl) (by kernel_rfl) (fun hG=>?_))
       repeat (go_big_quiet_step ((go_at_call 22;exact zv (kI _ _ S.D.nn S.D.nl P _ (rn.below (Grw.below _)) (rl.below (Grw.below _)) HPP.out))))
       refine wpQuiet_nil ?_
       clear hG;rintro w8 ⟨⟨_,hs8⟩,rfl⟩;have hbl8:=hblq.trans (hs8.mono hblq.size);clear hs8 hblq y_0 y_1 y_2 n_0 n_1;go_wp2;go_roundw
       case rel=>exact⟨k+1,by omega,by go_num,HX,hbl8⟩
       case measure=>simp[intOf];omega
     ·have hkk:k=S.ds.length:=by omega
      subst hkk;have HEN1:=Lib.hid (HEN.out HT.out);have HX:Hid (q8 S=true):=Lib.hid (by rw[HDEF.out,HEN1.out,HC0.out,HD0.out];rfl);go_wp2;go_ret
      exact⟨za HX.out.symm,hbr⟩
  ·have e2:¬(0:Int)<(S.ds.length:Int):=by omega
   have HD0:Hid (decide (S.ds.length=0)=true):=Lib.hid (decide_eq_true (by omega));clear hd0;have HAL:=Lib.hid (fun k (hk:k<S.ds.length) (h:P<(dpI S.ds k).k)=>yq hk h);have HSU:=Lib.hid (fun k (h:jA S.ds P k) h2=>jR (k:=k) h h2);have HEN:=Lib.hid (fun (h:jA S.ds P S.ds.length)=>jX h);clear x_0 x_1 x_2 x_3 x_4 x_5 x_6 x_7 n_0 n_1;obtain⟨x_0,x_1,x_2,x_3,x_4,x_5,x_6,x_7⟩:=hX3.c8;obtain⟨n_0,n_1⟩:=hN3.c2;go_wp2
   go_loopw [50] (fun y wr=>∃k:Nat,k≤S.ds.length∧y= .int .i64 k∧Hid (jA S.ds P k)∧Below w3.heap.size w3 wr) (fun y _=>S.ds.length -(intOf y).toNat)
   case atStart=>exact⟨0,Nat.zero_le _,rfl,Lib.hid (fun j hj=>absurd hj (by omega)),Below.refl _ _⟩
   case round=>
    obtain⟨k,hk,rfl,HT,hbl⟩:=hrel;clear x_0 x_1 x_2 x_3 x_4 x_5 x_6 x_7 n_0 n_1;have hbr:=hbw3.trans (hbl.mono hbw3.size);have hXr:=hX3.below hbl hXl3;have hNr:=hN3.below hbl hNl3;have hXlr:=hXr.lt;have hNlr:=hNr.lt;obtain⟨x_0,x_1,x_2,x_3,x_4,x_5,x_6,x_7⟩:=hXr.c8;obtain⟨n_0,n_1⟩:=hNr.c2
    by_cases hlt:k<S.ds.length
    ·exact absurd hlt (by omega)
    ·have hkk:k=S.ds.length:=by omega
     subst hkk;have HEN1:=Lib.hid (HEN.out HT.out);have HX:Hid (q8 S=true):=Lib.hid (by rw[HDEF.out,HEN1.out,HC0.out,HD0.out];rfl);go_wp2;go_ret
     exact⟨za HX.out.symm,hbr⟩
theorem z3F (v0 v1 v2 v3 v4 v5 v6:Value) (S:St) (w:World) (h:RSt w v0 v1 v2 v3 v4 v5 v6 S):
  Calls Tryz.prog 70 #[.agg #[v0,v1,v2,v3,v4,v5,v6,.int .i64 S.fund]] w fun e w'=>e= .returned (.bool (q8 S))∧Below w.heap.size w w':=by
 obtain⟨B2,d2,ev2,_⟩:=h.dr.nn.formI;obtain⟨B3,d3,ev3,_⟩:=h.dr.nl.formI;obtain⟨B5,d5,ev5,hc5,hm5,_⟩:=h.cs.form;obtain⟨B6,d6,ev6,hc6,hm6,hat⟩:=h.ds.at_;subst ev2 ev3 ev5 ev6;unfold maxLen at hm5 hm6;have hb0:Below w.heap.size w (w.alloc (.cells #[v0,v1,.slice B2 S.D.nn.length d2,.slice B3 S.D.nl.length d3,v4,.slice B5 S.cs.length d5,.slice B6 S.ds.length d6,.int .i64 S.fund] 34)):=by exact bel_
 have hX0:Blk (w.alloc (.cells #[v0,v1,.slice B2 S.D.nn.length d2,.slice B3 S.D.nl.length d3,v4,.slice B5 S.cs.length d5,.slice B6 S.ds.length d6,.int .i64 S.fund] 34)) w.heap.size 34 #[v0,v1,.slice B2 S.D.nn.length d2,.slice B3 S.D.nl.length d3,v4,.slice B5 S.cs.length d5,.slice B6 S.ds.length d6,.int .i64 S.fund]:=Blk.newAt rfl;have HAT:=Lib.hid hat;have HH:=Lib.hid h;clear hat h;obtain⟨od,hod⟩:∃x,okD S.D=x:=⟨_,rfl⟩;obtain⟨dB,hdB⟩:∃x,qW S.ds=x:=⟨_,rfl⟩;obtain⟨fB,hfB⟩:∃x,inB S.fund 0 1000000=x:=⟨_,rfl⟩;obtain⟨pB,hpB⟩:∃x,qL S.D.nn S.D.nl S.cs=x:=⟨_,rfl⟩;obtain⟨wB,hwB⟩:∃x,zm S.D.nn S.D.nl=x:=⟨_,rfl⟩;obtain⟨P,hP⟩:∃x,yh S.D.nn S.D.nl=x:=⟨_,rfl⟩;have HDEF:Hid (q8 S=(od&&(dB&&(fB&&((decide (S.cs.length=0)||pB)&&((decide (S.ds.length=0)||wB)&&S.ds.all (fun d=>decide (d.k≤P)))))))):=Lib.hid (by unfold q8;rw[hod,hdB,hfB,hpB,hwB,hP]);have HOD:=Lib.hid hod;have HDB:=Lib.hid hdB;have HFB:=Lib.hid hfB;have HPB:=Lib.hid hpB;have HWB:=Lib.hid hwB;have HPP:=Lib.hid hP;clear hod hdB hfB hpB hwB hP
 go_enter Tryz.func70,Tryz.ntmps70
 go_wp2_with fail
 refine(z4P _ _ _ _ _ S.D od _ (HH.out.dr.below hb0) HOD).mono ?_
 rintro e w1 ⟨rfl,hb1⟩;have hbw1:=hb0.trans (hb1.mono hb0.size);have hX1:=hX0.below hb1 hX0.lt;clear hb1 hb0 hX0
 cases od
 ·have HX:Hid (q8 S=false):=Lib.hid (by rw[HDEF.out];rfl)
  go_wp2;go_ret
  exact⟨za HX.out.symm,hbw1⟩
 obtain⟨x_0,x_1,x_2,x_3,x_4,x_5,x_6,x_7⟩:=hX1.c8
 go_wp2_with fail
 refine(z4w _ S.ds dB _ (HH.out.ds.below hbw1) HDB.out).mono ?_
 rintro e w2 ⟨rfl,hb2⟩;have hbw2:=hbw1.trans (hb2.mono hbw1.size);have hX2:=hX1.below hb2 hX1.lt;clear hb2 hbw1 hX1 x_0 x_1 x_2 x_3 x_4 x_5 x_6 x_7
 cases dB
 ·have HX:Hid (q8 S=false):=Lib.hid (by rw[HDEF.out];rfl)
  go_wp2;go_ret
  exact⟨za HX.out.symm,hbw2⟩
 obtain⟨x_0,x_1,x_2,x_3,x_4,x_5,x_6,x_7⟩:=hX2.c8;have hXl2:=hX2.lt
 go_wp2_with fail
 refine(zF S.fund 0 1000000 fB _ HFB.out).mono ?_
 rintro e w' ⟨rfl,rfl⟩
 cases fB
 ·have HX:Hid (q8 S=false):=Lib.hid (by rw[HDEF.out];rfl)
  go_wp2;go_ret
  exact⟨za HX.out.symm,hbw2⟩
 go_upto_region 4 with (fail)
 obtain⟨w3,hw3⟩:∃u,u=w2.alloc (.cells #[.slice B2 S.D.nn.length d2,.slice B3 S.D.nl.length d3] 27):=⟨_,rfl⟩;have hN3:Blk w3 w2.heap.size 27 #[.slice B2 S.D.nn.length d2,.slice B3 S.D.nl.length d3]:=hw3▸Blk.newAt rfl;have hb3:Below w2.heap.size w2 w3:=hw3▸(Below.refl _ _).alloc (Nat.le_refl _) _;rw[←hw3];clear hw3;have hbw3:=hbw2.trans (hb3.mono hbw2.size);have hX3:=hX2.below hb3 hXl2;have hXl3:=hX3.lt;have hNl3:=hN3.lt;clear hb3 hbw2 hX2 x_0 x_1 x_2 x_3 x_4 x_5 x_6 x_7 hXl2;generalize w2.heap.size=Nb at*;obtain⟨x_0,x_1,x_2,x_3,x_4,x_5,x_6,x_7⟩:=hX3.c8;obtain⟨n_0,n_1⟩:=hN3.c2
 by_cases hc0:0<S.cs.length
 ·have e1:(0:Int)<(S.cs.length:Int):=by omega
  have HC0:Hid (decide (S.cs.length=0)=false):=Lib.hid (decide_eq_false (by omega))
  go_wp2_with fail
  refine(z1B _ _ _ S.D.nn S.D.nl S.cs pB _ (HH.out.dr.nn.below hbw3) (HH.out.dr.nl.below hbw3) (HH.out.cs.below hbw3) HPB.out).mono ?_
  rintro e w4 ⟨rfl,hb4⟩;have hbw4:=hbw3.trans (hb4.mono hbw3.size);have hX4:=hX3.below hb4 hX3.lt;have hN4:=hN3.below hb4 hN3.lt;clear hb4 hbw3 hX3 hN3 hXl3 hNl3 x_0 x_1 x_2 x_3 x_4 x_5 x_6 x_7 n_0 n_1;have hXl4:=hX4.lt;have hNl4:=hN4.lt;obtain⟨x_0,x_1,x_2,x_3,x_4,x_5,x_6,x_7⟩:=hX4.c8;obtain⟨n_0,n_1⟩:=hN4.c2;clear e1 hc0
  cases pB
  ·have HX:Hid (q8 S=false):=Lib.hid (by rw[HDEF.out,HC0.out];simp)
   go_wp2;go_ret
   exact⟨za HX.out.symm,hbw4⟩
  ·skip
   go_wp2_with fail
   refine(Vb _ _ S.D.nn S.D.nl P _ (HH.out.dr.nn.below hbw4) (HH.out.dr.nl.below hbw4) HPP.out).mono ?_
   rintro e w6 ⟨rfl,hb6⟩;have hbw6:=hbw4.trans (hb6.mono hbw4.size);have hX6:=hX4.below hb6 hX4.lt;have hN6:=hN4.below hb6 hN4.lt;clear hb6 hbw4 hX4 hN4 hXl4 hNl4 x_0 x_1 x_2 x_3 x_4 x_5 x_6 x_7 n_0 n_1;have hXl6:=hX6.lt;have hNl6:=hN6.lt;obtain⟨x_0,x_1,x_2,x_3,x_4,x_5,x_6,x_7⟩:=hX6.c8;obtain⟨n_0,n_1⟩:=hN6.c2;have HAL:=Lib.hid (fun k (hk:k<S.ds.length) (h:P<(dpI S.ds k).k)=>yq hk h);have HSU:=Lib.hid (fun k (h:jA S.ds P k) h2=>jR (k:=k) h h2);have HEN:=Lib.hid (fun (h:jA S.ds P S.ds.length)=>jX h);clear x_0 x_1 x_2 x_3 x_4 x_5 x_6 x_7 n_0 n_1;obtain⟨x_0,x_1,x_2,x_3,x_4,x_5,x_6,x_7⟩:=hX6.c8;obtain⟨n_0,n_1⟩:=hN6.c2;go_wp2
   go_loopw [5] (fun y wr=>∃k:Nat,k≤S.ds.length∧y= .int .i64 k∧Hid (jA S.ds P k)∧Below w6.heap.size w6 wr) (fun y _=>S.ds.length -(intOf y).toNat)
   case atStart=>exact⟨0,Nat.zero_le _,rfl,Lib.hid (fun j hj=>absurd hj (by omega)),Below.refl _ _⟩
   case round=>
    obtain⟨k,hk,rfl,HT,hbl⟩:=hrel;clear x_0 x_1 x_2 x_3 x_4 x_5 x_6 x_7 n_0 n_1;have hbr:=hbw6.trans (hbl.mono hbw6.size);have hXr:=hX6.below hbl hXl6;have hNr:=hN6.below hbl hNl6;have hXlr:=hXr.lt;have hNlr:=hNr.lt;obtain⟨x_0,x_1,x_2,x_3,x_4,x_5,x_6,x_7⟩:=hXr.c8;obtain⟨n_0,n_1⟩:=hNr.c2
    by_cases hlt:k<S.ds.length
    ·obtain⟨b,off,rfl,hd⟩:=HAT.out (by omega)
     have hd:=hd.below hbr;obtain⟨q0,q1,q2⟩:=hd.2 k hlt;have hbz:=hd.1;have hlt1:(k:Int)<(S.ds.length:Int):=by omega
     have ik1:(0:Int)≤(k:Int):=by omega
     have HA1:=Lib.hid (HAL.out k hlt);have HS1:=Lib.hid (HSU.out k HT.out);clear hd;generalize dpI S.ds k=D at*
     by_cases hp:P<D.k
     ·have e1:decide (P<D.k)=true:=decide_eq_true hp
      have HX:Hid (q8 S=false):=Lib.hid (by rw[HDEF.out,HA1.out hp];simp);clear hp;go_wp2;go_ret
      exact⟨za HX.out.symm,hbr⟩
     ·have e1:decide (P<D.k)=false:=decide_eq_false hp
      have HX:=Lib.hid (HS1.out (by omega));clear hp;go_wp2;go_roundw
      case rel=>exact⟨k+1,by omega,by go_num,HX,hbl⟩
      case measure=>simp[intOf];omega
    ·have hkk:k=S.ds.length:=by omega
     subst hkk;have HEN1:=Lib.hid (HEN.out HT.out)
     by_cases hd0:S.ds.length=0
     ·have HX:Hid (q8 S=true):=Lib.hid (by rw[HDEF.out,HEN1.out,HC0.out,decide_eq_true hd0];rfl)
      have e1:((S.ds.length:Int)==0)=true:=beq_iff_eq.2 (by omega);go_wp2;go_ret
      exact⟨za HX.out.symm,hbr⟩
     ·have HX:Hid (q8 S=wB):=Lib.hid (by rw[HDEF.out,HEN1.out,HC0.out,decide_eq_false hd0];cases wB<;>rfl)
      have e1:((S.ds.length:Int)==0)=false:=beq_eq_false_iff_ne.2 (by omega)
      go_wp2_with fail
      refine(ju _ _ S.D.nn S.D.nl wB _ (HH.out.dr.nn.below hbr) (HH.out.dr.nl.below hbr) HWB.out).mono ?_
      rintro e w9 ⟨rfl,hb9⟩;have hbr9:=hbr.trans (hb9.mono hbr.size);clear e1;go_wp2;go_ret
      exact⟨za HX.out.symm,hbr9⟩
 ·have e1:¬(0:Int)<(S.cs.length:Int):=by omega
  have HC0:Hid (decide (S.cs.length=0)=true):=Lib.hid (decide_eq_true (by omega));clear hc0
  go_wp2_with fail
  refine(Vb _ _ S.D.nn S.D.nl P _ (HH.out.dr.nn.below hbw3) (HH.out.dr.nl.below hbw3) HPP.out).mono ?_
  rintro e w6 ⟨rfl,hb6⟩;have hbw6:=hbw3.trans (hb6.mono hbw3.size);have hX6:=hX3.below hb6 hX3.lt;have hN6:=hN3.below hb6 hN3.lt;clear hb6 hbw3 hX3 hN3 hXl3 hNl3 x_0 x_1 x_2 x_3 x_4 x_5 x_6 x_7 n_0 n_1;have hXl6:=hX6.lt;have hNl6:=hN6.lt;obtain⟨x_0,x_1,x_2,x_3,x_4,x_5,x_6,x_7⟩:=hX6.c8;obtain⟨n_0,n_1⟩:=hN6.c2;have HAL:=Lib.hid (fun k (hk:k<S.ds.length) (h:P<(dpI S.ds k).k)=>yq hk h);have HSU:=Lib.hid (fun k (h:jA S.ds P k) h2=>jR (k:=k) h h2);have HEN:=Lib.hid (fun (h:jA S.ds P S.ds.length)=>jX h);clear x_0 x_1 x_2 x_3 x_4 x_5 x_6 x_7 n_0 n_1;obtain⟨x_0,x_1,x_2,x_3,x_4,x_5,x_6,x_7⟩:=hX6.c8;obtain⟨n_0,n_1⟩:=hN6.c2;go_wp2
  go_loopw [5] (fun y wr=>∃k:Nat,k≤S.ds.length∧y= .int .i64 k∧Hid (jA S.ds P k)∧Below w6.heap.size w6 wr) (fun y _=>S.ds.length -(intOf y).toNat)
  case atStart=>exact⟨0,Nat.zero_le _,rfl,Lib.hid (fun j hj=>absurd hj (by omega)),Below.refl _ _⟩
  case round=>
   obtain⟨k,hk,rfl,HT,hbl⟩:=hrel;clear x_0 x_1 x_2 x_3 x_4 x_5 x_6 x_7 n_0 n_1;have hbr:=hbw6.trans (hbl.mono hbw6.size);have hXr:=hX6.below hbl hXl6;have hNr:=hN6.below hbl hNl6;have hXlr:=hXr.lt;have hNlr:=hNr.lt;obtain⟨x_0,x_1,x_2,x_3,x_4,x_5,x_6,x_7⟩:=hXr.c8;obtain⟨n_0,n_1⟩:=hNr.c2
   by_cases hlt:k<S.ds.length
   ·obtain⟨b,off,rfl,hd⟩:=HAT.out (by omega)
    have hd:=hd.below hbr;obtain⟨q0,q1,q2⟩:=hd.2 k hlt;have hbz:=hd.1;have hlt1:(k:Int)<(S.ds.length:Int):=by omega
    have ik1:(0:Int)≤(k:Int):=by omega
    have HA1:=Lib.hid (HAL.out k hlt);have HS1:=Lib.hid (HSU.out k HT.out);clear hd;generalize dpI S.ds k=D at*
    by_cases hp:P<D.k
    ·have e1:decide (P<D.k)=true:=decide_eq_true hp
     have HX:Hid (q8 S=false):=Lib.hid (by rw[HDEF.out,HA1.out hp];simp);clear hp;go_wp2;go_ret
     exact⟨za HX.out.symm,hbr⟩
    ·have e1:decide (P<D.k)=false:=decide_eq_false hp
     have HX:=Lib.hid (HS1.out (by omega));clear hp;go_wp2;go_roundw
     case rel=>exact⟨k+1,by omega,by go_num,HX,hbl⟩
     case measure=>simp[intOf];omega
   ·have hkk:k=S.ds.length:=by omega
    subst hkk;have HEN1:=Lib.hid (HEN.out HT.out)
    by_cases hd0:S.ds.length=0
    ·have HX:Hid (q8 S=true):=Lib.hid (by rw[HDEF.out,HEN1.out,HC0.out,decide_eq_true hd0];rfl)
     have e1:((S.ds.length:Int)==0)=true:=beq_iff_eq.2 (by omega);go_wp2;go_ret
     exact⟨za HX.out.symm,hbr⟩
    ·have HX:Hid (q8 S=wB):=Lib.hid (by rw[HDEF.out,HEN1.out,HC0.out,decide_eq_false hd0];cases wB<;>rfl)
     have e1:((S.ds.length:Int)==0)=false:=beq_eq_false_iff_ne.2 (by omega)
     go_wp2_with fail
     refine(ju _ _ S.D.nn S.D.nl wB _ (HH.out.dr.nn.below hbr) (HH.out.dr.nl.below hbr) HWB.out).mono ?_
     rintro e w9 ⟨rfl,hb9⟩;have hbr9:=hbr.trans (hb9.mono hbr.size);clear e1;go_wp2;go_ret
     exact⟨za HX.out.symm,hbr9⟩
theorem Vx (v0 v1 v2 v3 v4 v5 v6:Value) (S:St) (r:Bool) (w:World) (h:RSt w v0 v1 v2 v3 v4 v5 v6 S) (hx:Hid (q8 S=r)):
  Calls Tryz.prog 70 #[.agg #[v0,v1,v2,v3,v4,v5,v6,.int .i64 S.fund]] w fun e w'=>e= .returned (.bool r)∧Below w.heap.size w w':=by
 rw[←hx.out];exact z3F v0 v1 v2 v3 v4 v5 v6 S w h
theorem VZ (v0 v1 v2 v3 v4 v5 v6:Value) (S:St) (r:Bool) (w:World) (h:RSt w v0 v1 v2 v3 v4 v5 v6 S) (hx:Hid (q8 S=r)):
  Calls Tryz.prog 17 #[.agg #[v0,v1,v2,v3,v4,v5,v6,.int .i64 S.fund]] w fun e w'=>e= .returned (.bool r)∧Below w.heap.size w w':=by
 rw[←hx.out];exact z3L v0 v1 v2 v3 v4 v5 v6 S w h
def z42 (l:List Dp) (b:Bool) (w:World) (e:Ending) (w':World):Prop:=∃v,e= .returned (.tuple #[v,.bool b])∧zH w.heap.size w' v l∧Below w.heap.size w w'
section
variable {w wr wr':World} {v0 v1 v2 v3 v4 v5 v6 a b c d e f g:Value} {m:Int} {Z:Nat} {S:St} {fs:List SF}
theorem OutSS.newDs (h:OutSS w v0 v1 v2 v3 v4 v5 v6 m Z a b c d e f g S fs wr) (hb:Below wr.heap.size wr wr') {v:Value} {l:List Dp} (ho:zH wr.heap.size wr' v l):
  OutSS w v0 v1 v2 v3 v4 v5 v6 m Z a b c d e f v ⟨S.D,S.cs,l,S.fund⟩ fs (wr'.setCell ⟨Z,6,none⟩ v):=by
 have h1:=h.below hb;have hlo:∀k,v.ownBlock=some k→wr.heap.size≤k:=fun k hk=>(World.ownsRow.lt ho k hk).1
 have hup:∀k,jy a b c d e f g fs k→k<wr.heap.size:=fun k hk=>(h.own.lt k hk).2
 have hZl:=h.Z_.lt
 have hfar:¬jy a b c d e f v fs Z:=by
  rintro(hk|hk|hk)
  ·exact h.far (.inl hk)
  ·exact h.far (.inr (.inl hk))
  ·have:=hlo _ hk;omega
 have hO:OwnSt (w.heap.size+1+1) wr' a b c d e f v ⟨S.D,S.cs,l,S.fund⟩ fs:=
  ⟨h1.own.dr,h1.own.cs,World.ownsRow.mono ho (by have:=h.lt;omega),h1.own.d_c,fun k hk hk2=>by have:=hlo k hk2;have:=hup k (.inl hk);omega,fun k hk hk2=>by have:=hlo k hk2;have:=hup k (.inr (.inl hk));omega⟩
 have hlt:=h.lt;exact⟨hO.setFar (p:=⟨Z,6,none⟩) hfar v,h1.X.far (p:=⟨Z,6,none⟩) (show w.heap.size≠Z by omega) v,h1.R.far (p:=⟨Z,6,none⟩) (show w.heap.size+1≠Z by omega) v,h1.Z_.set_ 6 v,h1.lt,hfar,h1.blw.setCell (p:=⟨Z,6,none⟩) (show w.heap.size≤Z by omega) v⟩
end
end Go.Proofs.YtnjcpljhmhdhkaaGreat
