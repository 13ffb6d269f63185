/- part 25 -/
import Derived.Test.YtnjcpljhmhdhkaaGreatTPk23
import Derived.Test.YtnjcpljhmhdhkaaGreatTPk24
import Derived.Deep.RegionHeld3
set_option linter.unusedSimpArgs false
set_option linter.unusedVariables false
set_option maxRecDepth 100000
set_option maxHeartbeats 16000000
namespace Go.Proofs.YtnjcpljhmhdhkaaGreat
open Go.RowKit
def y9 (S:St):Nat:=cntD S.D+S.cs.length+3*S.ds.length
def xe (x:Int) (S:St):St:=⟨JV x S.D,runI (x+cntD S.D) S.cs.length,yJ (x+cntD S.D+S.cs.length) S.ds.length,S.fund⟩
def z1c (x:Int) (D:Dr) (fs:List SF):List SF:=yF (x+2*D.fn.length+2*D.fl.length+2*D.nn.length+2*D.nl.length) fs
theorem StLe.cnt {S:St} (h:StLe S):y9 S≤30000000:=by
 have:=h.D.cnt;have:=h.cs;have:=h.ds;unfold y9;omega
theorem vK {a b c d e:Value} {D:Dr} {fs:List SF} {x:Int} (k:Nat) (h:qw a b c d e (z1c x D fs) k):qw a b c d e fs k:=by
 rcases h with h|h|h
 ·exact .inl h
 ·exact .inr (.inl h)
 ·exact .inr (.inr (xu k h))
theorem vZ (base:Nat) (va vb vc vd ve vf vg:Value) (S:St) (fs:List SF) (x:Int) (w:World) (h:OwnSt base w va vb vc vd ve vf vg S fs) (hx:0≤x) (hm:x+y9 S≤1000000000000):
  Calls Tryz.prog 31 #[.agg #[va,vb,vc,vd,ve,vf,vg,.int .i64 S.fund],.int .i64 x] w fun e w'=>e= .returned (.int .i64 (x+y9 S))∧
   OwnSt base w' va vb vc vd ve vf vg (xe x S) (z1c x S.D fs)∧Turns (jy va vb vc vd ve vf vg fs) w w':=by
 have HLT:=Lib.hid h.lt;have HDC:=Lib.hid h.d_c;have HDD:=Lib.hid h.d_d;have HCD:=Lib.hid h.c_d;have hD:(y9 S:Int)=cntD S.D+S.cs.length+3*S.ds.length:=by unfold y9;omega
 obtain⟨m,hmm⟩:∃m,cntD S.D=m:=⟨_,rfl⟩;have HM:=Lib.hid hmm;rw[hmm] at hD;have hE:x+(y9 S:Int)=x+m+S.cs.length+3*S.ds.length:=by omega
 rw[hE];have hm':x+m+S.cs.length+3*S.ds.length≤1000000000000:=by omega
 have hmark:xe x S=⟨JV x S.D,runI (x+m) S.cs.length,yJ (x+m+S.cs.length) S.ds.length,S.fund⟩:=by unfold xe;rw[hmm]
 have HMK:=Lib.hid hmark;have HO:=Lib.hid (h.alloc (.cells #[va,vb,vc,vd,ve,vf,vg,.int .i64 S.fund] 34));clear h hm hD hE hmm hmark
 go_enter Tryz.func31,Tryz.ntmps31
 go_wp2_with fail
 obtain⟨w0,hw0⟩:∃w0,w0=w.alloc (.cells #[va,vb,vc,vd,ve,vf,vg,.int .i64 S.fund] 34):=⟨_,rfl⟩;have hX0:Blk w0 w.heap.size 34 #[va,vb,vc,vd,ve,vf,vg,.int .i64 S.fund]:=hw0▸Blk.newAt rfl;have hT0:Turns (jy va vb vc vd ve vf vg fs) w w0:=hw0▸Turns.ofBelow ((Below.refl _ _).alloc (Nat.le_refl _) _);rw[←hw0] at HO⊢;clear hw0;have hnX:¬jy va vb vc vd ve vf vg fs w.heap.size:=fun hk=>by have:=(HLT.out _ hk).2;omega
 have h0:=HO.out;clear HO;have hm1:x+(cntD S.D:Int)≤1000000000000:=by rw[HM.out];omega
 refine(Jy base _ _ _ _ _ S.D fs x _ h0.dr hx hm1).mono ?_
 rintro e w1 ⟨rfl,ho1,ht1⟩;rw[HM.out];clear hm1;have hX1:=hX0.turned ht1 (fun hk=>hnX (.inl hk));have hC1:OwnI base w1 vf S.cs:=qF h0.cs ht1 (fun k hk hk'=>HDC.out k hk' hk);have hS1:zH base w1 vg S.ds:=qF h0.ds ht1 (fun k hk hk'=>HDD.out k hk' hk);have hT1:=hT0.trans (ht1.mono (S':=jy va vb vc vd ve vf vg fs) (fun k hk=> .inl hk));clear ht1 h0 hX0 hT0;obtain⟨y_0,y_1,y_2,y_3,y_4,y_5,y_6,y_7⟩:=hX1.c8
 go_wp2_with fail
 refine(Xf base _ S.cs (x+m) _ hC1 (by omega) (by omega)).mono ?_
 rintro e w2 ⟨rfl,ho2,hg2⟩;have ht2:Turns (fun k=>vf.ownBlock=some k) w1 w2:=Turns.ofGrown hg2 (fun k hk=>hk);have hX2:=hX1.turned ht2 (fun hk=>hnX (.inr (.inl hk)));have hF2:=ho1.turned ht2 (fun k hk hk'=>HDC.out k (vK k hk) hk');have hS2:zH base w2 vg S.ds:=qF hS1 ht2 (fun k hk hk'=>HCD.out k hk' hk);have hT2:=hT1.trans (ht2.mono (S':=jy va vb vc vd ve vf vg fs) (fun k hk=> .inr (.inl hk)));clear ht2 hg2 hX1 hC1 hS1 hT1 ho1 y_0 y_1 y_2 y_3 y_4 y_5 y_6 y_7;obtain⟨y_0,y_1,y_2,y_3,y_4,y_5,y_6,y_7⟩:=hX2.c8
 go_wp2_with fail
 refine(Qo base _ S.ds (x+m+S.cs.length) _ hS2 (by omega) (by omega)).mono ?_
 rintro e w3 ⟨rfl,ho3,hg3⟩;have ht3:Turns (fun k=>vg.ownBlock=some k) w2 w3:=Turns.ofGrown hg3 (fun k hk=>hk);have hF3:=hF2.turned ht3 (fun k hk hk'=>HDD.out k (vK k hk) hk');have hC3:OwnI base w3 vf (runI (x+m) S.cs.length):=qF ho2 ht3 (fun k hk hk'=>HCD.out k hk hk');have hT3:=hT2.trans (ht3.mono (S':=jy va vb vc vd ve vf vg fs) (fun k hk=> .inr (.inr hk)));have HF:Hid (OwnSt base w3 va vb vc vd ve vf vg (xe x S) (z1c x S.D fs)):=Lib.hid (by rw[HMK.out];exact⟨hF3,hC3,ho3,fun k hk hk'=>HDC.out k (vK k hk) hk',fun k hk hk'=>HDD.out k (vK k hk) hk',HCD.out⟩);have HT:=Lib.hid hT3;clear ht3 hg3 hX2 hF2 hS2 hT2 hT3 ho2 ho3 hF3 hC3 y_0 y_1 y_2 y_3 y_4 y_5 y_6 y_7;go_wp2;go_ret
 exact⟨rfl,HF.out,HT.out⟩
theorem kZ (va vb vc vd ve vf vg:Value) (S:St) (x:Int) (w:World) (h:RSt w va vb vc vd ve vf vg (xe x S)) (hx:0≤x) (hm:x+y9 S≤1000000000000):
  Calls Tryz.prog 32 #[.agg #[va,vb,vc,vd,ve,vf,vg,.int .i64 S.fund],.int .i64 x] w fun e w'=>e= .returned (.int .i64 (x+y9 S))∧Below w.heap.size w w':=by
 have hD:(y9 S:Int)=cntD S.D+S.cs.length+3*S.ds.length:=by unfold y9;omega
 obtain⟨m,hmm⟩:∃m,cntD S.D=m:=⟨_,rfl⟩;have HM:=Lib.hid hmm;rw[hmm] at hD;have hE:x+(y9 S:Int)=x+m+S.cs.length+3*S.ds.length:=by omega
 rw[hE];have hm':x+m+S.cs.length+3*S.ds.length≤1000000000000:=by omega
 have hmark:xe x S=⟨JV x S.D,runI (x+m) S.cs.length,yJ (x+m+S.cs.length) S.ds.length,S.fund⟩:=by unfold xe;rw[hmm]
 rw[hmark] at h;have c1:¬x+(m:Int)<0:=by omega
 have c2:¬x+(m:Int)+S.cs.length<0:=by omega
 have c3:¬x+(m:Int)+S.cs.length+3*S.ds.length<0:=by omega
 have h1:=h.dr;have h2:=h.cs;have h3:=h.ds;clear hm hD hE hmm hmark h
 go_enter Tryz.func32,Tryz.ntmps32
 go_wp2_with fail
 have hm1:x+(cntD S.D:Int)≤1000000000000:=by rw[HM.out];omega
 refine(VX _ _ _ _ _ S.D x _ (h1.below (by exact bel_)) hx hm1).mono ?_
 rintro e w1 ⟨rfl,hb1⟩;rw[HM.out];have hz1:=hb1.size;simp at hz1
 have hbw1:Below w.heap.size w w1:=by exact bel_
 have hX1:Blk w1 w.heap.size 34 #[va,vb,vc,vd,ve,vf,vg,.int .i64 S.fund]:=Blk.below (Blk.newAt rfl) hb1 sz_;clear hb1 hm1;obtain⟨y_0,y_1,y_2,y_3,y_4,y_5,y_6,y_7⟩:=hX1.c8
 go_wp2_with fail
 refine(z54 _ S.cs.length (x+m) _ (h2.below hbw1) (by omega) (by omega)).mono ?_
 rintro e w' ⟨rfl,rfl⟩
 go_wp2_with fail
 refine(Z0 _ S.ds.length (x+m+S.cs.length) _ (h3.below hbw1) (by omega) (by omega)).mono ?_
 rintro e w' ⟨rfl,rfl⟩;go_wp2;go_ret
 exact⟨rfl,hbw1⟩
theorem z0t (v0 v1 v2 v3 v4 v5 v6:Value) (S:St) (w:World) (h:RSt w v0 v1 v2 v3 v4 v5 v6 S) (hle:StLe S):
  Calls Tryz.prog 68 #[.agg #[v0,v1,v2,v3,v4,v5,v6,.int .i64 S.fund]] w (z1T S w):=by
 have HLE:=Lib.hid hle;obtain⟨w0,hw0⟩:∃u,u=(w.alloc (.cells #[v0,v1,v2,v3,v4,v5,v6,.int .i64 S.fund] 34)).alloc (.cells #[.slice none 0 0,.slice none 0 0,.slice none 0 0,.slice none 0 0,.slice none 0 0,.slice none 0 0,.slice none 0 0,.int .i64 0] 34):=⟨_,rfl⟩;have hX0:Blk w0 w.heap.size 34 #[v0,v1,v2,v3,v4,v5,v6,.int .i64 S.fund]:=hw0▸(Blk.newAt rfl).alloc _;have hR0:Blk w0 (w.heap.size+1) 34 #[.slice none 0 0,.slice none 0 0,.slice none 0 0,.slice none 0 0,.slice none 0 0,.slice none 0 0,.slice none 0 0,.int .i64 0]:=hw0▸Blk.newAt (by simp);have hb0:Below w.heap.size w w0:=hw0▸((Below.refl _ _).alloc (Nat.le_refl _) _).alloc (by simp) _;have hs0:w0.heap.size=w.heap.size+1+1:=by rw[hw0];simp
 have HW0:=Lib.hid hw0;have hd:=Lib.hid (h.below hb0);clear hle h hw0
 go_enter Tryz.func68,Tryz.ntmps68
 go_upto_region 1 with (fail)
 rw[←HW0.out];clear HW0;obtain⟨x_0,x_1,x_2,x_3,x_4,x_5,x_6,x_7,x_f0,x_f1,x_f2,x_f3,x_f4,x_f5,x_f6,x_f7⟩:=hX0.b8;obtain⟨r_0,r_1,r_2,r_3,r_4,r_5,r_6,r_7,r_f0,r_f1,r_f2,r_f3,r_f4,r_f5,r_f6,r_f7⟩:=hR0.b8;have q0:w.heap.size<w0.heap.size:=by omega
 have q1:w.heap.size+1<w0.heap.size:=by omega
 have HS0:=Lib.hid hs0;have HR0:=Lib.hid hR0;clear hs0 hX0 hR0
 go_region_held3 (fun w'=>w'.cell? ⟨w.heap.size,0,none⟩=some (v0)∧w'.cell? ⟨w.heap.size,1,none⟩=some (v1)∧w'.cell? ⟨w.heap.size,2,none⟩=some (v2)∧w'.cell? ⟨w.heap.size,3,none⟩=some (v3)∧w'.cell? ⟨w.heap.size,4,none⟩=some (v4)∧w'.cell? ⟨w.heap.size,5,none⟩=some (v5)∧w'.cell? ⟨w.heap.size,6,none⟩=some (v6)∧w'.cell? ⟨w.heap.size,7,none⟩=some (.int .i64 S.fund))
  (go_keep)
  (first|(go_at_call 80;refine Calls.mono (z1j _ _ _ _ _ S.D _ (hd.out.dr.below ?a1) HLE.out.D) ?_;(case a1=>exact bel_);rintro e w1 ⟨A0,ac0,A1,ac1,A2,ac2,A3,ac3,A4,ac4,fs,rfl,ho1,hb1⟩;(first|(with_reducible have hcf1:=z8 hb1)|have hcf1:=bcell hb1);obtain⟨hc1,hf1⟩:=hcf1;have hz1:=hb1.size;(try simp at hz1);(try have hp1_0:=p0_ w w1);(try have hp1_1:=p1_ w w1);(try have hp1_2:=p2_ w w1);(try have hp1_3:=p3_ w w1))|(go_at_call 133;refine Calls.mono (Ju _ S.cs _ (hd.out.cs.below ?a2) HLE.out.cs) ?_;(case a2=>exact bel_);rintro e w2 ⟨z5,rfl,ho2,hb2⟩;(obtain⟨A5,ac5,rfl,_⟩:=ho2.reads.form);(first|(with_reducible have hcf2:=z8 hb2)|have hcf2:=bcell hb2);obtain⟨hc2,hf2⟩:=hcf2;have hz2:=hb2.size;(try simp at hz2);(try have hp2_0:=p0_ w w2);(try have hp2_1:=p1_ w w2);(try have hp2_2:=p2_ w w2);(try have hp2_3:=p3_ w w2))|(go_at_call 134;refine Calls.mono (jZ _ S.ds _ (hd.out.ds.below ?a3) HLE.out.ds) ?_;(case a3=>exact bel_);rintro e w3 ⟨z6,rfl,ho3,hb3⟩;(obtain⟨A6,ac6,rfl⟩:=zH.form ho3);(first|(with_reducible have hcf3:=z8 hb3)|have hcf3:=bcell hb3);obtain⟨hc3,hf3⟩:=hcf3;have hz3:=hb3.size;(try simp at hz3);(try have hp3_0:=p0_ w w3);(try have hp3_1:=p1_ w w3);(try have hp3_2:=p2_ w w3);(try have hp3_3:=p3_ w w3)))
 have hs0:=HS0.out;have k13:Below w1.heap.size w1 w3:=by exact bel_
 have k23:Below w2.heap.size w2 w3:=by exact bel_
 have k03:Below w0.heap.size w0 w3:=by exact bel_
 have HST:Hid (OwnSt (w.heap.size+1+1) w3 (.slice A0 S.D.fn.length ac0) (.slice A1 S.D.fl.length ac1) (.slice A2 S.D.nn.length ac2) (.slice A3 S.D.nl.length ac3) (.slice A4 S.D.ss.length ac4) (.slice A5 S.cs.length ac5) (.slice A6 S.ds.length ac6) S fs):=Lib.hid (by
  have hlt1:=ho1.lt;have hlt2:=World.ownsRow.lt ho2;have hlt3:=World.ownsRow.lt ho3
  try simp at hlt1
  try simp at hlt2
  try simp at hlt3
  refine⟨(ho1.kept k13).mono ?_,(OwnI.kept ho2 k23).mono ?_,ho3.mono ?_,fun k h1 h2=>?_,fun k h1 h2=>?_,fun k h1 h2=>?_⟩
  ·exact sz_
  ·exact sz_
  ·exact sz_
  ·have:=hlt1 k h1;have:=hlt2 k h2;omega
  ·have:=hlt1 k h1;have:=hlt3 k h2;omega
  ·have:=hlt2 k h1;have:=hlt3 k h2;omega)
 have HBW:=Lib.hid (hb0.trans (k03.mono hb0.size));have n1:w.heap.size+1<w3.heap.size:=by have:=k03.size;omega
 have hR3:=HR0.out.below k03 q1;obtain⟨t_0,t_1,t_2,t_3,t_4,t_5,t_6,t_7⟩:=hR3.c8;clear hb0 hb1 hb2 hb3 ho1 ho2 ho3 k13 k23 k03;go_wp2;refine bodyPost_ret (v:= .agg #[.slice A0 S.D.fn.length ac0,.slice A1 S.D.fl.length ac1,.slice A2 S.D.nn.length ac2,.slice A3 S.D.nl.length ac3,.slice A4 S.D.ss.length ac4,.slice A5 S.cs.length ac5,.slice A6 S.ds.length ac6,.int .i64 S.fund]) (by simp[results,Tryz.results68,go_sem,n1,t_0,t_1,t_2,t_3,t_4,t_5,t_6,t_7]) rfl ?_
 refine⟨A0,ac0,A1,ac1,A2,ac2,A3,ac3,A4,ac4,A5,ac5,A6,ac6,fs,rfl,?_,?_⟩
 ·refine OwnSt.mono (base:=w.heap.size+1+1) ?_ (by omega)
  repeat (first|(with_reducible exact HST.out)|(with_reducible refine OwnSt.setLow ?_ ?_ _))
  all_goals exact sz_
 ·have hbw3:=HBW.out
  exact bel_
theorem J7 {P:Program} {w:World} {t ty e:TypeId} {i:TypeInfo} {base g:Nat} {z:Value} {sz by_:Nat} (ht:P.underlying t=some (.slice e)) (hi:P.info? e=some i) (hz:i.zero=some z) (hsize:i.size=sz) (hby:i.bytes=by_) (hzs:z.cells.size=sz) (hsz:0<sz)
  {u:Value} {m:Nat} {l:List Value} (hown:w.ownsRow base e sz (.slice (some ⟨g,0,none⟩) 0 0) 0 []) (hr:RS w sz u m l) (hone:∀x∈l,x.oneCell'=true) (hlen:m≤1048576) (hbb:by_≤100) (hbase:base≤w.heap.size):
  ∃A c w',(Builtin.append_ #[t,t] ty #[.slice (some ⟨g,0,none⟩) 0 0,u]).run P w= .ok (.slice A m c) w'∧w'.ownsRow base e sz (.slice A m c) m l∧Below w.heap.size w w'∧
   (∀k,(Value.slice A m c).ownBlock =some k→k=g∨k=w.heap.size):=by
 obtain⟨A,c,w',hrun,ho,hg,ha⟩:=vi (ty:=ty) ht hi hz hsize hby hzs hsz hown hr hone (by omega) hbb hbase;simp only[Nat.zero_add,List.nil_append] at hrun ho ha
 refine⟨A,c,w',hrun,ho,?_,?_⟩
 ·have key:w'.heap[g]? =w.heap[g]? :=by
   rcases hown.2 with ⟨h,_⟩|⟨g',cap,cur,h,_,hgg,_,_,hcs,_⟩
   ·cases h
   ·cases h
    subst hsize;have hcur:cur= #[]:=Array.eq_empty_of_size_eq_zero (by simpa using hcs);subst hcur;obtain⟨hll,A0,c0,rfl,hc,hm,hcell⟩:=hr
    cases A0 with
    |none=>
     have hr2:=yg (P:=P) (w:=w) (ty:=ty) ht hi (some ⟨g,0,none⟩) 0 0 c0 (Nat.le_refl _)
     have hm0:m=0:=by
      rcases Nat.eq_zero_or_pos m with h|h
      ·exact h
      ·obtain⟨b,off,h1,_⟩:=hcell h
       cases h1
     subst hm0;have:=hrun.symm.trans hr2
     cases this
     rfl
    |some a=>
     have hn:∀(j:Nat) (x:Value),l[j]? =some x→w.cell? (a.add j)=some x:=by
      intro j x hx;have hj:=(List.getElem?_eq_some_iff.1 hx).1
      have hm1:0<m:=by
       rcases Nat.eq_zero_or_pos m with h|h
       ·subst h;omega
       ·exact h
      obtain⟨b,off,e5,_,e6⟩:=hcell hm1
      cases e5
      rw[ku];exact e6 j x hx
     by_cases hm0:m=0
     ·subst hm0
      have hl0:l=[]:=List.eq_nil_of_length_eq_zero (by simpa using hll);subst hl0;have hr2:=run_append_room (P:=P) w t ty e i ht hi g 0 0 #[] hgg a 0 c0 [] (by simp) (by simp) (by simp) (by omega) (by simp);have:=hrun.symm.trans hr2
      cases this
      rw[setRow_heap w g #[] _ e _ hgg,hgg];simp
     ·have hbm:m*i.bytes≤1048576*100:=Nat.mul_le_mul hlen (by omega)
      have hr2:=run_append_grow (P:=P) w t ty e i z ht hi hz ⟨g,0,none⟩ 0 0 [] (by simp) (by simp) a m c0 l hll hn (by omega) (by omega) (growslice_fits (by omega) (by simp only[Nat.zero_add];omega));simp only[Nat.zero_add] at hr2
      have:=hrun.symm.trans hr2
      cases this
      exact heap_alloc_old w.drew _ (Array.getElem?_eq_some_iff.1 hgg).1
  have hg':w.grownBy w' (Value.slice none 0 0).ownBlock :=⟨hg.os,hg.tape,hg.output,hg.size,fun k hk _=>by
   by_cases hkg:k=g
   ·subst hkg;exact key
   ·exact hg.block k hk (by simpa[Value.ownBlock] using hkg)⟩
  exact vw hg'
 ·intro k hk
  rcases ha with h|h
  ·rw[h] at hk
   simp[Value.ownBlock] at hk
   exact .inl hk.symm
  ·rw[h] at hk
   cases hk
   exact .inr rfl
theorem zU {P:Program} {w:World} {ops:Array Oper} {o:Oper} {a:Act} {K:Act→World→Prop} {Q:Exit→Act→World→Prop} {E:Prop} (hgd:o.guard=none) (s x:Operand) (t:TypeId)
  (ho:o.op= .call { callee:= .builtin .append,args:= #[s,x],argTypes:= #[t,t] })
  (base g:Nat) (e:TypeId) (i:TypeInfo) (z:Value) (sz by_:Nat) (ht:P.underlying t=some (.slice e)) (hi:P.info? e=some i) (hz:i.zero=some z) (hsize:i.size=sz) (hby:i.bytes=by_) (hzs:z.cells.size=sz) (hsz:0<sz)
  (u:Value) (m:Nat) (l:List Value) (hs:a.eval s= .slice (some ⟨g,0,none⟩) 0 0) (hx:a.eval x=u) (hown:w.ownsRow base e sz (.slice (some ⟨g,0,none⟩) 0 0) 0 []) (hr:RS w sz u m l) (hone:∀x∈l,x.oneCell'=true) (hlen:m≤1048576) (hbb:by_≤100) (hbase:base≤w.heap.size)
  (h:∀A c w',w'.ownsRow base e sz (.slice A m c) m l→Below w.heap.size w w'→(∀k,(Value.slice A m c).ownBlock =some k→k=g∨k=w.heap.size)→K (a.put o.dst (.slice A m c)) w'):
  if Region.wanted o (yielded ops a.tmps)=true then Oper.wp P o a w K Q else E:=by
 have hw:Region.wanted o (yielded ops a.tmps)=true:=by simp[Region.wanted,hgd]
 rw[if_pos hw];obtain⟨A,c,w',hrun,h2,h3,h4⟩:=J7 (ty:=o.type) ht hi hz hsize hby hzs hsz hown hr hone hlen hbb hbase;unfold Oper.wp execOp;simp only[ho,resolve,invoke,builtin,Sem.run_bind,Sem.run_pure,Result.andThen_ok,List.map_toArray,List.map_cons,List.map_nil,hs,hx,hrun]
 exact h A c w' h2 h3 h4
theorem js {w:World} {base:Nat} {e:TypeId} {sz n:Nat} {v:Value} {xs:List Value} (h:w.ownsRow base e sz v n xs):w.drew.ownsRow base e sz v n xs:=h
theorem qb {w:World} {base g:Nat} {e:TypeId} {sz:Nat} (hb:base≤w.heap.size) (hg:w.heap.size=g):(w.alloc (.cells #[] e)).ownsRow base e sz (.slice (some ⟨g,0,none⟩) 0 0) 0 []:=by
 subst hg;exact World.ownsRow_made w #[] 0 hb (by decide) (by simp)
theorem keep8 {w w':World} {b:Nat} {v0 v1 v2 v3 v4 v5 v6 v7:Value} (hk:∀o v,w.cell? ⟨b,o,none⟩=some v→w'.cell? ⟨b,o,none⟩=some v)
  (h:w.cell? ⟨b,0,none⟩=some v0∧w.cell? ⟨b,1,none⟩=some v1∧w.cell? ⟨b,2,none⟩=some v2∧w.cell? ⟨b,3,none⟩=some v3∧w.cell? ⟨b,4,none⟩=some v4∧w.cell? ⟨b,5,none⟩=some v5∧w.cell? ⟨b,6,none⟩=some v6∧w.cell? ⟨b,7,none⟩=some v7):
  w'.cell? ⟨b,0,none⟩=some v0∧w'.cell? ⟨b,1,none⟩=some v1∧w'.cell? ⟨b,2,none⟩=some v2∧w'.cell? ⟨b,3,none⟩=some v3∧w'.cell? ⟨b,4,none⟩=some v4∧w'.cell? ⟨b,5,none⟩=some v5∧w'.cell? ⟨b,6,none⟩=some v6∧w'.cell? ⟨b,7,none⟩=some v7:=
 ⟨hk _ _ h.1,hk _ _ h.2.1,hk _ _ h.2.2.1,hk _ _ h.2.2.2.1,hk _ _ h.2.2.2.2.1,hk _ _ h.2.2.2.2.2.1,hk _ _ h.2.2.2.2.2.2.1,hk _ _ h.2.2.2.2.2.2.2⟩
theorem start8 {w:World} {b:Nat} {v0 v1 v2 v3 v4 v5 v6 v7:Value}
  (h:w.cell? ⟨b,0,none⟩=some v0∧w.cell? ⟨b,1,none⟩=some v1∧w.cell? ⟨b,2,none⟩=some v2∧w.cell? ⟨b,3,none⟩=some v3∧w.cell? ⟨b,4,none⟩=some v4∧w.cell? ⟨b,5,none⟩=some v5∧w.cell? ⟨b,6,none⟩=some v6∧w.cell? ⟨b,7,none⟩=some v7):
  w.drew.cell? ⟨b,0,none⟩=some v0∧w.drew.cell? ⟨b,1,none⟩=some v1∧w.drew.cell? ⟨b,2,none⟩=some v2∧w.drew.cell? ⟨b,3,none⟩=some v3∧w.drew.cell? ⟨b,4,none⟩=some v4∧w.drew.cell? ⟨b,5,none⟩=some v5∧w.drew.cell? ⟨b,6,none⟩=some v6∧w.drew.cell? ⟨b,7,none⟩=some v7:=h
theorem Below.keeps {w w':World} {b:Nat} (hb:Below w.heap.size w w'):∀o v,w.cell? ⟨b,o,none⟩=some v→w'.cell? ⟨b,o,none⟩=some v:=fun o v h=>(hb.cell (World.block_lt_of_cell? w _ h)).trans h
theorem ya (w:World) (x:Obj) {b:Nat}:∀o v,w.cell? ⟨b,o,none⟩=some v→(w.alloc x).cell? ⟨b,o,none⟩=some v:=fun o v h=>(World.cell?_alloc_some w _ x (by rw[h];rfl)).trans h
def CpyS (w:World) (S:St) (wx:World):Prop:=∃A0 ac0 A1 ac1 A2 ac2 A3 ac3 A4 ac4 A5 ac5 A6 ac6 fs,OwnSt (w.heap.size+1+1) wx (.slice A0 S.D.fn.length ac0) (.slice A1 S.D.fl.length ac1) (.slice A2 S.D.nn.length ac2) (.slice A3 S.D.nl.length ac3) (.slice A4 S.D.ss.length ac4) (.slice A5 S.cs.length ac5) (.slice A6 S.ds.length ac6) S fs∧Blk wx (w.heap.size+1) 34 #[.slice A0 S.D.fn.length ac0,.slice A1 S.D.fl.length ac1,.slice A2 S.D.nn.length ac2,.slice A3 S.D.nl.length ac3,.slice A4 S.D.ss.length ac4,.slice A5 S.cs.length ac5,.slice A6 S.ds.length ac6,.int .i64 S.fund]∧Below w.heap.size w wx
theorem z5o {w wl:World} {S:St} {A0 A1 A2 A3 A4 A5 A6:Option Addr} {ac0 ac1 ac2 ac3 ac4 ac5 ac6:Nat} {fs:List SF} (ho:OwnSt (w.heap.size+1+1) wl (.slice A0 S.D.fn.length ac0) (.slice A1 S.D.fl.length ac1) (.slice A2 S.D.nn.length ac2) (.slice A3 S.D.nl.length ac3) (.slice A4 S.D.ss.length ac4) (.slice A5 S.cs.length ac5) (.slice A6 S.ds.length ac6) S fs) (hR:Blk wl (w.heap.size+1) 34 #[.slice none 0 0,.slice none 0 0,.slice none 0 0,.slice none 0 0,.slice none 0 0,.slice none 0 0,.slice none 0 0,.int .i64 0]) (hb:Below w.heap.size w wl):
  CpyS w S ((((((((wl.setCell ⟨w.heap.size+1,0,none⟩ (.slice A0 S.D.fn.length ac0)).setCell ⟨w.heap.size+1,1,none⟩ (.slice A1 S.D.fl.length ac1)).setCell ⟨w.heap.size+1,2,none⟩ (.slice A2 S.D.nn.length ac2)).setCell ⟨w.heap.size+1,3,none⟩ (.slice A3 S.D.nl.length ac3)).setCell ⟨w.heap.size+1,4,none⟩ (.slice A4 S.D.ss.length ac4)).setCell ⟨w.heap.size+1,5,none⟩ (.slice A5 S.cs.length ac5)).setCell ⟨w.heap.size+1,6,none⟩ (.slice A6 S.ds.length ac6)).setCell ⟨w.heap.size+1,7,none⟩ (.int .i64 S.fund)):=by
 have h1:w.heap.size+1<w.heap.size+1+1:=Nat.lt_succ_self _;have h2:w.heap.size≤w.heap.size+1:=Nat.le_succ _;refine⟨A0,ac0,A1,ac1,A2,ac2,A3,ac3,A4,ac4,A5,ac5,A6,ac6,fs,?_,?_,?_⟩
 ·iterate 8 refine OwnSt.setLow ?_ h1 _
  exact ho
 ·have hc:=((((((((hR.set_ 0 (.slice A0 S.D.fn.length ac0)).set_ 1 (.slice A1 S.D.fl.length ac1)).set_ 2 (.slice A2 S.D.nn.length ac2)).set_ 3 (.slice A3 S.D.nl.length ac3)).set_ 4 (.slice A4 S.D.ss.length ac4)).set_ 5 (.slice A5 S.cs.length ac5)).set_ 6 (.slice A6 S.ds.length ac6)).set_ 7 (.int .i64 S.fund))
  simp only[List.setIfInBounds_toArray,List.set_cons_zero,List.set_cons_succ] at hc
  exact hc
 ·iterate 8 refine Below.setCell ?_ h2 _
  exact hb
theorem Xv (v0 v1 v2 v3 v4 v5 v6:Value) (S:St) (w:World) (h:RSt w v0 v1 v2 v3 v4 v5 v6 S) (hle:StLe S):
  Calls Tryz.prog 69 #[.agg #[v0,v1,v2,v3,v4,v5,v6,.int .i64 S.fund]] w (z1T S w):=by
 obtain⟨i0,hi,iz0,iz1,iz2⟩:=info_parts qu;obtain⟨j0,hj,jz0,jz1,jz2⟩:=info_parts z4t;have HLE:=Lib.hid hle;obtain⟨w0,hw0⟩:∃u,u=(w.alloc (.cells #[v0,v1,v2,v3,v4,v5,v6,.int .i64 S.fund] 34)).alloc (.cells #[.slice none 0 0,.slice none 0 0,.slice none 0 0,.slice none 0 0,.slice none 0 0,.slice none 0 0,.slice none 0 0,.int .i64 0] 34):=⟨_,rfl⟩;have hX0:Blk w0 w.heap.size 34 #[v0,v1,v2,v3,v4,v5,v6,.int .i64 S.fund]:=hw0▸(Blk.newAt rfl).alloc _;have hR0:Blk w0 (w.heap.size+1) 34 #[.slice none 0 0,.slice none 0 0,.slice none 0 0,.slice none 0 0,.slice none 0 0,.slice none 0 0,.slice none 0 0,.int .i64 0]:=hw0▸Blk.newAt (by simp);have hb0:Below w.heap.size w w0:=hw0▸((Below.refl _ _).alloc (Nat.le_refl _) _).alloc (by simp) _;have hs0:w0.heap.size=w.heap.size+1+1:=by rw[hw0];simp
 have HW0:=Lib.hid hw0;have hd:=Lib.hid (h.below hb0);clear hle h hw0
 go_enter Tryz.func69,Tryz.ntmps69
 go_upto_region 1 with (fail)
 rw[←HW0.out];clear HW0;obtain⟨x_0,x_1,x_2,x_3,x_4,x_5,x_6,x_7,x_f0,x_f1,x_f2,x_f3,x_f4,x_f5,x_f6,x_f7⟩:=hX0.b8;obtain⟨r_0,r_1,r_2,r_3,r_4,r_5,r_6,r_7,r_f0,r_f1,r_f2,r_f3,r_f4,r_f5,r_f6,r_f7⟩:=hR0.b8;have q0:w.heap.size<w0.heap.size:=by omega
 have q1:w.heap.size+1<w0.heap.size:=by omega
 have hu0:w.heap.size<w0.heap.size+1:=by omega
 have hv0:w.heap.size<w0.heap.size+1+1:=by omega
 have hx0:¬w0.heap.size=w.heap.size:=by omega
 have hy0:¬w0.heap.size+1=w.heap.size:=by omega
 have hsf:∀(x:World) (q o:Nat) (u:Value),(x.setCell ⟨w.heap.size+1,q,none⟩ u).cell? ⟨w.heap.size,o,none⟩=x.cell? ⟨w.heap.size,o,none⟩:=fun x q o u=>World.cell?_setCell_far _ _ _ _ (by simp)
 have HS0:=Lib.hid hs0;have HR0:=Lib.hid hR0;clear hs0 hX0 hR0
 go_cut [] (fun wx=>CpyS w S wx)
 case first=>
  go_region_held3 (fun w'=>w'.cell? ⟨w.heap.size,0,none⟩=some (v0)∧w'.cell? ⟨w.heap.size,1,none⟩=some (v1)∧w'.cell? ⟨w.heap.size,2,none⟩=some (v2)∧w'.cell? ⟨w.heap.size,3,none⟩=some (v3)∧w'.cell? ⟨w.heap.size,4,none⟩=some (v4)∧w'.cell? ⟨w.heap.size,5,none⟩=some (v5)∧w'.cell? ⟨w.heap.size,6,none⟩=some (v6)∧w'.cell? ⟨w.heap.size,7,none⟩=some (.int .i64 S.fund))
   (first|(simp only[hsf];assumption)|(with_reducible exact keep8 (ya _ _) (by assumption))|(with_reducible exact keep8 (Below.keeps hb3) (by assumption))|(with_reducible exact keep8 (Below.keeps hb2) (by assumption))|(with_reducible exact keep8 (Below.keeps hb1) (by assumption))|(with_reducible exact keep8 (ya _ _) (start8 ⟨x_0,x_1,x_2,x_3,x_4,x_5,x_6,x_7⟩))|(with_reducible exact start8 (keep8 (ya _ _) ⟨x_0,x_1,x_2,x_3,x_4,x_5,x_6,x_7⟩))|(with_reducible exact start8 (keep8 (ya _ _) (keep8 (ya _ _) ⟨x_0,x_1,x_2,x_3,x_4,x_5,x_6,x_7⟩)))|(with_reducible exact start8 ⟨x_0,x_1,x_2,x_3,x_4,x_5,x_6,x_7⟩))
   (first|(go_at_call 135;refine Calls.mono (z0Y _ _ _ _ _ S.D _ (hd.out.dr.below ?a1) HLE.out.D) ?_;(case a1=>exact bel_);rintro e w1 ⟨A0,ac0,A1,ac1,A2,ac2,A3,ac3,A4,ac4,fs,rfl,ho1,hb1⟩;(first|(with_reducible have hcf1:=z8 hb1)|have hcf1:=bcell hb1);obtain⟨hc1,hf1⟩:=hcf1;have hz1:=hb1.size;(try simp at hz1);(try have hp1_0:=p0_ w w1);(try have hp1_1:=p1_ w w1);(try have hp1_2:=p2_ w w1);(try have hp1_3:=p3_ w w1);(have hu1:w.heap.size<w1.heap.size+1:=by omega);(have hv1:w.heap.size<w1.heap.size+1+1:=by omega);(have hx1:¬w1.heap.size=w.heap.size:=by omega);(have hy1:¬w1.heap.size+1=w.heap.size:=by omega))|(refine zU rfl _ _ _ rfl (w.heap.size+1+1) w0.heap.size 3 i0 (.int .i64 0) 1 8 Tryz.underlying31 hi iz0 iz1 iz2 rfl (by decide) v5 S.cs.length (S.cs.map vI) rfl rfl ?own (hd.out.cs.below ?b2) (kj S.cs) HLE.out.cs (by decide) ?bs ?_;(case own=>((repeat' (first|(with_reducible refine qb ?_ ?_)|(with_reducible refine World.ownsRow.alloc ?_ _)|(with_reducible refine js ?_)|(with_reducible refine zX ?_ hb1)));all_goals (first|omega|(simp;done)|(simp;omega))));(case b2=>exact bel_);(case bs=>exact sz_);intro A5 ac5 w2 ho2 hb2 ha2;(first|(with_reducible have hcf2:=z8 hb2)|have hcf2:=bcell hb2);obtain⟨hc2,hf2⟩:=hcf2;have hz2:=hb2.size;(try simp at hz2);(try have hp2_0:=p0_ w w2);(try have hp2_1:=p1_ w w2);(try have hp2_2:=p2_ w w2);(try have hp2_3:=p3_ w w2);(have hu2:w.heap.size<w2.heap.size+1:=by omega);(have hx2:¬w2.heap.size=w.heap.size:=by omega))|(refine zU rfl _ _ _ rfl (w.heap.size+1+1) (w0.heap.size+1) 3 i0 (.int .i64 0) 1 8 Tryz.underlying31 hi iz0 iz1 iz2 rfl (by decide) v5 S.cs.length (S.cs.map vI) rfl rfl ?own (hd.out.cs.below ?b2) (kj S.cs) HLE.out.cs (by decide) ?bs ?_;(case own=>((repeat' (first|(with_reducible refine qb ?_ ?_)|(with_reducible refine World.ownsRow.alloc ?_ _)|(with_reducible refine js ?_)|(with_reducible refine zX ?_ hb1)));all_goals (first|omega|(simp;done)|(simp;omega))));(case b2=>exact bel_);(case bs=>exact sz_);intro A5 ac5 w2 ho2 hb2 ha2;(first|(with_reducible have hcf2:=z8 hb2)|have hcf2:=bcell hb2);obtain⟨hc2,hf2⟩:=hcf2;have hz2:=hb2.size;(try simp at hz2);(try have hp2_0:=p0_ w w2);(try have hp2_1:=p1_ w w2);(try have hp2_2:=p2_ w w2);(try have hp2_3:=p3_ w w2);(have hu2:w.heap.size<w2.heap.size+1:=by omega);(have hx2:¬w2.heap.size=w.heap.size:=by omega))|(refine zU rfl _ _ _ rfl (w.heap.size+1+1) w1.heap.size 3 i0 (.int .i64 0) 1 8 Tryz.underlying31 hi iz0 iz1 iz2 rfl (by decide) v5 S.cs.length (S.cs.map vI) rfl rfl ?own (hd.out.cs.below ?b2) (kj S.cs) HLE.out.cs (by decide) ?bs ?_;(case own=>((repeat' (first|(with_reducible refine qb ?_ ?_)|(with_reducible refine World.ownsRow.alloc ?_ _)|(with_reducible refine js ?_)|(with_reducible refine zX ?_ hb1)));all_goals (first|omega|(simp;done)|(simp;omega))));(case b2=>exact bel_);(case bs=>exact sz_);intro A5 ac5 w2 ho2 hb2 ha2;(first|(with_reducible have hcf2:=z8 hb2)|have hcf2:=bcell hb2);obtain⟨hc2,hf2⟩:=hcf2;have hz2:=hb2.size;(try simp at hz2);(try have hp2_0:=p0_ w w2);(try have hp2_1:=p1_ w w2);(try have hp2_2:=p2_ w w2);(try have hp2_3:=p3_ w w2);(have hu2:w.heap.size<w2.heap.size+1:=by omega);(have hx2:¬w2.heap.size=w.heap.size:=by omega))|(refine zU rfl _ _ _ rfl (w.heap.size+1+1) (w1.heap.size+1) 3 i0 (.int .i64 0) 1 8 Tryz.underlying31 hi iz0 iz1 iz2 rfl (by decide) v5 S.cs.length (S.cs.map vI) rfl rfl ?own (hd.out.cs.below ?b2) (kj S.cs) HLE.out.cs (by decide) ?bs ?_;(case own=>((repeat' (first|(with_reducible refine qb ?_ ?_)|(with_reducible refine World.ownsRow.alloc ?_ _)|(with_reducible refine js ?_)|(with_reducible refine zX ?_ hb1)));all_goals (first|omega|(simp;done)|(simp;omega))));(case b2=>exact bel_);(case bs=>exact sz_);intro A5 ac5 w2 ho2 hb2 ha2;(first|(with_reducible have hcf2:=z8 hb2)|have hcf2:=bcell hb2);obtain⟨hc2,hf2⟩:=hcf2;have hz2:=hb2.size;(try simp at hz2);(try have hp2_0:=p0_ w w2);(try have hp2_1:=p1_ w w2);(try have hp2_2:=p2_ w w2);(try have hp2_3:=p3_ w w2);(have hu2:w.heap.size<w2.heap.size+1:=by omega);(have hx2:¬w2.heap.size=w.heap.size:=by omega))|(refine zU rfl _ _ _ rfl (w.heap.size+1+1) w0.heap.size 48 j0 (.agg #[.int .i64 0,.int .i64 0,.int .i64 0]) 3 24 Tryz.underlying32 hj jz0 jz1 jz2 rfl (by decide) v6 S.ds.length (S.ds.flatMap Dp.cs) rfl rfl ?own (hd.out.ds.below ?b3) (jO S.ds) HLE.out.ds (by decide) ?bs ?_;(case own=>((repeat' (first|(with_reducible refine qb ?_ ?_)|(with_reducible refine World.ownsRow.alloc ?_ _)|(with_reducible refine js ?_)|(with_reducible refine zX ?_ hb2)|(with_reducible refine zX ?_ hb1)));all_goals (first|omega|(simp;done)|(simp;omega))));(case b3=>exact bel_);(case bs=>exact sz_);intro A6 ac6 w3 ho3 hb3 ha3;(first|(with_reducible have hcf3:=z8 hb3)|have hcf3:=bcell hb3);obtain⟨hc3,hf3⟩:=hcf3;have hz3:=hb3.size;(try simp at hz3);(try have hp3_0:=p0_ w w3);(try have hp3_1:=p1_ w w3);(try have hp3_2:=p2_ w w3);(try have hp3_3:=p3_ w w3))|(refine zU rfl _ _ _ rfl (w.heap.size+1+1) (w0.heap.size+1) 48 j0 (.agg #[.int .i64 0,.int .i64 0,.int .i64 0]) 3 24 Tryz.underlying32 hj jz0 jz1 jz2 rfl (by decide) v6 S.ds.length (S.ds.flatMap Dp.cs) rfl rfl ?own (hd.out.ds.below ?b3) (jO S.ds) HLE.out.ds (by decide) ?bs ?_;(case own=>((repeat' (first|(with_reducible refine qb ?_ ?_)|(with_reducible refine World.ownsRow.alloc ?_ _)|(with_reducible refine js ?_)|(with_reducible refine zX ?_ hb2)|(with_reducible refine zX ?_ hb1)));all_goals (first|omega|(simp;done)|(simp;omega))));(case b3=>exact bel_);(case bs=>exact sz_);intro A6 ac6 w3 ho3 hb3 ha3;(first|(with_reducible have hcf3:=z8 hb3)|have hcf3:=bcell hb3);obtain⟨hc3,hf3⟩:=hcf3;have hz3:=hb3.size;(try simp at hz3);(try have hp3_0:=p0_ w w3);(try have hp3_1:=p1_ w w3);(try have hp3_2:=p2_ w w3);(try have hp3_3:=p3_ w w3))|(refine zU rfl _ _ _ rfl (w.heap.size+1+1) w1.heap.size 48 j0 (.agg #[.int .i64 0,.int .i64 0,.int .i64 0]) 3 24 Tryz.underlying32 hj jz0 jz1 jz2 rfl (by decide) v6 S.ds.length (S.ds.flatMap Dp.cs) rfl rfl ?own (hd.out.ds.below ?b3) (jO S.ds) HLE.out.ds (by decide) ?bs ?_;(case own=>((repeat' (first|(with_reducible refine qb ?_ ?_)|(with_reducible refine World.ownsRow.alloc ?_ _)|(with_reducible refine js ?_)|(with_reducible refine zX ?_ hb2)|(with_reducible refine zX ?_ hb1)));all_goals (first|omega|(simp;done)|(simp;omega))));(case b3=>exact bel_);(case bs=>exact sz_);intro A6 ac6 w3 ho3 hb3 ha3;(first|(with_reducible have hcf3:=z8 hb3)|have hcf3:=bcell hb3);obtain⟨hc3,hf3⟩:=hcf3;have hz3:=hb3.size;(try simp at hz3);(try have hp3_0:=p0_ w w3);(try have hp3_1:=p1_ w w3);(try have hp3_2:=p2_ w w3);(try have hp3_3:=p3_ w w3))|(refine zU rfl _ _ _ rfl (w.heap.size+1+1) (w1.heap.size+1) 48 j0 (.agg #[.int .i64 0,.int .i64 0,.int .i64 0]) 3 24 Tryz.underlying32 hj jz0 jz1 jz2 rfl (by decide) v6 S.ds.length (S.ds.flatMap Dp.cs) rfl rfl ?own (hd.out.ds.below ?b3) (jO S.ds) HLE.out.ds (by decide) ?bs ?_;(case own=>((repeat' (first|(with_reducible refine qb ?_ ?_)|(with_reducible refine World.ownsRow.alloc ?_ _)|(with_reducible refine js ?_)|(with_reducible refine zX ?_ hb2)|(with_reducible refine zX ?_ hb1)));all_goals (first|omega|(simp;done)|(simp;omega))));(case b3=>exact bel_);(case bs=>exact sz_);intro A6 ac6 w3 ho3 hb3 ha3;(first|(with_reducible have hcf3:=z8 hb3)|have hcf3:=bcell hb3);obtain⟨hc3,hf3⟩:=hcf3;have hz3:=hb3.size;(try simp at hz3);(try have hp3_0:=p0_ w w3);(try have hp3_1:=p1_ w w3);(try have hp3_2:=p2_ w w3);(try have hp3_3:=p3_ w w3))|(refine zU rfl _ _ _ rfl (w.heap.size+1+1) w2.heap.size 48 j0 (.agg #[.int .i64 0,.int .i64 0,.int .i64 0]) 3 24 Tryz.underlying32 hj jz0 jz1 jz2 rfl (by decide) v6 S.ds.length (S.ds.flatMap Dp.cs) rfl rfl ?own (hd.out.ds.below ?b3) (jO S.ds) HLE.out.ds (by decide) ?bs ?_;(case own=>((repeat' (first|(with_reducible refine qb ?_ ?_)|(with_reducible refine World.ownsRow.alloc ?_ _)|(with_reducible refine js ?_)|(with_reducible refine zX ?_ hb2)|(with_reducible refine zX ?_ hb1)));all_goals (first|omega|(simp;done)|(simp;omega))));(case b3=>exact bel_);(case bs=>exact sz_);intro A6 ac6 w3 ho3 hb3 ha3;(first|(with_reducible have hcf3:=z8 hb3)|have hcf3:=bcell hb3);obtain⟨hc3,hf3⟩:=hcf3;have hz3:=hb3.size;(try simp at hz3);(try have hp3_0:=p0_ w w3);(try have hp3_1:=p1_ w w3);(try have hp3_2:=p2_ w w3);(try have hp3_3:=p3_ w w3)))
  all_goals go_wp2
  all_goals go_meet
  all_goals
   clear x_0 x_1 x_2 x_3 x_4 x_5 x_6 x_7 x_f0 x_f1 x_f2 x_f3 x_f4 x_f5 x_f6 x_f7 r_0 r_1 r_2 r_3 r_4 r_5 r_6 r_7 r_f0 r_f1 r_f2 r_f3 r_f4 r_f5 r_f6 r_f7;have hs0:=HS0.out;have hlt1:=ho1.lt;have hz1':=hb1.size;have hz2':=hb2.size;have hz3':=hb3.size
   try simp at hlt1
   try simp at hz1'
   try simp at hz2'
   try simp at hz3'
   try simp at ha2
   try simp at ha3
   with_reducible refine z5o (fs:=fs) ?_ ?_ ?_
   ·refine⟨(OwnD.kept ho1 ?_).mono ?_,?_,?_,fun k h1 h2=>?_,fun k h1 h2=>?_,fun k h1 h2=>?_⟩
    ·exact bel_
    ·exact sz_
    ·first|(with_reducible exact ho2)|exact OwnI.kept ho2 (by exact bel_)
    ·first|(with_reducible exact ho3)|exact zX ho3 (by exact bel_)
    ·have:=hlt1 k h1;rcases ha2 k h2 with e|e<;>omega
    ·have:=hlt1 k h1;rcases ha3 k h2 with e|e<;>omega
    ·have u1:=(World.ownsRow.lt ho2 k h1).2;have u2:=(World.ownsRow.lt ho3 k h2).2;rcases ha2 k h1 with e|e<;>rcases ha3 k h2 with e'|e'<;>omega
   ·exact HR0.out.below (by exact bel_) q1
   ·exact hb0.trans (Below.mono (by exact bel_) hb0.size)
 case rest=>
  obtain⟨A0,ac0,A1,ac1,A2,ac2,A3,ac3,A4,ac4,A5,ac5,A6,ac6,fs,ho,hR,hb⟩:=hcut;have HO:=Lib.hid ho;have HB:=Lib.hid hb;obtain⟨t_0,t_1,t_2,t_3,t_4,t_5,t_6,t_7⟩:=hR.c8;have n1:=hR.lt;clear ho hb hR;go_wp2;refine bodyPost_ret (v:= .agg #[.slice A0 S.D.fn.length ac0,.slice A1 S.D.fl.length ac1,.slice A2 S.D.nn.length ac2,.slice A3 S.D.nl.length ac3,.slice A4 S.D.ss.length ac4,.slice A5 S.cs.length ac5,.slice A6 S.ds.length ac6,.int .i64 S.fund]) (by simp[results,Tryz.results69,go_sem,n1,t_0,t_1,t_2,t_3,t_4,t_5,t_6,t_7]) rfl ?_
  exact⟨A0,ac0,A1,ac1,A2,ac2,A3,ac3,A4,ac4,A5,ac5,A6,ac6,fs,rfl,HO.out.mono (by omega),HB.out⟩
end Go.Proofs.YtnjcpljhmhdhkaaGreat
