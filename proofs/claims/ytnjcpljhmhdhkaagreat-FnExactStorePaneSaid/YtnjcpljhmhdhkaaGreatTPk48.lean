/- part 48 -/
import Derived.Test.YtnjcpljhmhdhkaaGreatTPk47
import Derived.Deep.RegionHeld3
set_option linter.unusedSimpArgs false
set_option linter.unusedVariables false
set_option maxRecDepth 100000
set_option maxHeartbeats 60000000
namespace Go.Proofs.YtnjcpljhmhdhkaaGreat
open Go.RowKit
theorem z3s (v0 v1 v2 v3 v4 v5 v6:Value) (S:St) (pl:Int) (pm:Int) (w:World) (h:RSt w v0 v1 v2 v3 v4 v5 v6 S):
  Calls Tryz.prog 7 #[.agg #[v0,v1,v2,v3,v4,v5,v6,.int .i64 S.fund],.int .i64 pl,.int .i64 pm] w fun e w'=>e= .returned (.bool true)∧Below w.heap.size w w':=by
 obtain⟨x,hx⟩:∃x,szSt S=x:=⟨_,rfl⟩;have HX:=Lib.hid hx
 by_cases hx0:x<0
 ·clear hx
  go_enter Tryz.func7,Tryz.ntmps7
  go_wp2_with fail
  refine(QE _ _ _ _ _ _ _ S x _ (h.below (by exact bel_)) HX).mono ?_
  rintro e w1 ⟨rfl,hb1⟩;(first|(with_reducible have hcf1:=z8 hb1)|have hcf1:=bcell hb1);obtain⟨hc1,hf1⟩:=hcf1;have hz1:=hb1.size;(try simp at hz1);(try have hp1_0:=p0_ w w1);(try have hp1_1:=p1_ w w1);(try have hp1_2:=p2_ w w1);(try have hp1_3:=p3_ w w1)
  go_wp2;go_ret
  exact⟨rfl,by exact bel_⟩
 ·have hle:StLe S:=z5v (by rw[hx];exact hx0)
  have HLE:=Lib.hid hle;clear hx hle;obtain⟨E,hE⟩:∃E,stoS S pl pm=E:=⟨_,rfl⟩;have HE:=Lib.hid hE;obtain⟨bb,hB⟩:∃bb,stoB S pl pm=bb:=⟨_,rfl⟩;have HB:=Lib.hid hB;have hcE:y9 E≤30000000:=by rw[←hE];exact Jv S pl pm HLE.out
  have hcD:y9 S≤30000000:=HLE.out.cnt;clear hE hB;have m1:¬(1:Int)+(y9 S:Int)<0:=by omega
  have m2:¬(1:Int)+(y9 E:Int)<0:=by omega
  go_enter Tryz.func7,Tryz.ntmps7
  go_wp2_with fail
  refine(QE _ _ _ _ _ _ _ S x _ (h.below (by exact bel_)) HX).mono ?_
  rintro e w1 ⟨rfl,hb1⟩;have hz1:=hb1.size;simp at hz1
  have hbw1:Below w.heap.size w w1:=by exact bel_
  have hV1:Blk w1 w.heap.size 61 #[v0,v1,v2,v3,v4,v5,v6,.int .i64 S.fund]:=Blk.below (Blk.newAt rfl) hb1 sz_;have e0:w.heap.size<w1.heap.size:=hV1.lt;clear hb1 HX hz1;obtain⟨vb_0,vb_1,vb_2,vb_3,vb_4,vb_5,vb_6,vb_7⟩:=hV1.c8;have vlt:=hV1.lt
  go_wp2_with fail
  refine(yk _ _ _ _ _ _ _ S _ (h.below hbw1) HLE.out).mono ?_
  rintro e w2 ⟨T0,tc0,T1,tc1,T2,tc2,T3,tc3,T4,tc4,T5,tc5,T6,tc6,tfs,rfl,hoT,hb2⟩;have hz2:=hb2.size;have hV2:=hV1.below hb2 hV1.lt;have hbw2:=hbw1.trans (hb2.mono hbw1.size);clear hV1 hbw1 hb2 vb_0 vb_1 vb_2 vb_3 vb_4 vb_5 vb_6 vb_7 vlt
  go_wp2_with fail
  refine(JE _ _ _ _ _ _ _ S pl pm _ hoT.reads HLE.out).mono ?_
  rw[HE.out,HB.out];rintro e w3 ⟨W0,wc0,W1,wc1,W2,wc2,W3,wc3,W4,wc4,W5,wc5,W6,wc6,wfs,rfl,hoW3,hb3⟩;have hltW:=hoW3.lt;have hz3:=hb3.size;have hV3:=hV2.below hb3 hV2.lt;have hbw3:=hbw2.trans (hb3.mono hbw2.size);clear hV2 hbw2 hb3 hoT;obtain⟨vb_0,vb_1,vb_2,vb_3,vb_4,vb_5,vb_6,vb_7⟩:=hV3.c8;have vlt:=hV3.lt
  go_wp2_with fail
  obtain⟨u3,hu3⟩:∃v,v=w3.alloc (.cells #[.slice W0 E.D.fn.length wc0,.slice W1 E.D.fl.length wc1,.slice W2 E.D.nn.length wc2,.slice W3 E.D.nl.length wc3,.slice W4 E.D.ss.length wc4,.slice W5 E.cs.length wc5,.slice W6 E.ds.length wc6,.int .i64 E.fund] 34):=⟨_,rfl⟩;have hux3:Below w3.heap.size w3 u3:=hu3▸(Below.refl _ _).alloc (Nat.le_refl _) _;have hNW:Blk u3 w3.heap.size 34 #[.slice W0 E.D.fn.length wc0,.slice W1 E.D.fl.length wc1,.slice W2 E.D.nn.length wc2,.slice W3 E.D.nl.length wc3,.slice W4 E.D.ss.length wc4,.slice W5 E.cs.length wc5,.slice W6 E.ds.length wc6,.int .i64 E.fund]:=hu3▸Blk.newAt rfl;have huz3:u3.heap.size=w3.heap.size+1:=by rw[hu3];simp
  rw[←hu3];clear hu3;refine(yk _ _ _ _ _ _ _ S _ (h.below (hbw3.trans (hux3.mono hbw3.size))) HLE.out).mono ?_
  rintro e w4 ⟨X0,xc0,X1,xc1,X2,xc2,X3,xc3,X4,xc4,X5,xc5,X6,xc6,xfs,rfl,hoX4,hb4⟩;have hltX:=hoX4.lt;have hs4:=hb4.size;have hby:=hux3.trans (hb4.mono hux3.size);have hW4:=hNW.below hb4 hNW.lt;have hz4:=hby.size;have hV4:=hV3.below hby hV3.lt;have hoW4:=hoW3.kept hby
  have hbw4:=hbw3.trans (hby.mono hbw3.size);clear hV3 hoW3 hbw3 hby hux3 hNW vb_0 vb_1 vb_2 vb_3 vb_4 vb_5 vb_6 vb_7 vlt;clear hb4;obtain⟨vb_0,vb_1,vb_2,vb_3,vb_4,vb_5,vb_6,vb_7⟩:=hV4.c8;obtain⟨wb_0,wb_1,wb_2,wb_3,wb_4,wb_5,wb_6,wb_7⟩:=hW4.c8;have vlt:=hV4.lt;have wlt:=hW4.lt
  go_wp2_with fail
  obtain⟨u4,hu4⟩:∃v,v=w4.alloc (.cells #[.slice X0 S.D.fn.length xc0,.slice X1 S.D.fl.length xc1,.slice X2 S.D.nn.length xc2,.slice X3 S.D.nl.length xc3,.slice X4 S.D.ss.length xc4,.slice X5 S.cs.length xc5,.slice X6 S.ds.length xc6,.int .i64 S.fund] 34):=⟨_,rfl⟩;have hux4:Below w4.heap.size w4 u4:=hu4▸(Below.refl _ _).alloc (Nat.le_refl _) _;have hNX:Blk u4 w4.heap.size 34 #[.slice X0 S.D.fn.length xc0,.slice X1 S.D.fl.length xc1,.slice X2 S.D.nn.length xc2,.slice X3 S.D.nl.length xc3,.slice X4 S.D.ss.length xc4,.slice X5 S.cs.length xc5,.slice X6 S.ds.length xc6,.int .i64 S.fund]:=hu4▸Blk.newAt rfl;have huz4:u4.heap.size=w4.heap.size+1:=by rw[hu4];simp
  rw[←hu4];clear hu4;refine(kV _ _ _ _ _ _ _ S pl pm _ (hoX4.reads.below hux4) HLE.out).mono ?_
  rw[HE.out,HB.out];rintro e w5 ⟨G0,gc0,G1,gc1,G2,gc2,G3,gc3,G4,gc4,G5,gc5,G6,gc6,gfs,rfl,hoG5,hb5⟩;have hltG:=hoG5.lt;have hs5:=hb5.size;have hby:=hux4.trans (hb5.mono hux4.size);have hX5:=hNX.below hb5 hNX.lt;have hz5:=hby.size;have hV5:=hV4.below hby hV4.lt;have hW5:=hW4.below hby hW4.lt;have hoW5:=hoW4.kept hby
  have hoX5:=hoX4.kept hby
  have hbw5:=hbw4.trans (hby.mono hbw4.size);clear hV4 hW4 hoW4 hoX4 hbw4 hby hux4 hNX vb_0 vb_1 vb_2 vb_3 vb_4 vb_5 vb_6 vb_7 wb_0 wb_1 wb_2 wb_3 wb_4 wb_5 wb_6 wb_7 vlt wlt;clear hb5;obtain⟨vb_0,vb_1,vb_2,vb_3,vb_4,vb_5,vb_6,vb_7⟩:=hV5.c8;obtain⟨wb_0,wb_1,wb_2,wb_3,wb_4,wb_5,wb_6,wb_7⟩:=hW5.c8;obtain⟨xb_0,xb_1,xb_2,xb_3,xb_4,xb_5,xb_6,xb_7⟩:=hX5.c8;have vlt:=hV5.lt;have wlt:=hW5.lt;have xlt:=hX5.lt
  go_wp2_with fail
  obtain⟨u5,hu5⟩:∃v,v=w5.alloc (.cells #[.slice G0 E.D.fn.length gc0,.slice G1 E.D.fl.length gc1,.slice G2 E.D.nn.length gc2,.slice G3 E.D.nl.length gc3,.slice G4 E.D.ss.length gc4,.slice G5 E.cs.length gc5,.slice G6 E.ds.length gc6,.int .i64 E.fund] 34):=⟨_,rfl⟩;have hux5:Below w5.heap.size w5 u5:=hu5▸(Below.refl _ _).alloc (Nat.le_refl _) _;have hNG:Blk u5 w5.heap.size 34 #[.slice G0 E.D.fn.length gc0,.slice G1 E.D.fl.length gc1,.slice G2 E.D.nn.length gc2,.slice G3 E.D.nl.length gc3,.slice G4 E.D.ss.length gc4,.slice G5 E.cs.length gc5,.slice G6 E.ds.length gc6,.int .i64 E.fund]:=hu5▸Blk.newAt rfl;have huz5:u5.heap.size=w5.heap.size+1:=by rw[hu5];simp
  rw[←hu5];clear hu5;refine(yn _ _ _ _ _ _ _ _ _ _ _ _ _ _ E _ (hoG5.reads.below hux5) (hoW5.reads.below hux5)).mono ?_
  rintro e w6 ⟨rfl,hb6⟩;have hby:=hux5.trans (hb6.mono hux5.size);have hG6:=hNG.below hb6 hNG.lt;have hz6:=hby.size;have hV6:=hV5.below hby hV5.lt;have hW6:=hW5.below hby hW5.lt;have hX6:=hX5.below hby hX5.lt;have hoW6:=hoW5.kept hby
  have hoX6:=hoX5.kept hby
  have hoG6:=hoG5.kept hby
  have hbw6:=hbw5.trans (hby.mono hbw5.size);clear hV5 hW5 hX5 hoW5 hoX5 hoG5 hbw5 hby hux5 hNG vb_0 vb_1 vb_2 vb_3 vb_4 vb_5 vb_6 vb_7 wb_0 wb_1 wb_2 wb_3 wb_4 wb_5 wb_6 wb_7 xb_0 xb_1 xb_2 xb_3 xb_4 xb_5 xb_6 xb_7 vlt wlt xlt;clear hb6;have ad1:=hV6.lt;have adW:=hW6.lt;have adX:=hX6.lt;have adG:=hG6.lt;have lW:∀k,jy (.slice W0 E.D.fn.length wc0) (.slice W1 E.D.fl.length wc1) (.slice W2 E.D.nn.length wc2) (.slice W3 E.D.nl.length wc3) (.slice W4 E.D.ss.length wc4) (.slice W5 E.cs.length wc5) (.slice W6 E.ds.length wc6) wfs k→w.heap.size<k∧k<w3.heap.size:=fun k hk=>by have:=hltW k hk;omega
  have lX:∀k,jy (.slice X0 S.D.fn.length xc0) (.slice X1 S.D.fl.length xc1) (.slice X2 S.D.nn.length xc2) (.slice X3 S.D.nl.length xc3) (.slice X4 S.D.ss.length xc4) (.slice X5 S.cs.length xc5) (.slice X6 S.ds.length xc6) xfs k→w3.heap.size<k∧k<w4.heap.size:=fun k hk=>by have:=hltX k hk;omega
  have lG:∀k,jy (.slice G0 E.D.fn.length gc0) (.slice G1 E.D.fl.length gc1) (.slice G2 E.D.nn.length gc2) (.slice G3 E.D.nl.length gc3) (.slice G4 E.D.ss.length gc4) (.slice G5 E.cs.length gc5) (.slice G6 E.ds.length gc6) gfs k→w4.heap.size<k∧k<w5.heap.size:=fun k hk=>by have:=hltG k hk;omega
  have o1:w.heap.size<w3.heap.size:=by omega
  have o2:w3.heap.size<w4.heap.size:=by omega
  have o3:w4.heap.size<w5.heap.size:=by omega
  clear hltW hltX hltG huz3 huz4 huz5 hz2 hz3 hz4 hz5 e0 hs4 hs5;generalize w3.heap.size=BW at*;generalize w4.heap.size=BX at*;generalize w5.heap.size=BG at*;clear hz6 ad1 adW adX adG;obtain⟨vb_0,vb_1,vb_2,vb_3,vb_4,vb_5,vb_6,vb_7⟩:=hV6.c8;obtain⟨xb_0,xb_1,xb_2,xb_3,xb_4,xb_5,xb_6,xb_7⟩:=hX6.c8;have vlt:=hV6.lt;have xlt:=hX6.lt;have hd6:=Lib.hid (h.below hbw6);have hx6:=Lib.hid hoX6.reads
  go_wp2_with fail
  go_region_held3 (fun w'=>w'.cell? ⟨w.heap.size,0,none⟩=some (v0)∧w'.cell? ⟨w.heap.size,1,none⟩=some (v1)∧w'.cell? ⟨w.heap.size,2,none⟩=some (v2)∧w'.cell? ⟨w.heap.size,3,none⟩=some (v3)∧w'.cell? ⟨w.heap.size,4,none⟩=some (v4)∧w'.cell? ⟨w.heap.size,5,none⟩=some (v5)∧w'.cell? ⟨w.heap.size,6,none⟩=some (v6)∧w'.cell? ⟨w.heap.size,7,none⟩=some (.int .i64 S.fund)∧w'.cell? ⟨BX,0,none⟩=some (.slice X0 S.D.fn.length xc0)∧w'.cell? ⟨BX,1,none⟩=some (.slice X1 S.D.fl.length xc1)∧w'.cell? ⟨BX,2,none⟩=some (.slice X2 S.D.nn.length xc2)∧w'.cell? ⟨BX,3,none⟩=some (.slice X3 S.D.nl.length xc3)∧w'.cell? ⟨BX,4,none⟩=some (.slice X4 S.D.ss.length xc4)∧w'.cell? ⟨BX,5,none⟩=some (.slice X5 S.cs.length xc5)∧w'.cell? ⟨BX,6,none⟩=some (.slice X6 S.ds.length xc6)∧w'.cell? ⟨BX,7,none⟩=some (.int .i64 S.fund))
   (go_keep)
   (first|(go_at_call 28;refine Calls.mono (yk v0 v1 v2 v3 v4 v5 v6 S _ (hd6.out.below ?c1) HLE.out) ?_;(case c1=>exact bel_);rintro e w7 ⟨Q0,qc0,Q1,qc1,Q2,qc2,Q3,qc3,Q4,qc4,Q5,qc5,Q6,qc6,qfs,rfl,hoQ,hb7⟩;(first|(with_reducible have hcf7:=z8 hb7)|have hcf7:=bcell hb7);obtain⟨hc7,hf7⟩:=hcf7;have hz7:=hb7.size;(try simp at hz7);(try have hp7_0:=p0_ w w7);(try have hp7_1:=p1_ w w7);(try have hp7_2:=p2_ w w7);(try have hp7_3:=p3_ w w7);(have mm7:BX<w7.heap.size:=by omega))|(go_at_call 30;refine(yn _ _ _ _ _ _ _ _ _ _ _ _ _ _ S _ (hx6.out.below ?c2) hoQ.reads).mono ?_;(case c2=>exact bel_);rintro e w8 ⟨rfl,hb8⟩;(first|(with_reducible have hcf8:=z8 hb8)|have hcf8:=bcell hb8);obtain⟨hc8,hf8⟩:=hcf8;have hz8:=hb8.size;(try simp at hz8);(try have hp8_0:=p0_ w w8);(try have hp8_1:=p1_ w w8);(try have hp8_2:=p2_ w w8);(try have hp8_3:=p3_ w w8)))
  have hby:Below w6.heap.size w6 w8:=by exact bel_
  clear hoQ hb7 hb8 hc7 hf7 hc8 hf8;have hz8':=hby.size;have hV8:=hV6.below hby hV6.lt;have hW8:=hW6.below hby hW6.lt;have hX8:=hX6.below hby hX6.lt;have hG8:=hG6.below hby hG6.lt;have hoW8:=hoW6.kept hby
  have hoX8:=hoX6.kept hby
  have hoG8:=hoG6.kept hby
  have hbw8:=hbw6.trans (hby.mono hbw6.size);clear hV6 hW6 hX6 hG6 hoW6 hoX6 hoG6 hbw6 hby hd6 hx6 vb_0 vb_1 vb_2 vb_3 vb_4 vb_5 vb_6 vb_7 xb_0 xb_1 xb_2 xb_3 xb_4 xb_5 xb_6 xb_7 vlt xlt;obtain⟨xb_0,xb_1,xb_2,xb_3,xb_4,xb_5,xb_6,xb_7⟩:=hX8.c8;have xlt:=hX8.lt
  go_wp2_with fail
  refine(vZ _ _ _ _ _ _ _ _ S xfs 1 _ hoX8 (by omega) (by omega)).mono ?_
  rintro e w9 ⟨rfl,_,ht9⟩;have hV9:=hV8.turned ht9 (fun hk=>by have:=lX _ hk;omega);have hW9:=hW8.turned ht9 (fun hk=>by have:=lX _ hk;omega);have hX9:=hX8.turned ht9 (fun hk=>by have:=lX _ hk;omega);have hG9:=hG8.turned ht9 (fun hk=>by have:=lX _ hk;omega);have hoW9:=hoW8.turned ht9 (fun k hk hk'=>by have:=lW k hk;have:=lX k hk';omega);have hoG9:=hoG8.turned ht9 (fun k hk hk'=>by have:=lG k hk;have:=lX k hk';omega);have hbw9:=hbw8.trans (ht9.below (fun k hk=>by have:=lX k hk;omega) hbw8.size);clear hV8 hW8 hX8 hG8 hoW8 hoX8 hoG8 hbw8 ht9 xb_0 xb_1 xb_2 xb_3 xb_4 xb_5 xb_6 xb_7 xlt;clear hX9;obtain⟨wb_0,wb_1,wb_2,wb_3,wb_4,wb_5,wb_6,wb_7⟩:=hW9.c8;obtain⟨gb_0,gb_1,gb_2,gb_3,gb_4,gb_5,gb_6,gb_7⟩:=hG9.c8;have wlt:=hW9.lt;have glt:=hG9.lt
  go_wp2_with fail
  refine(yn _ _ _ _ _ _ _ _ _ _ _ _ _ _ E _ hoG9.reads hoW9.reads).mono ?_
  rintro e w10 ⟨rfl,hb10⟩;have hz10:=hb10.size;have hV10:=hV9.below hb10 hV9.lt;have hW10:=hW9.below hb10 hW9.lt;have hG10:=hG9.below hb10 hG9.lt;have hoW10:=hoW9.kept hb10;have hoG10:=hoG9.kept hb10;have hbw10:=hbw9.trans (hb10.mono hbw9.size);clear hV9 hW9 hG9 hoW9 hoG9 hbw9 hb10 wb_0 wb_1 wb_2 wb_3 wb_4 wb_5 wb_6 wb_7 gb_0 gb_1 gb_2 gb_3 gb_4 gb_5 gb_6 gb_7 wlt glt;obtain⟨gb_0,gb_1,gb_2,gb_3,gb_4,gb_5,gb_6,gb_7⟩:=hG10.c8;have glt:=hG10.lt
  go_wp2_with fail
  refine(vZ _ _ _ _ _ _ _ _ E gfs 1 _ hoG10 (by omega) (by omega)).mono ?_
  rintro e w11 ⟨rfl,hoM11,ht11⟩;have hV11:=hV10.turned ht11 (fun hk=>by have:=lG _ hk;omega);have hW11:=hW10.turned ht11 (fun hk=>by have:=lG _ hk;omega);have hG11:=hG10.turned ht11 (fun hk=>by have:=lG _ hk;omega);have hoW11:=hoW10.turned ht11 (fun k hk hk'=>by have:=lW k hk;have:=lG k hk';omega);have hbw11:=hbw10.trans (ht11.below (fun k hk=>by have:=lG k hk;omega) hbw10.size);clear hV10 hW10 hG10 hoW10 hoG10 hbw10 ht11 gb_0 gb_1 gb_2 gb_3 gb_4 gb_5 gb_6 gb_7 glt;obtain⟨gb_0,gb_1,gb_2,gb_3,gb_4,gb_5,gb_6,gb_7⟩:=hG11.c8;have glt:=hG11.lt
  go_wp2_with fail
  refine(kZ _ _ _ _ _ _ _ E 1 _ hoM11.reads (by omega) (by omega)).mono ?_
  rintro e w12 ⟨rfl,hb12⟩;have hz12:=hb12.size;have hV12:=hV11.below hb12 hV11.lt;have hW12:=hW11.below hb12 hW11.lt;have hG12:=hG11.below hb12 hG11.lt;have hoW12:=hoW11.kept hb12;have hoM12:=hoM11.kept hb12;have hbw12:=hbw11.trans (hb12.mono hbw11.size);clear hV11 hW11 hG11 hoW11 hoM11 hbw11 hb12 gb_0 gb_1 gb_2 gb_3 gb_4 gb_5 gb_6 gb_7 glt;obtain⟨vb_0,vb_1,vb_2,vb_3,vb_4,vb_5,vb_6,vb_7⟩:=hV12.c8;have vlt:=hV12.lt
  go_wp2_with fail
  refine(yk _ _ _ _ _ _ _ S _ (h.below hbw12) HLE.out).mono ?_
  rintro e w13 ⟨T0,tc0,T1,tc1,T2,tc2,T3,tc3,T4,tc4,T5,tc5,T6,tc6,tfs,rfl,hoT,hb13⟩;have hz13:=hb13.size;have hV13:=hV12.below hb13 hV12.lt;have hW13:=hW12.below hb13 hW12.lt;have hG13:=hG12.below hb13 hG12.lt;have hoW13:=hoW12.kept hb13;have hoM13:=hoM12.kept hb13;have hbw13:=hbw12.trans (hb13.mono hbw12.size);clear hV12 hW12 hG12 hoW12 hoM12 hbw12 hb13 vb_0 vb_1 vb_2 vb_3 vb_4 vb_5 vb_6 vb_7 vlt
  go_wp2_with fail
  refine(kV _ _ _ _ _ _ _ S pl pm _ hoT.reads HLE.out).mono ?_
  rw[HE.out,HB.out];rintro e w14 ⟨H0,hc0,H1,hc1,H2,hc2,H3,hc3,H4,hc4,H5,hc5,H6,hc6,hfs,rfl,hoH,hb14⟩;have hz14:=hb14.size;have hV14:=hV13.below hb14 hV13.lt;have hW14:=hW13.below hb14 hW13.lt;have hG14:=hG13.below hb14 hG13.lt;have hoW14:=hoW13.kept hb14;have hoM14:=hoM13.kept hb14;have hbw14:=hbw13.trans (hb14.mono hbw13.size);clear hV13 hW13 hG13 hoW13 hoM13 hbw13 hb14 hoT;obtain⟨wb_0,wb_1,wb_2,wb_3,wb_4,wb_5,wb_6,wb_7⟩:=hW14.c8;have wlt:=hW14.lt
  go_wp2_with fail
  have hbx:Below w14.heap.size w14 (w14.alloc (.cells #[.slice H0 E.D.fn.length hc0,.slice H1 E.D.fl.length hc1,.slice H2 E.D.nn.length hc2,.slice H3 E.D.nl.length hc3,.slice H4 E.D.ss.length hc4,.slice H5 E.cs.length hc5,.slice H6 E.ds.length hc6,.int .i64 E.fund] 34)):=by exact bel_
  refine(yn _ _ _ _ _ _ _ _ _ _ _ _ _ _ E _ (hoH.reads.below hbx) (hoW14.reads.below hbx)).mono ?_
  rintro e w15 ⟨rfl,hb15⟩;have hby:=hbx.trans (hb15.mono hbx.size);have hz15:=hby.size;have hV15:=hV14.below hby hV14.lt;have hW15:=hW14.below hby hW14.lt;have hG15:=hG14.below hby hG14.lt;have hoW15:=hoW14.kept hby
  have hoM15:=hoM14.kept hby
  have hbw15:=hbw14.trans (hby.mono hbw14.size);clear hV14 hW14 hG14 hoW14 hoM14 hbw14 hby wb_0 wb_1 wb_2 wb_3 wb_4 wb_5 wb_6 wb_7 wlt hb15 hbx hoH;obtain⟨gb_0,gb_1,gb_2,gb_3,gb_4,gb_5,gb_6,gb_7⟩:=hG15.c8;have glt:=hG15.lt
  go_wp2_with fail
  refine(kZ _ _ _ _ _ _ _ E 1 _ hoM15.reads (by omega) (by omega)).mono ?_
  rintro e w16 ⟨rfl,hb16⟩;have hbw16:=hbw15.trans (hb16.mono hbw15.size);clear hb16 hV15 hW15 hG15 hoW15 hoM15 hbw15 gb_0 gb_1 gb_2 gb_3 gb_4 gb_5 gb_6 gb_7 glt;go_wp2;go_ret
  exact⟨rfl,hbw16⟩
end Go.Proofs.YtnjcpljhmhdhkaaGreat
