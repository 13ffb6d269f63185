/- part 17 -/
import Derived.Test.YtnjcpljhmhdhkaaGreatTPk15
import Derived.Test.YtnjcpljhmhdhkaaGreatTPk16
set_option linter.unusedSimpArgs false
set_option linter.unusedVariables false
set_option maxRecDepth 100000
set_option maxHeartbeats 8000000
namespace Go.Proofs.YtnjcpljhmhdhkaaGreat
open Go.RowKit
attribute [local go_sem ↓] zu zw zY zZ
noncomputable def joinX (ls:List Pr) (k:Int) (p q:Nat):Pr:=(mn2 (othI (ndI ls p) k) (othI (ndI ls q) k),mx2 (othI (ndI ls p) k) (othI (ndI ls q) k))
noncomputable def JR (ls:List Pr) (k:Int):List Pr:=match atN ls k ls.length with
 | [p,q]=>(ls.set p (joinX ls k p q)).take q++(ls.set p (joinX ls k p q)).drop (q+1)
 |_=>ls
noncomputable def kc (ns:List Pr) (k:Int):List Pr:=nwo ns k ns.length
noncomputable def kf (ls:List Pr) (k:Int):List Pr:=lwo (JR ls k) k (JR ls k).length
noncomputable def qK (ns ls:List Pr) (k:Int):Bool:=zJ ns ls k&&winB (kc ns k) (kf ls k)
noncomputable def q9 (ns ls:List Pr) (k:Int):List Pr:=if qK ns ls k then kc ns k else ns
noncomputable def qa (ns ls:List Pr) (k:Int):List Pr:=if qK ns ls k then kf ls k else ls
theorem z1H (w:World) (p p':Addr) (u u':Value) (h:p'.block=p.block):w.grownBy ((w.setCell p u).setCell p' u') (some p.block):=
 ⟨rfl,rfl,rfl,by simp[World.setCell],fun i hi hne=>(Below.heap_setCell _ p' u' i (fun e=>hne (by rw[e,h]))).trans (Below.heap_setCell w p u i (fun e=>hne (by rw[e])))⟩
theorem xZ (vn vl:Value) (ns ls:List Pr) (k:Int) (b:Bool) (w:World) (hn:RP w vn ns) (hl:RP w vl ls) (hb:zJ ns ls k=b):
  Calls Tryz.prog 216 #[.agg #[vn,vl],.int .i64 k] w fun e w'=>e= .returned (.bool b)∧Below w.heap.size w w':=by
 subst hb;exact Jr vn vl ns ls k w hn hl
theorem z4i (vn vl:Value) (ns ls:List Pr) (k:Int) (w:World) (hn:RP w vn ns) (hl:RP w vl ls) (h1:ns.length≤1048576) (h2:ls.length≤1048576) (hw:zJ ns ls k=false):
  Calls Tryz.prog 163 #[.agg #[vn,vl],.int .i64 k] w (zC ns ls false w):=by
 go_enter Tryz.func163,Tryz.ntmps163
 go_wp2_with fail
 refine(qf _ _ ns ls _ (hn.below (by exact bel_)) (hl.below (by exact bel_)) h1 h2).mono ?_
 rintro e w1 ⟨An1,cn1,Al1,cl1,rfl,ho1,hb1⟩;have hz1:=hb1.size;simp at hz1
 have ho1':OwnW (w.heap.size+1+1) w1 (.slice An1 ns.length cn1) (.slice Al1 ls.length cl1) ns ls:=by simpa using ho1
 have hA1:Blk w1 w.heap.size 27 #[vn,vl]:=Blk.below ((Blk.newAt rfl).alloc _) hb1 sz_;have hR1:Blk w1 (w.heap.size+1) 27 #[.slice none 0 0,.slice none 0 0]:=Blk.below (Blk.newAt (by simp)) hb1 sz_;have hbw1:Below w.heap.size w w1:=by exact bel_
 clear hb1 ho1;have n1:w.heap.size<w1.heap.size:=by omega
 have n2:w.heap.size+1<w1.heap.size:=by omega
 obtain⟨a_0,a_1⟩:=hA1.c2;have hbs:Below w1.heap.size w1 (w1.alloc (.cells #[.slice An1 ns.length cn1,.slice Al1 ls.length cl1] 27)):=by exact bel_
 have hbws:Below w.heap.size w (w1.alloc (.cells #[.slice An1 ns.length cn1,.slice Al1 ls.length cl1] 27)):=by exact bel_
 go_wp2_with fail
 refine(xZ _ _ ns ls _ _ _ (hn.below hbws) (hl.below hbws) hw).mono ?_
 rintro e w2 ⟨rfl,hb2⟩;(first|(with_reducible have hcf2:=z8 hb2)|have hcf2:=bcell hb2);obtain⟨hc2,hf2⟩:=hcf2;have hz2:=hb2.size;(try simp at hz2);(try have hp2_0:=p0_ w w2);(try have hp2_1:=p1_ w w2);(try have hp2_2:=p2_ w w2);(try have hp2_3:=p3_ w w2)
 have hb12:Below w1.heap.size w1 w2:=hbs.trans (hb2.mono hbs.size);have hS2:Blk w2 w1.heap.size 27 #[.slice An1 ns.length cn1,.slice Al1 ls.length cl1]:=Blk.below (Blk.newAt rfl) hb2 sz_;have hR2:=hR1.below hb12 n2;have ho2:=ho1'.kept hb12;have hbw2:Below w.heap.size w w2:=hbw1.trans (hb12.mono hbw1.size);clear hb2 hc2 hf2 hbs hbws hb12 hA1 hR1 ho1' hbw1 a_0 a_1;obtain⟨s_0,s_1,s_f0,s_f1⟩:=hS2.b2;obtain⟨r_0,r_1,r_f0,r_f1⟩:=hR2.b2;have hne:¬w1.heap.size=w.heap.size+1:=by omega
 have hO:=Lib.hid (((ho2.setLow (p:=⟨w.heap.size+1,0,none⟩) sz_ (.slice An1 ns.length cn1)).setLow (p:=⟨w.heap.size+1,1,none⟩) sz_ (.slice Al1 ls.length cl1)).mono (show w.heap.size≤_ by omega));have HB:=Lib.hid ((hbw2.setCell (p:=⟨w.heap.size+1,0,none⟩) sz_ (.slice An1 ns.length cn1)).setCell (p:=⟨w.heap.size+1,1,none⟩) sz_ (.slice Al1 ls.length cl1));clear ho2 hbw2;generalize w1.heap.size=B1 at*;go_wp2;exact bodyPost_ret (v:= .tuple #[.agg #[.slice An1 ns.length cn1,.slice Al1 ls.length cl1],.bool false]) (by simp[results,Tryz.results163,go_sem,r_0,r_1,s_0,s_1]) rfl ⟨_,_,_,_,rfl,hO.out,HB.out⟩
theorem z2X (vn vl:Value) (ns ls:List Pr) (m p q t u:Nat) (w:World) (hn:RP w vn ns) (hl:RP w vl ls) (h1:ns.length≤1048576) (h2:ls.length≤1048576) (hw:zJ ns ls m=true) (hk:hasN ns ls m=true)
  (eG:atN ls m ls.length=[p,q]) (hp:p<ls.length) (hq:q<ls.length) (eE:y8 ls m (atN ls m ls.length)=[(t:Int),(u:Int)])
  (hbd:∀j:Nat,j<((ls.set p (mn2 (t:Int) u,mx2 (t:Int) u)).take q++(ls.set p (mn2 (t:Int) u,mx2 (t:Int) u)).drop (q+1)).length →(-1000000≤(ndI ((ls.set p (mn2 (t:Int) u,mx2 (t:Int) u)).take q++(ls.set p (mn2 (t:Int) u,mx2 (t:Int) u)).drop (q+1)) j).1∧(ndI ((ls.set p (mn2 (t:Int) u,mx2 (t:Int) u)).take q++(ls.set p (mn2 (t:Int) u,mx2 (t:Int) u)).drop (q+1)) j).1≤1000000)∧(-1000000≤(ndI ((ls.set p (mn2 (t:Int) u,mx2 (t:Int) u)).take q++(ls.set p (mn2 (t:Int) u,mx2 (t:Int) u)).drop (q+1)) j).2∧(ndI ((ls.set p (mn2 (t:Int) u,mx2 (t:Int) u)).take q++(ls.set p (mn2 (t:Int) u,mx2 (t:Int) u)).drop (q+1)) j).2≤1000000)):
  Calls Tryz.prog 163 #[.agg #[vn,vl],.int .i64 m] w (fun e w'=>zC (q9 ns ls m) (qa ns ls m) (qK ns ls m) w e w'):=by
 obtain⟨j0,hj,jz0,jz1,jz2⟩:=info_parts qC;have HEND:=Lib.hid eE;have HAT:=Lib.hid eG;clear eE eG
 go_enter Tryz.func163,Tryz.ntmps163
 go_wp2_with fail
 refine(qf _ _ ns ls _ (hn.below (by exact bel_)) (hl.below (by exact bel_)) h1 h2).mono ?_
 rintro e w1 ⟨An1,cn1,Al1,cl1,rfl,ho1,hb1⟩;have hz1:=hb1.size;simp at hz1
 have ho1':OwnW (w.heap.size+1+1) w1 (.slice An1 ns.length cn1) (.slice Al1 ls.length cl1) ns ls:=by simpa using ho1
 have hlt1:=ho1'.lt;have hA1:Blk w1 w.heap.size 27 #[vn,vl]:=Blk.below ((Blk.newAt rfl).alloc _) hb1 sz_;have hR1:Blk w1 (w.heap.size+1) 27 #[.slice none 0 0,.slice none 0 0]:=Blk.below (Blk.newAt (by simp)) hb1 sz_;have hbw1:Below w.heap.size w w1:=by exact bel_
 clear hb1 ho1;have n1:w.heap.size<w1.heap.size:=by omega
 have n2:w.heap.size+1<w1.heap.size:=by omega
 obtain⟨a_0,a_1⟩:=hA1.c2;have hbs:Below w1.heap.size w1 (w1.alloc (.cells #[.slice An1 ns.length cn1,.slice Al1 ls.length cl1] 27)):=by exact bel_
 have hbws:Below w.heap.size w (w1.alloc (.cells #[.slice An1 ns.length cn1,.slice Al1 ls.length cl1] 27)):=by exact bel_
 go_wp2_with fail
 refine(xZ _ _ ns ls _ _ _ (hn.below hbws) (hl.below hbws) hw).mono ?_
 rintro e w2 ⟨rfl,hb2⟩;(first|(with_reducible have hcf2:=z8 hb2)|have hcf2:=bcell hb2);obtain⟨hc2,hf2⟩:=hcf2;have hz2:=hb2.size;(try simp at hz2);(try have hp2_0:=p0_ w w2);(try have hp2_1:=p1_ w w2);(try have hp2_2:=p2_ w w2);(try have hp2_3:=p3_ w w2)
 have hb12:Below w1.heap.size w1 w2:=hbs.trans (hb2.mono hbs.size);have hS2:Blk w2 w1.heap.size 27 #[.slice An1 ns.length cn1,.slice Al1 ls.length cl1]:=Blk.below (Blk.newAt rfl) hb2 sz_;have hR2:=hR1.below hb12 n2;have hA2:=hA1.below hb12 n1;have ho2:=ho1'.kept hb12;have hbw2:Below w.heap.size w w2:=hbw1.trans (hb12.mono hbw1.size);clear hb2 hc2 hf2 hbs hbws hb12 hA1 hR1 ho1' hbw1 a_0 a_1;have n1:w.heap.size<w2.heap.size:=hA2.lt;have n3:w1.heap.size<w2.heap.size:=hS2.lt;obtain⟨a_0,a_1⟩:=hA2.c2
 go_wp2_with fail
 refine(Vn _ _ ns ls _ _ (hn.below hbw2) (hl.below hbw2) hk).mono ?_
 rw[HEND.out];rintro e w3 ⟨v3,rfl,ho3,hb3⟩;have hz3:=hb3.size;have hA3:=hA2.below hb3 n1;have hR3:=hR2.below hb3 hR2.lt;have hS3:=hS2.below hb3 n3;have how3:=ho2.kept hb3;have hbw3:=hbw2.trans (hb3.mono hbw2.size);obtain⟨A3,c3,e3,hc3,_,hcell3⟩:=ho3.reads.form;subst e3;obtain⟨b3,o3,rfl,hb3',hcl3⟩:=hcell3 (by simp);have x0:=hcl3 0 (by simp);have x1:=hcl3 1 (by simp);simp only[List.getD_cons_zero,List.getD_cons_succ,Nat.add_zero,List.length_cons,List.length_nil,Nat.zero_add] at x0 x1 hc3
 clear hcell3 hcl3 hb3 hA2 hR2 hS2 ho2 hbw2 a_0 a_1 ho3;obtain⟨a_0,a_1⟩:=hA3.c2;have n1:w.heap.size<w3.heap.size:=hA3.lt
 go_wp2_with fail
 refine(vC _ _ ns ls _ _ (hn.below hbw3) (hl.below hbw3) hk).mono ?_
 rw[HAT.out];rintro e w4 ⟨v4,rfl,ho4,hb4⟩;have hz4:=hb4.size;have hA4:=hA3.below hb4 n1;have hR4:=hR3.below hb4 hR3.lt;have hS4:=hS3.below hb4 hS3.lt;have how4:=how3.kept hb4;have hbw4:=hbw3.trans (hb4.mono hbw3.size);have x0':=(hb4.cell (p:=⟨b3,o3,none⟩) hb3').trans x0;have x1':=(hb4.cell (p:=⟨b3,o3+1,none⟩) hb3').trans x1;obtain⟨A4,c4,e4,hc4,_,hcell4⟩:=ho4.reads.form;subst e4;obtain⟨b4,o4,rfl,hb4',hcl4⟩:=hcell4 (by simp[natI]);have y0:=hcl4 0 (by simp[natI]);have y1:=hcl4 1 (by simp[natI]);simp only[natI,List.map_cons,List.map_nil,List.getD_cons_zero,List.getD_cons_succ,Nat.add_zero,List.length_cons,List.length_nil,Nat.zero_add] at y0 y1 hc4
 clear hcell4 hcl4 hb4 hA3 hR3 hS3 how3 hbw3 a_0 a_1 ho4 x0 x1;have hb3'':b3<w4.heap.size:=by omega
 obtain⟨a_0,a_1⟩:=hA4.c2;have n1:w.heap.size<w4.heap.size:=hA4.lt
 go_wp2_with fail
 rw[show(natI [p,q]).length =2 from rfl];refine(qf _ _ ns ls _ (hn.below hbw4) (hl.below hbw4) h1 h2).mono ?_
 rintro e w5 ⟨An5,cn5,Al5,cl5,rfl,ho5,hb5⟩;have hz5:=hb5.size;have hA5:=hA4.below hb5 n1;have hR5:=hR4.below hb5 hR4.lt;have hS5:=hS4.below hb5 hS4.lt;have how5:=how4.kept hb5;have hbw5:=hbw4.trans (hb5.mono hbw4.size);have x0:=(hb5.cell (p:=⟨b3,o3,none⟩) hb3'').trans x0';have x1:=(hb5.cell (p:=⟨b3,o3+1,none⟩) hb3'').trans x1';have y0':=(hb5.cell (p:=⟨b4,o4,none⟩) hb4').trans y0;have y1':=(hb5.cell (p:=⟨b4,o4+1,none⟩) hb4').trans y1
 rcases hcase:ho5.2.1.2 with ⟨_,h0⟩|⟨g,cap,cur,e1,hbg,hh,hnc,hcm,hrest⟩
 ·omega
 cases e1
 clear hcase hh hrest cur hcm;have hlt5:=ho5.lt;clear hb5 hA4 hR4 hS4 how4 hbw4 a_0 a_1 x0' x1' y0 y1;have n1:w.heap.size<w5.heap.size:=hA5.lt;have n2:w.heap.size+1<w5.heap.size:=hR5.lt;have n3:w1.heap.size<w5.heap.size:=hS5.lt;have hb3''':b3<w5.heap.size:=by omega
 have hb4''':b4<w5.heap.size:=by omega
 obtain⟨hgw4,hgw5⟩:=hlt5 g (.inr rfl);have g1:¬b3=g:=by omega
 have g2:¬b4=g:=by omega
 have g3:¬w5.heap.size=g:=by omega
 have g4:¬g=w5.heap.size:=by omega
 have c1:(0:Int)≤(p:Int):=by omega
 have c2:(p:Int)<(ls.length:Int):=by omega
 go_wp2_with fail
 obtain⟨w6,hw6⟩:∃w6,w6=w5.alloc (.cells #[.slice An5 ns.length cn5,.slice (some ⟨g,0,none⟩) ls.length cl5] 27):=⟨_,rfl⟩;have hz6:w6.heap.size=w5.heap.size+1:=by rw[hw6];simp
 have hA6:Blk w6 _ _ _:=hw6▸hA5.alloc _;have hR6:Blk w6 _ _ _:=hw6▸hR5.alloc _;have hS6:Blk w6 _ _ _:=hw6▸hS5.alloc _;have hO6:Blk w6 w5.heap.size 27 #[.slice An5 ns.length cn5,.slice (some ⟨g,0,none⟩) ls.length cl5]:=hw6▸Blk.newAt rfl;have how6:=hw6▸how5.alloc (.cells #[.slice An5 ns.length cn5,.slice (some ⟨g,0,none⟩) ls.length cl5] 27);have ho6:=hw6▸ho5.alloc (.cells #[.slice An5 ns.length cn5,.slice (some ⟨g,0,none⟩) ls.length cl5] 27);have hb56:Below w5.heap.size w5 w6:=by rw[hw6];exact bel_
 have hbw6:=hbw5.trans (hb56.mono hbw5.size);have x0':=(hb56.cell (p:=⟨b3,o3,none⟩) hb3''').trans x0;have x1':=(hb56.cell (p:=⟨b3,o3+1,none⟩) hb3''').trans x1;have y0:=(hb56.cell (p:=⟨b4,o4,none⟩) hb4''').trans y0';have y1:=(hb56.cell (p:=⟨b4,o4+1,none⟩) hb4''').trans y1';rw[←hw6];clear hw6 hb56 hA5 hR5 hS5 how5 ho5 hbw5 x0 x1 y0' y1';have n1:w.heap.size<w6.heap.size:=hA6.lt;have n2:w.heap.size+1<w6.heap.size:=hR6.lt;have n3:w1.heap.size<w6.heap.size:=hS6.lt;have n5:w5.heap.size<w6.heap.size:=hO6.lt;have m1:b3<w6.heap.size:=by omega
 have m2:b4<w6.heap.size:=by omega
 obtain⟨d0,d1⟩:=ho6.2.1.cell hp;have d2:=ho6.2.1.frz (p*2);have d3:=ho6.2.1.frz (p*2+1);obtain⟨o_0,o_1,o_f0,o_f1⟩:=hO6.b2
 go_still_tail 21,(by kernel_rfl)
 change wpList _ _ _ _ _ w6.drew
 have HD:=Lib.hid (ho6.2.1.drew.set_ hp (mn2 (t:Int) u) (mx2 (t:Int) u));obtain⟨w7,hw7⟩:∃w7,w7=((w6.setCell ⟨g,p*2,none⟩ (.int .i64 (mn2 (t:Int) u))).setCell ⟨g,p*2+1,none⟩ (.int .i64 (mx2 (t:Int) u))).drew :=⟨_,rfl⟩;have hz7:w7.heap.size=w6.heap.size:=by rw[hw7];simp
 have hg7:w6.drew.grownBy w7 (some g):=hw7▸(show w6.drew.grownBy (((w6.setCell ⟨g,p*2,none⟩ (.int .i64 (mn2 (t:Int) u))).setCell ⟨g,p*2+1,none⟩ (.int .i64 (mx2 (t:Int) u))).drew) (some g) from z1H w6.drew ⟨g,p*2,none⟩ ⟨g,p*2+1,none⟩ _ _ rfl);have hA7:=hA6.drew.grownR hg7 (fun b hb=>by cases hb;omega);have hR7:=hR6.drew.grownR hg7 (fun b hb=>by cases hb;omega);have hS7:=hS6.drew.grownR hg7 (fun b hb=>by cases hb;omega);have hO7:=hO6.drew.grownR hg7 (fun b hb=>by cases hb;omega);have how7:=OwnW.apart (w:=w6.drew) how6 hg7 (fun b hb e=>by cases e;have:=(hlt1 _ hb).2;omega);have hon7:=OwnP.apart (w:=w6.drew) ho6.1 hg7 (fun b hb e=>by cases e;exact ho6.2.2 _ hb rfl);have hap7:=ho6.2.2;have hAn5:∀b,(Value.slice An5 ns.length cn5).ownBlock =some b→b=w5.heap.size→False:=fun b hb e=>by have:=(hlt5 b (.inl hb)).2;omega
 have hol7:OwnP 108 w4.heap.size w7 (.slice (some ⟨g,0,none⟩) ls.length cl5) (ls.set p (mn2 (t:Int) u,mx2 (t:Int) u)):=hw7▸(show OwnP 108 w4.heap.size (((w6.setCell ⟨g,p*2,none⟩ (.int .i64 (mn2 (t:Int) u))).setCell ⟨g,p*2+1,none⟩ (.int .i64 (mx2 (t:Int) u))).drew) _ _ from HD.out);have hbw7:Below w.heap.size w w7:=(Below.drew hbw6).grown hg7 (by have:=hbw6.size;simpa using this) (fun b e=>by cases e;omega);have y1':=World.grownBy.cell hg7 (a:=⟨b4,o4+1,none⟩) (show w6.drew.cell? _=_ from y1) (fun e=>g2 (by cases e;rfl));have HW7:=Lib.hid hw7;clear hw7 HD hg7 hA6 hR6 hS6 hO6 ho6 how6 hbw6 x0' x1' y0 y1 o_0 o_1 o_f0 o_f1
 go_upto_region 8 with (fail)
 rw[←HW7.out];clear HW7;obtain⟨o_0,o_1,o_f0,o_f1⟩:=hO7.b2
 have HE:Hid (joinX ls m p q=(mn2 (t:Int) u,mx2 (t:Int) u)):=Lib.hid (by
  have:=HEND.out;rw[HAT.out] at this;simp[y8] at this
  simp[joinX,this.1,this.2])
 have hL1:(ls.set p (mn2 (t:Int) u,mx2 (t:Int) u)).length =ls.length:=by simp
 obtain⟨L1,HL1⟩:∃L1,L1=ls.set p (mn2 (t:Int) u,mx2 (t:Int) u):=⟨_,rfl⟩;rw[←HL1] at hL1 hol7;have HL1':=Lib.hid HL1;clear HL1;have hq1:q<L1.length:=by omega
 have hll:Hid ((L1.take q++L1.drop (q+1)).length =ls.length -1):=Lib.hid (by simp;omega)
 go_cut [9] (fun s9 wx=>s9= .pointer (some ⟨w5.heap.size,0,none⟩)∧Blk wx w.heap.size 27 #[vn,vl]∧Blk wx (w.heap.size+1) 27 #[.slice none 0 0,.slice none 0 0]∧
   Blk wx w1.heap.size 27 #[.slice An1 ns.length cn1,.slice Al1 ls.length cl1]∧Blk wx w5.heap.size 27 #[.slice An5 ns.length cn5,.slice (some ⟨g,0,none⟩) (ls.length -1) cl5]∧
   OwnW (w.heap.size+1+1) wx (.slice An1 ns.length cn1) (.slice Al1 ls.length cl1) ns ls∧OwnW w4.heap.size wx (.slice An5 ns.length cn5) (.slice (some ⟨g,0,none⟩) (ls.length -1) cl5) ns (L1.take q++L1.drop (q+1))∧
   Below w.heap.size w wx∧w6.heap.size≤wx.heap.size)
 case first=>
  have c1:(q:Int)≤((cl5:Nat):Int):=by omega
  have c2:(0:Int)≤(q:Int):=by omega
  have c3:(q:Int)+1≤(ls.length:Int):=by omega
  have c4:(ls.length:Int)≤((cl5:Nat):Int):=by omega
  have hwr:IntKind.i64.wrap ((q:Int)+1)=(q:Int)+1:=IntWalk.i64_in _ (by omega);have c5:(0:Int)≤(q:Int)+1:=by omega
  have c6:((q:Int)+1).toNat =q+1:=by omega
  have c7:¬(ls.length:Int)<(q:Int)+1:=by omega
  have c8:¬(q:Int)+1<0:=by omega
  by_cases hck:cl5=q+1
  ·subst hck
   have c1':(q:Int)≤(q:Int)+1:=by omega
   have c4':(ls.length:Int)≤(q:Int)+1:=by omega
   have c9:¬(q:Int)+1<(q:Int):=by omega
   have c10:¬(q:Int)+1<(ls.length:Int):=by omega
   go_still_tail 13,(by kernel_rfl)
   have hol7':OwnP 108 w4.heap.size w7.drew (.slice (some ⟨g,0,none⟩) L1.length (q+1)) L1:=by rw[hL1];exact hol7.drew
   have HOL:=Lib.hid hol7';clear hol7 hol7'
   go_wp2_with (at_builtin;refine ji (c2:=0) rfl _ _ _ rfl w4.heap.size 108 j0 Tryz.underlying25 hj jz1 g (q+1) L1 q rfl (by rw[if_pos rfl,hL1];rw[show ls.length -(q+1)=0 by omega];rfl) HOL.out hq1 ?_)
   intro w8 hcut hgr;have hO8:=hO7.drew.grownR hgr (fun b hb=>by cases hb;omega);have hA8:=(hA7.drew.grownR hgr (fun b hb=>by cases hb;omega)).far (p:=⟨w5.heap.size,1,none⟩) (show ¬w.heap.size=w5.heap.size by omega) (.slice (some ⟨g,0,none⟩) (ls.length -1) (q+1));have hR8:=(hR7.drew.grownR hgr (fun b hb=>by cases hb;omega)).far (p:=⟨w5.heap.size,1,none⟩) (show ¬w.heap.size+1=w5.heap.size by omega) (.slice (some ⟨g,0,none⟩) (ls.length -1) (q+1));have hS8:=(hS7.drew.grownR hgr (fun b hb=>by cases hb;omega)).far (p:=⟨w5.heap.size,1,none⟩) (show ¬w1.heap.size=w5.heap.size by omega) (.slice (some ⟨g,0,none⟩) (ls.length -1) (q+1));have how8:=(OwnW.apart (w:=w7.drew) how7 hgr (fun b hb e=>by cases e;have:=(hlt1 _ hb).2;omega)).setFar (p:=⟨w5.heap.size,1,none⟩) (fun h=>by have:=(hlt1 _ h).2;simp at this;omega) (.slice (some ⟨g,0,none⟩) (ls.length -1) (q+1));have hon8:=OwnP.apart (w:=w7.drew) hon7 hgr (fun b hb e=>by cases e;exact hap7 _ hb rfl);have hoW8:OwnW w4.heap.size w8 (.slice An5 ns.length cn5) (.slice (some ⟨g,0,none⟩) (ls.length -1) (q+1)) ns (L1.take q++L1.drop (q+1)):=⟨hon8,hcut,fun b hb hb2=>hap7 b hb hb2⟩
   have hoW9:=hoW8.setFar (p:=⟨w5.heap.size,1,none⟩) (by
    rintro(h|h)
    ·exact hAn5 _ h rfl
    ·cases h;exact g3 rfl) (.slice (some ⟨g,0,none⟩) (ls.length -1) (q+1))
   have hz8:=hgr.size;have hb8:Below w.heap.size w w8:=(Below.drew hbw7).grown hgr (by have:=hbw7.size;simpa using this) (fun b e=>by cases e;omega);have hb9:=hb8.setCell (p:=⟨w5.heap.size,1,none⟩) (show w.heap.size≤w5.heap.size by omega) (.slice (some ⟨g,0,none⟩) (ls.length -1) (q+1));have hO9:Blk (w8.setCell ⟨w5.heap.size,1,none⟩ (.slice (some ⟨g,0,none⟩) (ls.length -1) (q+1))) w5.heap.size 27 #[.slice An5 ns.length cn5,.slice (some ⟨g,0,none⟩) (ls.length -1) (q+1)]:=hO8.set_ 1 _;have HZ:=Lib.hid (show w6.heap.size≤(w8.setCell ⟨w5.heap.size,1,none⟩ (.slice (some ⟨g,0,none⟩) (ls.length -1) (q+1))).heap.size by simp at hz8⊢;omega);have HALL:=Lib.hid (And.intro hA8 (And.intro hR8 (And.intro hS8 (And.intro hO9 (And.intro how8 (And.intro hoW9 hb9))))));clear hA8 hR8 hS8 hO9 how8 hoW8 hoW9 hb8 hb9 hon8 hcut hA7 hR7 hS7 hO7 how7 hon7 hbw7 o_0 o_1 o_f0 o_f1 y1' hgr;obtain⟨o_0,o_1,o_f0,o_f1⟩:=hO8.b2;go_wp2;go_meet
   obtain⟨f1,f2,f3,f4,f5,f6,f7⟩:=HALL.out;exact⟨rfl,f1,f2,f3,f4,f5,f6,f7,HZ.out⟩
  ·go_still_tail 13,(by kernel_rfl)
   have hol7':OwnP 108 w4.heap.size w7.drew (.slice (some ⟨g,0,none⟩) L1.length cl5) L1:=by rw[hL1];exact hol7.drew
   have HOL:=Lib.hid hol7';clear hol7 hol7'
   go_wp2_with (at_builtin;refine ji (c2:=cl5 -(q+1)) rfl _ _ _ rfl w4.heap.size 108 j0 Tryz.underlying25 hj jz1 g (cl5) L1 q rfl (by rw[if_neg hck,hL1];rfl) HOL.out hq1 ?_)
   intro w8 hcut hgr;have hO8:=hO7.drew.grownR hgr (fun b hb=>by cases hb;omega);have hA8:=(hA7.drew.grownR hgr (fun b hb=>by cases hb;omega)).far (p:=⟨w5.heap.size,1,none⟩) (show ¬w.heap.size=w5.heap.size by omega) (.slice (some ⟨g,0,none⟩) (ls.length -1) (cl5));have hR8:=(hR7.drew.grownR hgr (fun b hb=>by cases hb;omega)).far (p:=⟨w5.heap.size,1,none⟩) (show ¬w.heap.size+1=w5.heap.size by omega) (.slice (some ⟨g,0,none⟩) (ls.length -1) (cl5));have hS8:=(hS7.drew.grownR hgr (fun b hb=>by cases hb;omega)).far (p:=⟨w5.heap.size,1,none⟩) (show ¬w1.heap.size=w5.heap.size by omega) (.slice (some ⟨g,0,none⟩) (ls.length -1) (cl5));have how8:=(OwnW.apart (w:=w7.drew) how7 hgr (fun b hb e=>by cases e;have:=(hlt1 _ hb).2;omega)).setFar (p:=⟨w5.heap.size,1,none⟩) (fun h=>by have:=(hlt1 _ h).2;simp at this;omega) (.slice (some ⟨g,0,none⟩) (ls.length -1) (cl5));have hon8:=OwnP.apart (w:=w7.drew) hon7 hgr (fun b hb e=>by cases e;exact hap7 _ hb rfl);have hoW8:OwnW w4.heap.size w8 (.slice An5 ns.length cn5) (.slice (some ⟨g,0,none⟩) (ls.length -1) (cl5)) ns (L1.take q++L1.drop (q+1)):=⟨hon8,hcut,fun b hb hb2=>hap7 b hb hb2⟩
   have hoW9:=hoW8.setFar (p:=⟨w5.heap.size,1,none⟩) (by
    rintro(h|h)
    ·exact hAn5 _ h rfl
    ·cases h;exact g3 rfl) (.slice (some ⟨g,0,none⟩) (ls.length -1) (cl5))
   have hz8:=hgr.size;have hb8:Below w.heap.size w w8:=(Below.drew hbw7).grown hgr (by have:=hbw7.size;simpa using this) (fun b e=>by cases e;omega);have hb9:=hb8.setCell (p:=⟨w5.heap.size,1,none⟩) (show w.heap.size≤w5.heap.size by omega) (.slice (some ⟨g,0,none⟩) (ls.length -1) (cl5));have hO9:Blk (w8.setCell ⟨w5.heap.size,1,none⟩ (.slice (some ⟨g,0,none⟩) (ls.length -1) (cl5))) w5.heap.size 27 #[.slice An5 ns.length cn5,.slice (some ⟨g,0,none⟩) (ls.length -1) (cl5)]:=hO8.set_ 1 _;have HZ:=Lib.hid (show w6.heap.size≤(w8.setCell ⟨w5.heap.size,1,none⟩ (.slice (some ⟨g,0,none⟩) (ls.length -1) (cl5))).heap.size by simp at hz8⊢;omega);have HALL:=Lib.hid (And.intro hA8 (And.intro hR8 (And.intro hS8 (And.intro hO9 (And.intro how8 (And.intro hoW9 hb9))))));clear hA8 hR8 hS8 hO9 how8 hoW8 hoW9 hb8 hb9 hon8 hcut hA7 hR7 hS7 hO7 how7 hon7 hbw7 o_0 o_1 o_f0 o_f1 y1' hgr;obtain⟨o_0,o_1,o_f0,o_f1⟩:=hO8.b2;go_wp2;go_meet
   obtain⟨f1,f2,f3,f4,f5,f6,f7⟩:=HALL.out;exact⟨rfl,f1,f2,f3,f4,f5,f6,f7,HZ.out⟩
 case rest=>
  obtain⟨rfl,hA,hR,hS,hO,how,hoW,hbw,hzz⟩:=hcut;obtain⟨w8,hw8⟩:∃w8:World,w8=wc:=⟨_,rfl⟩;subst hw8;clear hA7 hR7 hS7 hO7 how7 hon7 hbw7 o_0 o_1 o_f0 o_f1 y1';have n1:w.heap.size<w8.heap.size:=hA.lt;have n2:w.heap.size+1<w8.heap.size:=hR.lt;have n3:w1.heap.size<w8.heap.size:=hS.lt;have n5:w5.heap.size<w8.heap.size:=hO.lt
  have HM:JR ls m=L1.take q++L1.drop (q+1):=by
   unfold JR;rw[HAT.out,HL1'.out];simp only[HE.out]
  have HCL:Hid (kf ls m=lwo (L1.take q++L1.drop (q+1)) m (L1.take q++L1.drop (q+1)).length):=Lib.hid (by unfold kf;rw[HM]);clear HM;rw[←HL1'.out] at hbd;obtain⟨L2,HL2⟩:∃L2,L2=L1.take q++L1.drop (q+1):=⟨_,rfl⟩;rw[←HL2] at hbd HCL hoW hll;clear HL2;have h2':L2.length≤1048576:=by have:=hll.out;omega
  obtain⟨bw,hbwe⟩:∃b,winB (kc ns m) (kf ls m)=b:=⟨_,rfl⟩;have HBW:=Lib.hid hbwe;have hC:winB (nwo ns m ns.length) (lwo L2 m L2.length)=bw:=by rw[←HCL.out];exact hbwe
  clear hbwe;obtain⟨o_0,o_1,o_f0,o_f1⟩:=hO.b2
  go_wp2_with fail
  refine(Xb _ _ ns L2 _ _ hoW.1.reads hoW.2.1.reads h1 h2' hbd).mono ?_
  rintro e w9 ⟨An9,cn9,Al9,cl9,rfl,ho9,hb9⟩;have hz9:=hb9.size;have hR9:=hR.below hb9 n2;have hS9:=hS.below hb9 n3;have hO9:=hO.below hb9 n5;have how9:=how.kept hb9;have hbw9:=hbw.trans (hb9.mono hbw.size);clear hb9 hA hR hS hO how hoW hbw o_0 o_1 o_f0 o_f1 hbd;obtain⟨N9,HN9⟩:∃N9,N9=nwo ns m ns.length:=⟨_,rfl⟩;obtain⟨L9,HL9⟩:∃L9,L9=lwo L2 m L2.length:=⟨_,rfl⟩;rw[←HN9,←HL9] at ho9 hC⊢;have HN9':=Lib.hid HN9;have HL9':=Lib.hid HL9;clear HN9 HL9;have e1:¬w.heap.size+1=w5.heap.size:=by omega
  have e2:¬w1.heap.size=w5.heap.size:=by omega
  have hR10:=(hR9.far (p:=⟨w5.heap.size,0,none⟩) e1 (.slice An9 N9.length cn9)).far (p:=⟨w5.heap.size,1,none⟩) e1 (.slice Al9 L9.length cl9);have hS10:=(hS9.far (p:=⟨w5.heap.size,0,none⟩) e2 (.slice An9 N9.length cn9)).far (p:=⟨w5.heap.size,1,none⟩) e2 (.slice Al9 L9.length cl9);have hO10:Blk ((w9.setCell ⟨w5.heap.size,0,none⟩ (.slice An9 N9.length cn9)).setCell ⟨w5.heap.size,1,none⟩ (.slice Al9 L9.length cl9)) w5.heap.size 27 #[.slice An9 N9.length cn9,.slice Al9 L9.length cl9]:=(hO9.set_ 0 _).set_ 1 _;have ho10:=(ho9.setLow (p:=⟨w5.heap.size,0,none⟩) n5 (.slice An9 N9.length cn9)).setLow (p:=⟨w5.heap.size,1,none⟩) n5 (.slice Al9 L9.length cl9);have how10:=(how9.setFar (p:=⟨w5.heap.size,0,none⟩) (fun h=>by have:=(hlt1 _ h).2;simp at this;omega) (.slice An9 N9.length cn9)).setFar (p:=⟨w5.heap.size,1,none⟩) (fun h=>by have:=(hlt1 _ h).2;simp at this;omega) (.slice Al9 L9.length cl9);have hbw10:=(hbw9.setCell (p:=⟨w5.heap.size,0,none⟩) (show w.heap.size≤w5.heap.size by omega) (.slice An9 N9.length cn9)).setCell (p:=⟨w5.heap.size,1,none⟩) (show w.heap.size≤w5.heap.size by omega) (.slice Al9 L9.length cl9);obtain⟨o_0,o_1,o_f0,o_f1⟩:=hO9.b2;clear hR9 hS9 hO9 how9 hbw9 ho9
  go_wp2_with fail
  refine(zP _ _ N9 L9 bw _ ho10.1.reads ho10.2.1.reads hC).mono ?_
  rintro e w11 ⟨rfl,hb11⟩;have hz11:=hb11.size;simp at hz11
  have hR11:=hR10.below hb11 hR10.lt;have hS11:=hS10.below hb11 hS10.lt;have hO11:=hO10.below hb11 hO10.lt;have how11:=how10.kept hb11;have ho11:=ho10.kept hb11;have hbw11:=hbw10.trans (hb11.mono hbw10.size);clear hR10 hS10 hO10 how10 ho10 hbw10 hb11 o_0 o_1 o_f0 o_f1;obtain⟨r_0,r_1,r_f0,r_f1⟩:=hR11.b2;obtain⟨s_0,s_1,s_f0,s_f1⟩:=hS11.b2;obtain⟨o_0,o_1,o_f0,o_f1⟩:=hO11.b2;have d1:¬w5.heap.size=w.heap.size+1:=by omega
  have d2:¬w1.heap.size=w.heap.size+1:=by omega
  cases bw
  ·have EB:qK ns ls m=false:=by unfold qK;rw[HBW.out,Bool.and_false]
   have EN:q9 ns ls m=ns:=by unfold q9;rw[EB];rfl
   have EL:qa ns ls m=ls:=by unfold qa;rw[EB];rfl
   have hOO:=Lib.hid (((how11.setLow (p:=⟨w.heap.size+1,0,none⟩) (show w.heap.size+1<w.heap.size+1+1 by omega) (.slice An1 ns.length cn1)).setLow (p:=⟨w.heap.size+1,1,none⟩) (show w.heap.size+1<w.heap.size+1+1 by omega) (.slice Al1 ls.length cl1)).mono (show w.heap.size≤_ by omega));have HB:=Lib.hid ((hbw11.setCell (p:=⟨w.heap.size+1,0,none⟩) sz_ (.slice An1 ns.length cn1)).setCell (p:=⟨w.heap.size+1,1,none⟩) sz_ (.slice Al1 ls.length cl1));clear how11 ho11 hbw11 hR11 hS11 hO11;generalize w1.heap.size=B1 at*;generalize w5.heap.size=B5 at*;go_wp2;exact bodyPost_ret (v:= .tuple #[.agg #[.slice An1 ns.length cn1,.slice Al1 ls.length cl1],.bool false]) (by simp[results,Tryz.results163,go_sem,r_0,r_1,s_0,s_1]) rfl (by show zC (q9 ns ls m) (qa ns ls m) (qK ns ls m) w _ _;rw[EB,EN,EL];exact zC.mk rfl rfl rfl hOO.out HB.out)
  ·have EB:qK ns ls m=true:=by unfold qK;rw[HBW.out,hw];rfl
   have EN:q9 ns ls m=N9:=by unfold q9;rw[EB,HN9'.out];rfl
   have EL:qa ns ls m=L9:=by unfold qa;rw[EB,HL9'.out,←HCL.out];rfl
   have hOO:=Lib.hid (((ho11.setLow (p:=⟨w.heap.size+1,0,none⟩) (show w.heap.size+1<w8.heap.size by omega) (.slice An9 N9.length cn9)).setLow (p:=⟨w.heap.size+1,1,none⟩) (show w.heap.size+1<w8.heap.size by omega) (.slice Al9 L9.length cl9)).mono (show w.heap.size≤_ by omega));have HB:=Lib.hid ((hbw11.setCell (p:=⟨w.heap.size+1,0,none⟩) sz_ (.slice An9 N9.length cn9)).setCell (p:=⟨w.heap.size+1,1,none⟩) sz_ (.slice Al9 L9.length cl9));clear how11 ho11 hbw11 hR11 hS11 hO11;generalize w1.heap.size=B1 at*;generalize w5.heap.size=B5 at*;go_wp2;exact bodyPost_ret (v:= .tuple #[.agg #[.slice An9 N9.length cn9,.slice Al9 L9.length cl9],.bool true]) (by simp[results,Tryz.results163,go_sem,r_0,r_1,o_0,o_1]) rfl (by show zC (q9 ns ls m) (qa ns ls m) (qK ns ls m) w _ _;rw[EB,EN,EL];exact zC.mk rfl rfl rfl hOO.out HB.out)
def dnP (k:Int) (l:Pr):Pr:=(dnI k l.1,dnI k l.2)
def jwo (ls:List Pr) (k:Int) (p q:Nat) (X:Pr):Nat→List Pr
 |0=> []
 |j+1=>if j=q then jwo ls k p q X j else jwo ls k p q X j++[dnP k (if j=p then X else ndI ls (j:Nat))]
theorem VT (ls:List Pr) (k:Int) (p q:Nat) (X:Pr):∀j,(jwo ls k p q X j).length ≤j
 |0=>by simp[jwo]
 |j+1=>by
  have:=VT ls k p q X j;unfold jwo
  split<;>simp<;>omega
theorem Qe (l:List Pr) (j:Nat) (h:j<l.length):l.take (j+1)=l.take j++[ndI l (j:Nat)]:=by
 rw[zT l j h,List.take_succ_eq_append_getElem h]
theorem Je (l:List Pr) (x:Pr) (m:Nat):(l++[x]).eraseIdx m=if l.length=m then l else l.eraseIdx m++[x]:=by
 by_cases h:l.length=m
 ·rw[if_pos h,List.eraseIdx_append_of_length_le (by omega)]
  simp[h]
 ·rw[if_neg h]
  by_cases h2:m<l.length
  ·rw[List.eraseIdx_append_of_lt_length h2]
  ·rw[List.eraseIdx_append_of_length_le (by omega),List.eraseIdx_of_length_le (by simp;omega),List.eraseIdx_of_length_le (by omega)]
theorem z4e (ns:List Pr) (m:Nat):∀j,j≤ns.length→nwo ns m j=(ns.take j).eraseIdx m
 |0,_=>by simp[nwo]
 |j+1,h=>by
  have hl:(ns.take j).length =j:=by simp;omega
  rw[Qe ns j (by omega),Je,hl];unfold nwo;rw[z4e ns m j (by omega)]
  by_cases hj:j=m
  ·rw[if_pos (by omega),if_pos hj,List.eraseIdx_of_length_le (by omega)]
  ·rw[if_neg (by omega),if_neg hj]
theorem VC (ls:List Pr) (p:Nat) (X:Pr) (j:Nat) (h:j<ls.length):ndI (ls.set p X) (j:Nat)=if j=p then X else ndI ls (j:Nat):=by
 rw[zT _ _ (by simpa using h),zT _ _ h,List.getElem_set]
 by_cases hj:j=p
 ·rw[if_pos hj,if_pos hj.symm]
 ·rw[if_neg hj,if_neg (fun e=>hj e.symm)]
theorem z3T (ls:List Pr) (k:Int) (p q:Nat) (X:Pr):∀j,j≤ls.length→jwo ls k p q X j=(((ls.set p X).take j).eraseIdx q).map (dnP k)
 |0,_=>by simp[jwo]
 |j+1,h=>by
  have hl:((ls.set p X).take j).length =j:=by simp;omega
  rw[Qe _ j (by simp;omega),Je,hl];unfold jwo;rw[z3T ls k p q X j (by omega),VC ls p X j (by omega)]
  by_cases hj:j=q
  ·rw[if_pos hj,if_pos hj,List.eraseIdx_of_length_le (by omega)]
  ·rw[if_neg hj,if_neg hj,List.map_append];rfl
theorem z4b (ls:List Pr) (k:Int) (hnt:∀j:Nat,j<ls.length→(ndI ls j).1≠k∧(ndI ls j).2≠k):∀j,j≤ls.length→lwo ls k j=(ls.take j).map (dnP k)
 |0,_=>by simp[lwo]
 |j+1,h=>by
  rw[Qe ls j (by omega)];unfold lwo;rw[if_pos (hnt j (by omega)),z4b ls k hnt j (by omega),List.map_append];rfl
theorem VD (ls:List Pr) (k:Int):∀m,∀i,i<m→jk ls k i=true→i∈atN ls k m
 |0,i,h,_=>by omega
 |m+1,i,h,ht=>by
  cases hm:jk ls k m
  ·rw[VN hm]
   by_cases e:i=m
   ·subst e;rw[hm] at ht;cases ht
   ·exact VD ls k m i (by omega) ht
  ·rw[Z3 hm]
   by_cases e:i=m
   ·subst e;simp
   ·simp[VD ls k m i (by omega) ht]
structure JoinAt (ns ls:List Pr) (m p q t u:Nat):Prop where
 win:q7 ns ls
 hm:m<ns.length
 at_:atN ls m ls.length=[p,q]
 hp:p<ls.length
 hq:q<ls.length
 ends:y8 ls m (atN ls m ls.length)=[(t:Int),(u:Int)]
 ht:t<ns.length
 hu:u<ns.length
 tk:(t:Int)≠m
 uk:(u:Int)≠m
 ot:othI (ndI ls p) m=(t:Int)
 ou:othI (ndI ls q) m=(u:Int)
theorem z1Q {ns ls:List Pr} {k:Int} (h:zJ ns ls k=true):∃m p q t u:Nat,k=(m:Int)∧hasN ns ls k=true∧JoinAt ns ls m p q t u:=by
 unfold zJ at h;rw[Bool.and_eq_true] at h;obtain⟨hk,h2⟩:=deg2 (of_decide_eq_true h.1);obtain⟨hw,m,rfl,hm⟩:=ko hk;obtain⟨p,q,t,u,a1,a2,a3,a4,a5,a6,a7,a8,a9,a10⟩:=Zp (zI.1 hw) h2;exact⟨m,p,q,t,u,rfl,hk,zI.1 hw,hm,a1,a2,a3,a4,a5,a6,a7,a8,a9,a10⟩
theorem JoinAt.bound {ns ls:List Pr} {m p q t u:Nat} (h:JoinAt ns ls m p q t u) (j:Nat) (hj:j<((ls.set p (mn2 (t:Int) u,mx2 (t:Int) u)).take q++(ls.set p (mn2 (t:Int) u,mx2 (t:Int) u)).drop (q+1)).length):
  (-1000000≤(ndI ((ls.set p (mn2 (t:Int) u,mx2 (t:Int) u)).take q++(ls.set p (mn2 (t:Int) u,mx2 (t:Int) u)).drop (q+1)) j).1∧(ndI ((ls.set p (mn2 (t:Int) u,mx2 (t:Int) u)).take q++(ls.set p (mn2 (t:Int) u,mx2 (t:Int) u)).drop (q+1)) j).1≤1000000)∧(-1000000≤(ndI ((ls.set p (mn2 (t:Int) u,mx2 (t:Int) u)).take q++(ls.set p (mn2 (t:Int) u,mx2 (t:Int) u)).drop (q+1)) j).2∧(ndI ((ls.set p (mn2 (t:Int) u,mx2 (t:Int) u)).take q++(ls.set p (mn2 (t:Int) u,mx2 (t:Int) u)).drop (q+1)) j).2≤1000000):=by
 have hq:q<(ls.set p (mn2 (t:Int) u,mx2 (t:Int) u)).length :=by simpa using h.hq
 rw[XX hq j hj];have hj':j<ls.length -1:=by simp at hj;have:=h.hq;omega
 generalize hi:(if j<q then j else j+1)=i;have hi':i<ls.length:=by split at hi<;>omega
 rw[VC ls p _ i hi'];have h12:=h.win.2.1;have ht:=h.ht;have hu:=h.hu
 by_cases hip:i=p
 ·rw[if_pos hip];dsimp only;rw[xv,vh];omega
 ·rw[if_neg hip]
  have hl:=zR.1 (h.win.2.2.2.2.2 i hi').1;omega
theorem JoinAt.free {ns ls:List Pr} {m p q t u:Nat} (h:JoinAt ns ls m p q t u) (j:Nat) (hj:j<((ls.set p (mn2 (t:Int) u,mx2 (t:Int) u)).take q++(ls.set p (mn2 (t:Int) u,mx2 (t:Int) u)).drop (q+1)).length):
  (ndI ((ls.set p (mn2 (t:Int) u,mx2 (t:Int) u)).take q++(ls.set p (mn2 (t:Int) u,mx2 (t:Int) u)).drop (q+1)) j).1≠m∧(ndI ((ls.set p (mn2 (t:Int) u,mx2 (t:Int) u)).take q++(ls.set p (mn2 (t:Int) u,mx2 (t:Int) u)).drop (q+1)) j).2≠m:=by
 have hq:q<(ls.set p (mn2 (t:Int) u,mx2 (t:Int) u)).length :=by simpa using h.hq
 rw[XX hq j hj];have hj':j<ls.length -1:=by simp at hj;have:=h.hq;omega
 generalize hi:(if j<q then j else j+1)=i;have hi':i<ls.length:=by split at hi<;>omega
 have hiq:i≠q:=by split at hi<;>omega
 rw[VC ls p _ i hi'];have ht:=h.tk;have hu:=h.uk
 by_cases hip:i=p
 ·rw[if_pos hip];dsimp only;unfold mn2 mx2;constructor<;>split<;>assumption
 ·rw[if_neg hip]
  have hno:jk ls m i=false:=by
   cases htb:jk ls m i
   ·rfl
   ·have:=VD ls m ls.length i hi' htb
    rw[h.at_] at this;simp at this
    omega
  simpa[jk,not_or] using hno
theorem JoinAt.joinX {ns ls:List Pr} {m p q t u:Nat} (h:JoinAt ns ls m p q t u):joinX ls m p q=(mn2 (t:Int) u,mx2 (t:Int) u):=by
 simp[Proofs.YtnjcpljhmhdhkaaGreat.joinX,h.ot,h.ou]
theorem JoinAt.cn {ns ls:List Pr} {m p q t u:Nat} (h:JoinAt ns ls m p q t u):kc ns m=ns.take m++ns.drop (m+1):=by
 unfold kc;rw[z4e ns m _ (Nat.le_refl _),List.take_length,List.eraseIdx_eq_take_drop_succ]
theorem JoinAt.cl {ns ls:List Pr} {m p q t u:Nat} (h:JoinAt ns ls m p q t u):kf ls m=jwo ls m p q (mn2 (t:Int) u,mx2 (t:Int) u) ls.length:=by
 have hM:JR ls m=(ls.set p (mn2 (t:Int) u,mx2 (t:Int) u)).take q++(ls.set p (mn2 (t:Int) u,mx2 (t:Int) u)).drop (q+1):=by
  unfold JR;rw[h.at_];simp only[h.joinX]
 have hT:(ls.set p (mn2 (t:Int) u,mx2 (t:Int) u)).take ls.length=ls.set p (mn2 (t:Int) u,mx2 (t:Int) u):=List.take_of_length_le (by simp);unfold kf;rw[hM,z4b _ _ h.free _ (Nat.le_refl _),z3T _ _ _ _ _ _ (Nat.le_refl _),List.take_length,hT,List.eraseIdx_eq_take_drop_succ]
theorem z3y (vn vl:Value) (ns ls:List Pr) (k:Int) (w:World) (hn:RP w vn ns) (hl:RP w vl ls) (h1:ns.length≤1048576) (h2:ls.length≤1048576):
  Calls Tryz.prog 163 #[.agg #[vn,vl],.int .i64 k] w (fun e w'=>zC (q9 ns ls k) (qa ns ls k) (qK ns ls k) w e w'):=by
 cases hs:zJ ns ls k
 ·have EB:qK ns ls k=false:=by unfold qK;rw[hs];rfl
  have EN:q9 ns ls k=ns:=by unfold q9;rw[EB];rfl
  have EL:qa ns ls k=ls:=by unfold qa;rw[EB];rfl
  rw[EB,EN,EL];exact z4i vn vl ns ls k w hn hl h1 h2 hs
 ·obtain⟨m,p,q,t,u,rfl,hk,h⟩:=z1Q hs
  exact z2X vn vl ns ls m p q t u w hn hl h1 h2 hs hk h.at_ h.hp h.hq h.ends h.bound
end Go.Proofs.YtnjcpljhmhdhkaaGreat
