/- part 19 -/
import Derived.Test.YtnjcpljhmhdhkaaGreatTPk17
import Derived.Test.YtnjcpljhmhdhkaaGreatTPk18
import Derived.Deep.RegionHeld3
set_option linter.unusedSimpArgs false
set_option linter.unusedVariables false
set_option maxRecDepth 100000
set_option maxHeartbeats 8000000
namespace Go.Proofs.YtnjcpljhmhdhkaaGreat
open Go.RowKit
attribute [local go_sem ↓] zu zw zY zZ
theorem xS (vn vl:Value) (ns ls:List Pr) (k:Int) (b:Bool) (w:World) (hn:RP w vn ns) (hl:RP w vl ls) (hb:zJ ns ls k=b):
  Calls Tryz.prog 186 #[.agg #[vn,vl],.int .i64 k] w fun e w'=>e= .returned (.bool b)∧Below w.heap.size w w':=by
 subst hb;exact Jt vn vl ns ls k w hn hl
theorem z4D (vn vl:Value) (ns ls:List Pr) (k:Int) (w:World) (hn:RP w vn ns) (hl:RP w vl ls) (h1:ns.length≤1048576) (h2:ls.length≤1048576) (hw:zJ ns ls k=false):
  Calls Tryz.prog 109 #[.agg #[vn,vl],.int .i64 k] w (zC ns ls false w):=by
 go_enter Tryz.func109,Tryz.ntmps109
 go_wp2_with fail
 refine(xS _ _ ns ls _ _ _ (hn.below (by exact bel_)) (hl.below (by exact bel_)) hw).mono ?_
 rintro e w1 ⟨rfl,hb1⟩;have hz1:=hb1.size;simp at hz1
 have hA1:Blk w1 w.heap.size 27 #[vn,vl]:=Blk.below ((Blk.newAt rfl).alloc _) hb1 sz_;have hR1:Blk w1 (w.heap.size+1) 27 #[.slice none 0 0,.slice none 0 0]:=Blk.below (Blk.newAt (by simp)) hb1 sz_;have hbw1:Below w.heap.size w w1:=by exact bel_
 clear hb1;have n1:w.heap.size<w1.heap.size:=by omega
 have n2:w.heap.size+1<w1.heap.size:=by omega
 obtain⟨a_0,a_1⟩:=hA1.c2
 go_wp2_with fail
 refine(qg _ _ ns ls _ (hn.below hbw1) (hl.below hbw1) h1 h2).mono ?_
 rintro e w2 ⟨An1,cn1,Al1,cl1,rfl,ho2,hb2⟩;have hz2:=hb2.size;have hR2:=hR1.below hb2 n2;have hbw2:=hbw1.trans (hb2.mono hbw1.size);have hO:=Lib.hid (((ho2.setLow (p:=⟨w.heap.size+1,0,none⟩) n2 (.slice An1 ns.length cn1)).setLow (p:=⟨w.heap.size+1,1,none⟩) n2 (.slice Al1 ls.length cl1)).mono (show w.heap.size≤_ by omega));have HB:=Lib.hid ((hbw2.setCell (p:=⟨w.heap.size+1,0,none⟩) sz_ (.slice An1 ns.length cn1)).setCell (p:=⟨w.heap.size+1,1,none⟩) sz_ (.slice Al1 ls.length cl1));clear ho2 hbw2 hb2 hA1 hR1 hbw1 a_0 a_1;obtain⟨r_0,r_1,r_f0,r_f1⟩:=hR2.b2;go_wp2;exact bodyPost_ret (v:= .tuple #[.agg #[.slice An1 ns.length cn1,.slice Al1 ls.length cl1],.bool false]) (by simp[results,Tryz.results109,go_sem,r_0,r_1]) rfl ⟨_,_,_,_,rfl,hO.out,HB.out⟩
def BoxN (w0 w:World) (v:Value) (l:List Pr):Prop:=OwnP 106 w0.heap.size w v l∧Below w0.heap.size w0 w
def BoxO (w0:World) (y:Nat) (w:World) (v:Value) (l:List Pr):Prop:=
 OwnP 106 w0.heap.size w v l∧Below w0.heap.size w0 w∧Blk w y 27 #[.slice none 0 0,.slice none 0 0]∧w0.heap.size≤y∧∀k,v.ownBlock=some k→¬k=y
theorem BoxN.box {w0 w:World} {v:Value} {l:List Pr} {y:Nat} (h:BoxN w0 w v l) (hy:y=w.heap.size):BoxO w0 y (w.alloc (.cells #[.slice none 0 0,.slice none 0 0] 27)) v l:=by
 subst hy;exact⟨h.1.alloc _,h.2.alloc h.2.size _,Blk.newAt rfl,h.2.size,fun k hk e=>by have:=(h.1.lt k hk).2;omega⟩
theorem BoxN.start (w0:World) {g:Nat} (hg:g=w0.heap.size):BoxN w0 (w0.drew.alloc (.cells #[] 106)) (.slice (some ⟨g,0,none⟩) 0 0) []:=by
 subst hg;exact⟨OwnP.made rfl (Nat.le_refl _),Below.alloc (Below.drew (Below.refl _ _)) (Nat.le_refl _) _⟩
theorem BoxO.start (w0:World) {g y:Nat} (hg:g=w0.heap.size+1) (hy:y=w0.heap.size):
  BoxO w0 y ((w0.drew.alloc (.cells #[.slice none 0 0,.slice none 0 0] 27)).alloc (.cells #[] 106)) (.slice (some ⟨g,0,none⟩) 0 0) []:=by
 subst hg hy;exact⟨OwnP.made (by simp) (by simp),Below.alloc (Below.alloc (Below.drew (Below.refl _ _)) (Nat.le_refl _) _) (by simp) _,(Blk.newAt rfl).alloc _,Nat.le_refl _,fun k hk e=>by cases hk;exact absurd (show w0.heap.size+1=w0.heap.size from e) (by omega)⟩
theorem jv {P:Program} {w:World} {ops:Array Oper} {o:Oper} {a:Act} {K:Act→World→Prop} {Q:Exit→Act→World→Prop} {E:Prop} (hgd:o.guard=none) (s x:Operand) (t:TypeId)
  (ho:o.op= .call { callee:= .builtin .append,args:= #[s,x],argTypes:= #[t,t] })
  (i:TypeInfo) (ht:P.underlying t=some (.slice 106)) (hi:P.info? 106=some i) (hz:i.zero=some (.agg #[.int .i64 0,.int .i64 0])) (hsize:i.size=2) (hby:i.bytes=16)
  (w0:World) (v u:Value) (xs l:List (Int×Int)) (hs:a.eval s=v) (hx:a.eval x=u) (hB:BoxN w0 w v xs) (hr:RP w0 u l) (hlen:xs.length+l.length≤1048576+1048576)
  (h:∀A c w',BoxN w0 w' (.slice A (xs++l).length c) (xs++l)→K (a.put o.dst (.slice A (xs++l).length c)) w'):
  if Region.wanted o (yielded ops a.tmps)=true then Oper.wp P o a w K Q else E:=
 zi hgd s x t ho w0.heap.size 106 i ht hi hz hsize hby v u xs l hs hx hB.1 (hr.below hB.2) hlen hB.2.size
  fun A c w' ho' hg _=>h A c w' ⟨ho',hB.2.grown hg hB.2.size (fun k hk=>(hB.1.lt k hk).1)⟩
theorem zQ {P:Program} {w:World} {ops:Array Oper} {o:Oper} {a:Act} {K:Act→World→Prop} {Q:Exit→Act→World→Prop} {E:Prop} (hgd:o.guard=none) (s x:Operand) (t:TypeId)
  (ho:o.op= .call { callee:= .builtin .append,args:= #[s,x],argTypes:= #[t,t] })
  (i:TypeInfo) (ht:P.underlying t=some (.slice 106)) (hi:P.info? 106=some i) (hz:i.zero=some (.agg #[.int .i64 0,.int .i64 0])) (hsize:i.size=2) (hby:i.bytes=16)
  (w0:World) (y:Nat) (v u:Value) (xs l:List (Int×Int)) (hs:a.eval s=v) (hx:a.eval x=u) (hB:BoxO w0 y w v xs) (hr:RP w0 u l) (hlen:xs.length+l.length≤1048576+1048576)
  (h:∀A c w',BoxO w0 y w' (.slice A (xs++l).length c) (xs++l)→K (a.put o.dst (.slice A (xs++l).length c)) w'):
  if Region.wanted o (yielded ops a.tmps)=true then Oper.wp P o a w K Q else E:=
 zi hgd s x t ho w0.heap.size 106 i ht hi hz hsize hby v u xs l hs hx hB.1 (hr.below hB.2.1) hlen hB.2.1.size
  fun A c w' ho' hg ha=>h A c w' ⟨ho',hB.2.1.grown hg hB.2.1.size (fun k hk=>(hB.1.lt k hk).1),hB.2.2.1.grownR hg hB.2.2.2.2,hB.2.2.2.1,fun k hk e=>by
   subst e
   rcases ha with ha|ha
   ·exact hB.2.2.2.2 k (ha.symm.trans hk) rfl
   ·rw[ha] at hk;cases hk;exact Nat.lt_irrefl _ hB.2.2.1.lt⟩
theorem BoxO.filled {w0 w:World} {y:Nat} {v:Value} {l:List Pr} (h:BoxO w0 y w v l):
  w0.heap.size≤y∧Below w0.heap.size w0 ((w.setCell ⟨y,0,none⟩ v).setCell ⟨y,1,none⟩ (.slice none 0 0))∧
   Blk ((w.setCell ⟨y,0,none⟩ v).setCell ⟨y,1,none⟩ (.slice none 0 0)) y 27 #[v,.slice none 0 0]∧
   OwnP 106 w0.heap.size ((w.setCell ⟨y,0,none⟩ v).setCell ⟨y,1,none⟩ (.slice none 0 0)) v l∧∀k,v.ownBlock=some k→¬k=y:=
 ⟨h.2.2.2.1,(h.2.1.setCell (p:=⟨y,0,none⟩) h.2.2.2.1 _).setCell (p:=⟨y,1,none⟩) h.2.2.2.1 _,(h.2.2.1.set_ 0 _).set_ 1 _,
  (h.1.apart (qO w ⟨y,0,none⟩ v) (fun k hk e=>by cases e;exact h.2.2.2.2 _ hk rfl)).apart (qO _ ⟨y,1,none⟩ _) (fun k hk e=>by cases e;exact h.2.2.2.2 _ hk rfl),h.2.2.2.2⟩
theorem BoxN.filled {w0 w:World} {v:Value} {l:List Pr} (h:BoxN w0 w v l):
  w0.heap.size≤w.heap.size∧Below w0.heap.size w0 (w.alloc (.cells #[v,.slice none 0 0] 27))∧
   Blk (w.alloc (.cells #[v,.slice none 0 0] 27)) w.heap.size 27 #[v,.slice none 0 0]∧
   OwnP 106 w0.heap.size (w.alloc (.cells #[v,.slice none 0 0] 27)) v l∧∀k,v.ownBlock=some k→¬k=w.heap.size:=
 ⟨h.2.size,h.2.alloc h.2.size _,Blk.newAt rfl,h.1.alloc _,fun k hk e=>by have:=(h.1.lt k hk).2;omega⟩
theorem z3E (vl:Value) (ns ls T D:List Pr) (b off cn m p q t u:Nat) (w:World) (hn:RP w (.slice (some ⟨b,off,none⟩) ns.length cn) ns) (hl:RP w vl ls) (h1:ns.length≤1048576) (h2:ls.length≤1048576)
  (hcn:ns.length≤cn) (hT:RP w (.slice (some ⟨b,off,none⟩) m cn) T) (hTl:Hid (T.length=m)) (hD:RP w (.slice (if cn=m+1 then some ⟨b,off,none⟩ else some ⟨b,off+(m+1)*2,none⟩) (ns.length -(m+1)) (cn -(m+1))) D) (hDl:Hid (D.length=ns.length -(m+1)))
  (hs:zJ ns ls m=true) (hk:hasN ns ls m=true) (h:JoinAt ns ls m p q t u) (hTD:Hid (kc ns m=T++D)):
  Calls Tryz.prog 109 #[.agg #[.slice (some ⟨b,off,none⟩) ns.length cn,vl],.int .i64 m] w (fun e w'=>zC (q9 ns ls m) (qa ns ls m) (qK ns ls m) w e w'):=by
 obtain⟨i0,hi,iz0,iz1,iz2⟩:=info_parts kg;obtain⟨j0,hj,jz0,jz1,jz2⟩:=info_parts qC;obtain⟨Al,cl,rfl,hcl,hml,hcelll⟩:=hl.formI;unfold maxLen at hml;have hp:=h.hp;have hq:=h.hq;have hm:=h.hm;have HAT:=Lib.hid h.at_;have HOT:=Lib.hid h.ot;have HOU:=Lib.hid h.ou;have HCL:=Lib.hid h.cl;have hu1:(t:Int)<12:=by have:=h.ht;have:=h.win.2.1;omega
 have hu2:(u:Int)<12:=by have:=h.hu;have:=h.win.2.1;omega
 have hns:=h.win.2.1
 have HBD:Hid (∀j:Nat,j<ls.length→(-1000000≤(ndI ls j).1∧(ndI ls j).1≤1000000)∧(-1000000≤(ndI ls j).2∧(ndI ls j).2≤1000000)):=Lib.hid (fun j hj=>by
  have hl:=zR.1 (h.win.2.2.2.2.2 j hj).1;omega)
 clear h;obtain⟨bl,offl,rfl,hbl,hcc⟩:=hcelll (by omega);obtain⟨k0,k1⟩:=hcc p hp;obtain⟨k2,k3⟩:=hcc q hq;clear hcelll;have HCC:=Lib.hid hcc;clear hcc
 go_enter Tryz.func109,Tryz.ntmps109
 go_wp2_with fail
 refine(xS _ _ ns ls _ _ _ (hn.below (by exact bel_)) (hl.below (by exact bel_)) hs).mono ?_
 rintro e w1 ⟨rfl,hb1⟩;have hz1:=hb1.size;simp at hz1
 have hA1:Blk w1 w.heap.size 27 #[.slice (some ⟨b,off,none⟩) ns.length cn,.slice (some ⟨bl,offl,none⟩) ls.length cl]:=Blk.below ((Blk.newAt rfl).alloc _) hb1 sz_;have hR1:Blk w1 (w.heap.size+1) 27 #[.slice none 0 0,.slice none 0 0]:=Blk.below (Blk.newAt (by simp)) hb1 sz_;have hbw1:Below w.heap.size w w1:=by exact bel_
 clear hb1;have n1:w.heap.size<w1.heap.size:=by omega
 have n2:w.heap.size+1<w1.heap.size:=by omega
 obtain⟨a_0,a_1⟩:=hA1.c2
 go_wp2_with fail
 refine(vS _ _ ns ls _ _ (hn.below hbw1) (hl.below hbw1) hk).mono ?_
 rw[HAT.out];rintro e w2 ⟨v2,rfl,ho2,hb2⟩;have hz2:=hb2.size;have hA2:=hA1.below hb2 n1;have hR2:=hR1.below hb2 n2;have hbw2:=hbw1.trans (hb2.mono hbw1.size);obtain⟨A2,c2,e2,hc2,_,hcell2⟩:=ho2.reads.form;subst e2;obtain⟨b2,o2,rfl,hb2',hcl2⟩:=hcell2 (by simp[natI]);have y0:=hcl2 0 (by simp[natI]);have y1:=hcl2 1 (by simp[natI]);simp only[natI,List.map_cons,List.map_nil,List.getD_cons_zero,List.getD_cons_succ,Nat.add_zero,List.length_cons,List.length_nil,Nat.zero_add] at y0 y1 hc2
 clear hcell2 hcl2 hb2 hA1 hR1 hbw1 a_0 a_1 ho2;rw[show(natI [p,q]).length =2 from rfl];have n1:w.heap.size<w2.heap.size:=hA2.lt;have n2:w.heap.size+1<w2.heap.size:=hR2.lt;have c1:(0:Int)≤(p:Int):=by omega
 have c3:(p:Int)<(ls.length:Int):=by omega
 have g1:bl<w2.heap.size:=by omega
 have x0:=(hbw2.cell (p:=⟨bl,offl+p*2,none⟩) hbl).trans k0;have x1:=(hbw2.cell (p:=⟨bl,offl+p*2+1,none⟩) hbl).trans k1;obtain⟨a_0,a_1⟩:=hA2.c2
 go_wp2_with fail
 (refine z9 (by kernel_rfl) (by kernel_rfl) (fun hG=>?_))
 repeat (go_big_quiet_step ((go_at_call 188;exact zv (kA (ndI ls p) _ _ _ HOT.out))))
 (refine wpQuiet_nil ?_);(clear hG);(rintro w3 ⟨⟨_,hb3⟩,rfl⟩);(try dsimp only);(first|(with_reducible have hcf3:=z8 hb3)|have hcf3:=bcell hb3);obtain⟨hc3,hf3⟩:=hcf3;have hz3:=hb3.size;(try simp at hz3);(try have hp3_0:=p0_ w w3);(try have hp3_1:=p1_ w w3);(try have hp3_2:=p2_ w w3);(try have hp3_3:=p3_ w w3)
 have hA3:=hA2.below hb3 n1;have hR3:=hR2.below hb3 n2;have hbw3:=hbw2.trans (hb3.mono hbw2.size);have y0':=(hb3.cell (p:=⟨b2,o2,none⟩) hb2').trans y0;have y1':=(hb3.cell (p:=⟨b2,o2+1,none⟩) hb2').trans y1;have g2:b2<w3.heap.size:=by omega
 have n1:w.heap.size<w3.heap.size:=hA3.lt;have n2:w.heap.size+1<w3.heap.size:=hR3.lt;have c1:(0:Int)≤(q:Int):=by omega
 have c3:(q:Int)<(ls.length:Int):=by omega
 have g1:bl<w3.heap.size:=by omega
 clear x0 x1;have x0:=(hbw3.cell (p:=⟨bl,offl+q*2,none⟩) hbl).trans k2;have x1:=(hbw3.cell (p:=⟨bl,offl+q*2+1,none⟩) hbl).trans k3;clear hb3 hc3 hf3 hp3_0 hp3_1 hA2 hR2 hbw2 a_0 a_1 y0 y1 k0 k1 k2 k3;obtain⟨a_0,a_1⟩:=hA3.c2
 go_wp2_with fail
 (refine z9 (by kernel_rfl) (by kernel_rfl) (fun hG=>?_))
 repeat (go_big_quiet_step ((go_at_call 188;exact zv (kA (ndI ls q) _ _ _ HOU.out))))
 (refine wpQuiet_nil ?_);(clear hG);(rintro w4 ⟨⟨_,hb4⟩,rfl⟩);(try dsimp only);(first|(with_reducible have hcf4:=z8 hb4)|have hcf4:=bcell hb4);obtain⟨hc4,hf4⟩:=hcf4;have hz4:=hb4.size;(try simp at hz4);(try have hp4_0:=p0_ w w4);(try have hp4_1:=p1_ w w4);(try have hp4_2:=p2_ w w4);(try have hp4_3:=p3_ w w4)
 have hA4:=hA3.below hb4 n1;have hR4:=hR3.below hb4 n2;have hbw4:=hbw3.trans (hb4.mono hbw3.size);have y0:=(hb4.cell (p:=⟨b2,o2,none⟩) g2).trans y0';have y1:=(hb4.cell (p:=⟨b2,o2+1,none⟩) g2).trans y1';have g2':b2<w4.heap.size:=by omega
 have n1:w.heap.size<w4.heap.size:=hA4.lt;have n2:w.heap.size+1<w4.heap.size:=hR4.lt;clear hb4 hc4 hf4 hp4_0 hp4_1 hA3 hR3 hbw3 a_0 a_1 y0' y1' x0 x1 g2;obtain⟨a_0,a_1⟩:=hA4.c2
 go_wp2_with fail
 have HT4:=Lib.hid (hT.below hbw4);have hD4:=hD.below hbw4;clear hT hD
 go_cut [9] (fun s9 wx=>∃(x:Nat) (A:Option Addr) (c:Nat),s9= .pointer (some ⟨x,0,none⟩)∧w4.heap.size≤x∧Below w4.heap.size w4 wx∧
   Blk wx x 27 #[.slice A (T.length+D.length) c,.slice none 0 0]∧OwnP 106 w4.heap.size wx (.slice A (T.length+D.length) c) (T++D)∧∀k,(Value.slice A (T.length+D.length) c).ownBlock =some k→¬k=x)
 case first=>
  have c2:(0:Int)≤(m:Int):=by omega
  have c4:(m:Int)+1≤(ns.length:Int):=by omega
  have c1':(m:Int)≤(m:Int)+1:=by omega
  have c5:(0:Int)≤(m:Int)+1:=by omega
  have c6:((m:Int)+1).toNat =m+1:=by omega
  have c7:¬(ns.length:Int)<(m:Int)+1:=by omega
  have c8:¬(m:Int)+1<0:=by omega
  have hwr:IntKind.i64.wrap ((m:Int)+1)=(m:Int)+1:=IntWalk.i64_in _ (by omega);have ne4:¬w4.heap.size=w.heap.size:=by omega
  have ne41:¬w4.heap.size+1=w.heap.size:=by omega
  by_cases hck:cn=m+1
  ·subst hck
   have c1:(m:Int)≤((m+1:Nat):Int):=by omega
   have c9:(ns.length:Int)≤(m:Int)+1:=by omega
   rw[if_pos rfl,show ns.length -(m+1)=0 by omega,Nat.sub_self] at hD4;have HD4:=Lib.hid hD4;clear hD4
   go_region_held3 (fun w'=>w'.cell? ⟨w.heap.size,0,none⟩=some (.slice (some ⟨b,off,none⟩) ns.length (m+1)))
    (go_keep)
    (first|(refine zQ rfl _ _ _ rfl i0 Tryz.underlying24 hi iz0 iz1 iz2 w4 w4.heap.size (.slice (some ⟨_,0,none⟩) 0 0) (.slice (some ⟨b,off,none⟩) m (m+1)) [] T rfl rfl (BoxO.start w4 (by simp) rfl) HT4.out (by simp;have:=hTl.out;omega) ?_;intro A3 c3 w3 hB3;have HB3:=Lib.hid hB3;clear hB3;(have hb3:=HB3.out.2.1);(have hc3:=fun (b o:Nat) (h:b<w4.heap.size)=>hb3.cell (p:=⟨b,o,none⟩) h);(have hf3:=fun (b o:Nat) (h:b<w4.heap.size)=>hb3.frozen (p:=⟨b,o,none⟩) h);(have hz3:=hb3.size);(have p3:w.heap.size<w3.heap.size:=by omega);(have ne3:¬w3.heap.size=w.heap.size:=by omega);clear hb3)|(refine zQ rfl _ _ _ rfl i0 Tryz.underlying24 hi iz0 iz1 iz2 w4 (w4.heap.size+1) (.slice (some ⟨_,0,none⟩) 0 0) (.slice (some ⟨b,off,none⟩) m (m+1)) [] T rfl rfl ((BoxN.start w4 (by simp)).box (by simp)) HT4.out (by simp;have:=hTl.out;omega) ?_;intro A3 c3 w3 hB3;have HB3:=Lib.hid hB3;clear hB3;(have hb3:=HB3.out.2.1);(have hc3:=fun (b o:Nat) (h:b<w4.heap.size)=>hb3.cell (p:=⟨b,o,none⟩) h);(have hf3:=fun (b o:Nat) (h:b<w4.heap.size)=>hb3.frozen (p:=⟨b,o,none⟩) h);(have hz3:=hb3.size);(have p3:w.heap.size<w3.heap.size:=by omega);(have ne3:¬w3.heap.size=w.heap.size:=by omega);clear hb3)|(refine jv rfl _ _ _ rfl i0 Tryz.underlying24 hi iz0 iz1 iz2 w4 (.slice (some ⟨_,0,none⟩) 0 0) (.slice (some ⟨b,off,none⟩) m (m+1)) [] T rfl rfl (BoxN.start w4 (by simp)) HT4.out (by simp;have:=hTl.out;omega) ?_;intro A3 c3 w3 hB3;have HN3:=Lib.hid hB3;clear hB3;(have hb3:=HN3.out.2);(have hc3:=fun (b o:Nat) (h:b<w4.heap.size)=>hb3.cell (p:=⟨b,o,none⟩) h);(have hf3:=fun (b o:Nat) (h:b<w4.heap.size)=>hb3.frozen (p:=⟨b,o,none⟩) h);(have hz3:=hb3.size);(have p3:w.heap.size<w3.heap.size:=by omega);(have ne3:¬w3.heap.size=w.heap.size:=by omega);clear hb3)|(refine zQ rfl _ _ _ rfl i0 Tryz.underlying24 hi iz0 iz1 iz2 w4 _ (.slice A3 T.length c3) (.slice (some ⟨b,off,none⟩) 0 0) T D rfl rfl HB3.out HD4.out (by have:=hTl.out;have:=hDl.out;omega) ?_;intro A5 c5 w5 hB5;have HB5:=Lib.hid hB5;clear hB5;(have hb5:=HB5.out.2.1);(have hc5:=fun (b o:Nat) (h:b<w4.heap.size)=>hb5.cell (p:=⟨b,o,none⟩) h);(have hf5:=fun (b o:Nat) (h:b<w4.heap.size)=>hb5.frozen (p:=⟨b,o,none⟩) h);(have hz5:=hb5.size);(have p5:w.heap.size<w5.heap.size:=by omega);(have ne5:¬w5.heap.size=w.heap.size:=by omega);clear hb5;(have zf0:=HB5.out.2.2.1.frozen 0);(have zf1:=HB5.out.2.2.1.frozen 1);(have zx:=HB5.out.2.2.1.lt);(have zy:=HB5.out.2.2.2.1);(have zc0:=HB5.out.2.2.1.cell 0);(have zc1:=HB5.out.2.2.1.cell 1))|(refine zQ rfl _ _ _ rfl i0 Tryz.underlying24 hi iz0 iz1 iz2 w4 w3.heap.size (.slice A3 T.length c3) (.slice (some ⟨b,off,none⟩) 0 0) T D rfl rfl (HN3.out.box rfl) HD4.out (by have:=hTl.out;have:=hDl.out;omega) ?_;intro A5 c5 w5 hB5;have HB5:=Lib.hid hB5;clear hB5;(have hb5:=HB5.out.2.1);(have hc5:=fun (b o:Nat) (h:b<w4.heap.size)=>hb5.cell (p:=⟨b,o,none⟩) h);(have hf5:=fun (b o:Nat) (h:b<w4.heap.size)=>hb5.frozen (p:=⟨b,o,none⟩) h);(have hz5:=hb5.size);(have p5:w.heap.size<w5.heap.size:=by omega);(have ne5:¬w5.heap.size=w.heap.size:=by omega);clear hb5;(have zf0:=HB5.out.2.2.1.frozen 0);(have zf1:=HB5.out.2.2.1.frozen 1);(have zx:=HB5.out.2.2.1.lt);(have zy:=HB5.out.2.2.2.1);(have zc0:=HB5.out.2.2.1.cell 0);(have zc1:=HB5.out.2.2.1.cell 1))|(refine jv rfl _ _ _ rfl i0 Tryz.underlying24 hi iz0 iz1 iz2 w4 (.slice A3 T.length c3) (.slice (some ⟨b,off,none⟩) 0 0) T D rfl rfl HN3.out HD4.out (by have:=hTl.out;have:=hDl.out;omega) ?_;intro A5 c5 w5 hB5;have HN5:=Lib.hid hB5;clear hB5;(have hb5:=HN5.out.2);(have hc5:=fun (b o:Nat) (h:b<w4.heap.size)=>hb5.cell (p:=⟨b,o,none⟩) h);(have hf5:=fun (b o:Nat) (h:b<w4.heap.size)=>hb5.frozen (p:=⟨b,o,none⟩) h);(have hz5:=hb5.size);(have p5:w.heap.size<w5.heap.size:=by omega);(have ne5:¬w5.heap.size=w.heap.size:=by omega);clear hb5))
   all_goals go_wp2
   all_goals go_meet
   all_goals (first|(have hF:=HB5.out.filled;rw[List.length_append] at hF;exact⟨_,A5,c5,rfl,hF⟩)|(have hF:=HN5.out.filled;rw[List.length_append] at hF;exact⟨_,A5,c5,rfl,hF⟩))
  ·have c1:(m:Int)≤(cn:Int):=by omega
   have c9:(ns.length:Int)≤(cn:Int):=by omega
   rw[if_neg hck] at hD4;have HD4:=Lib.hid hD4;clear hD4
   go_region_held3 (fun w'=>w'.cell? ⟨w.heap.size,0,none⟩=some (.slice (some ⟨b,off,none⟩) ns.length cn))
    (go_keep)
    (first|(refine zQ rfl _ _ _ rfl i0 Tryz.underlying24 hi iz0 iz1 iz2 w4 w4.heap.size (.slice (some ⟨_,0,none⟩) 0 0) (.slice (some ⟨b,off,none⟩) m cn) [] T rfl rfl (BoxO.start w4 (by simp) rfl) HT4.out (by simp;have:=hTl.out;omega) ?_;intro A3 c3 w3 hB3;have HB3:=Lib.hid hB3;clear hB3;(have hb3:=HB3.out.2.1);(have hc3:=fun (b o:Nat) (h:b<w4.heap.size)=>hb3.cell (p:=⟨b,o,none⟩) h);(have hf3:=fun (b o:Nat) (h:b<w4.heap.size)=>hb3.frozen (p:=⟨b,o,none⟩) h);(have hz3:=hb3.size);(have p3:w.heap.size<w3.heap.size:=by omega);(have ne3:¬w3.heap.size=w.heap.size:=by omega);clear hb3)|(refine zQ rfl _ _ _ rfl i0 Tryz.underlying24 hi iz0 iz1 iz2 w4 (w4.heap.size+1) (.slice (some ⟨_,0,none⟩) 0 0) (.slice (some ⟨b,off,none⟩) m cn) [] T rfl rfl ((BoxN.start w4 (by simp)).box (by simp)) HT4.out (by simp;have:=hTl.out;omega) ?_;intro A3 c3 w3 hB3;have HB3:=Lib.hid hB3;clear hB3;(have hb3:=HB3.out.2.1);(have hc3:=fun (b o:Nat) (h:b<w4.heap.size)=>hb3.cell (p:=⟨b,o,none⟩) h);(have hf3:=fun (b o:Nat) (h:b<w4.heap.size)=>hb3.frozen (p:=⟨b,o,none⟩) h);(have hz3:=hb3.size);(have p3:w.heap.size<w3.heap.size:=by omega);(have ne3:¬w3.heap.size=w.heap.size:=by omega);clear hb3)|(refine jv rfl _ _ _ rfl i0 Tryz.underlying24 hi iz0 iz1 iz2 w4 (.slice (some ⟨_,0,none⟩) 0 0) (.slice (some ⟨b,off,none⟩) m cn) [] T rfl rfl (BoxN.start w4 (by simp)) HT4.out (by simp;have:=hTl.out;omega) ?_;intro A3 c3 w3 hB3;have HN3:=Lib.hid hB3;clear hB3;(have hb3:=HN3.out.2);(have hc3:=fun (b o:Nat) (h:b<w4.heap.size)=>hb3.cell (p:=⟨b,o,none⟩) h);(have hf3:=fun (b o:Nat) (h:b<w4.heap.size)=>hb3.frozen (p:=⟨b,o,none⟩) h);(have hz3:=hb3.size);(have p3:w.heap.size<w3.heap.size:=by omega);(have ne3:¬w3.heap.size=w.heap.size:=by omega);clear hb3)|(refine zQ rfl _ _ _ rfl i0 Tryz.underlying24 hi iz0 iz1 iz2 w4 _ (.slice A3 T.length c3) (.slice (some ⟨b,off+(m+1)*2,none⟩) (ns.length -(m+1)) (cn -(m+1))) T D rfl rfl HB3.out HD4.out (by have:=hTl.out;have:=hDl.out;omega) ?_;intro A5 c5 w5 hB5;have HB5:=Lib.hid hB5;clear hB5;(have hb5:=HB5.out.2.1);(have hc5:=fun (b o:Nat) (h:b<w4.heap.size)=>hb5.cell (p:=⟨b,o,none⟩) h);(have hf5:=fun (b o:Nat) (h:b<w4.heap.size)=>hb5.frozen (p:=⟨b,o,none⟩) h);(have hz5:=hb5.size);(have p5:w.heap.size<w5.heap.size:=by omega);(have ne5:¬w5.heap.size=w.heap.size:=by omega);clear hb5;(have zf0:=HB5.out.2.2.1.frozen 0);(have zf1:=HB5.out.2.2.1.frozen 1);(have zx:=HB5.out.2.2.1.lt);(have zy:=HB5.out.2.2.2.1);(have zc0:=HB5.out.2.2.1.cell 0);(have zc1:=HB5.out.2.2.1.cell 1))|(refine zQ rfl _ _ _ rfl i0 Tryz.underlying24 hi iz0 iz1 iz2 w4 w3.heap.size (.slice A3 T.length c3) (.slice (some ⟨b,off+(m+1)*2,none⟩) (ns.length -(m+1)) (cn -(m+1))) T D rfl rfl (HN3.out.box rfl) HD4.out (by have:=hTl.out;have:=hDl.out;omega) ?_;intro A5 c5 w5 hB5;have HB5:=Lib.hid hB5;clear hB5;(have hb5:=HB5.out.2.1);(have hc5:=fun (b o:Nat) (h:b<w4.heap.size)=>hb5.cell (p:=⟨b,o,none⟩) h);(have hf5:=fun (b o:Nat) (h:b<w4.heap.size)=>hb5.frozen (p:=⟨b,o,none⟩) h);(have hz5:=hb5.size);(have p5:w.heap.size<w5.heap.size:=by omega);(have ne5:¬w5.heap.size=w.heap.size:=by omega);clear hb5;(have zf0:=HB5.out.2.2.1.frozen 0);(have zf1:=HB5.out.2.2.1.frozen 1);(have zx:=HB5.out.2.2.1.lt);(have zy:=HB5.out.2.2.2.1);(have zc0:=HB5.out.2.2.1.cell 0);(have zc1:=HB5.out.2.2.1.cell 1))|(refine jv rfl _ _ _ rfl i0 Tryz.underlying24 hi iz0 iz1 iz2 w4 (.slice A3 T.length c3) (.slice (some ⟨b,off+(m+1)*2,none⟩) (ns.length -(m+1)) (cn -(m+1))) T D rfl rfl HN3.out HD4.out (by have:=hTl.out;have:=hDl.out;omega) ?_;intro A5 c5 w5 hB5;have HN5:=Lib.hid hB5;clear hB5;(have hb5:=HN5.out.2);(have hc5:=fun (b o:Nat) (h:b<w4.heap.size)=>hb5.cell (p:=⟨b,o,none⟩) h);(have hf5:=fun (b o:Nat) (h:b<w4.heap.size)=>hb5.frozen (p:=⟨b,o,none⟩) h);(have hz5:=hb5.size);(have p5:w.heap.size<w5.heap.size:=by omega);(have ne5:¬w5.heap.size=w.heap.size:=by omega);clear hb5))
   all_goals go_wp2
   all_goals go_meet
   all_goals (first|(have hF:=HB5.out.filled;rw[List.length_append] at hF;exact⟨_,A5,c5,rfl,hF⟩)|(have hF:=HN5.out.filled;rw[List.length_append] at hF;exact⟨_,A5,c5,rfl,hF⟩))
 case rest=>
  obtain⟨x,A,c,rfl,hx,hbx,hO,hon,hax⟩:=hcut;obtain⟨w6,hw6⟩:∃w6:World,w6=wc:=⟨_,rfl⟩;subst hw6;obtain⟨N,HN⟩:∃N,N=T++D:=⟨_,rfl⟩;rw[←HN] at hon hTD;have hlN:T.length+D.length=N.length:=by rw[HN,List.length_append]
  rw[hlN] at hO hon hax;clear HN hlN HT4 hD4;go_wp2
  go_loopw [10] (fun i wr=>∃j:Nat,j≤ls.length∧i= .int .i64 j∧∃A' c',OwnW w4.heap.size wr (.slice A N.length c) (.slice A' (jwo ls m p q (mn2 (t:Int) u,mx2 (t:Int) u) j).length c') N (jwo ls m p q (mn2 (t:Int) u,mx2 (t:Int) u) j)∧
    Blk wr x 27 #[.slice A N.length c,.slice A' (jwo ls m p q (mn2 (t:Int) u,mx2 (t:Int) u) j).length c']∧(∀k,zl (.slice A N.length c) (.slice A' (jwo ls m p q (mn2 (t:Int) u,mx2 (t:Int) u) j).length c') k→¬k=x)∧Below w4.heap.size w4 wr) (fun i _=>ls.length -(intOf i).toNat)
  case atStart=>exact⟨0,Nat.zero_le _,rfl,none,0,⟨hon,OwnP.nil _ _ _,by intro k _ h2;cases h2⟩,hO,(by rintro k (h|h);exact hax k h;cases h),hbx⟩
  case round=>
   obtain⟨j,hj',rfl,A',c',ho,hO,hay,hb⟩:=hrel;clear hbx hon hax a_0 a_1;have hA:=hA4.below hb n1;have hR:=hR4.below hb n2;have n1':w.heap.size<wr.heap.size:=hA.lt;have n2':w.heap.size+1<wr.heap.size:=hR.lt;have n3':x<wr.heap.size:=hO.lt;have n4':w4.heap.size≤wr.heap.size:=hb.size;obtain⟨a_0,a_1⟩:=hA.c2;obtain⟨o_0,o_1,o_f0,o_f1⟩:=hO.b2;have y0':=(hb.cell (p:=⟨b2,o2,none⟩) g2').trans y0;have y1':=(hb.cell (p:=⟨b2,o2+1,none⟩) g2').trans y1;have g3:b2<wr.heap.size:=by omega
   have hG:=VT ls m p q (mn2 (t:Int) u,mx2 (t:Int) u) j
   by_cases hlt:j<ls.length
   ·obtain⟨k0,k1⟩:=HCC.out j hlt
    have q0:=(hb.cell (p:=⟨bl,offl+j*2,none⟩) (by have:=hbw4.size;show bl<w4.heap.size;omega)).trans ((hbw4.cell (p:=⟨bl,offl+j*2,none⟩) hbl).trans k0);have q1:=(hb.cell (p:=⟨bl,offl+j*2+1,none⟩) (by have:=hbw4.size;show bl<w4.heap.size;omega)).trans ((hbw4.cell (p:=⟨bl,offl+j*2+1,none⟩) hbl).trans k1);obtain⟨⟨be1,be2⟩,be3,be4⟩:=HBD.out j hlt;have g4:bl<wr.heap.size:=by have:=hbw4.size;omega
    have d1:¬wr.heap.size=w.heap.size:=by omega
    have d2:¬wr.heap.size=x:=by omega
    have d3:¬wr.heap.size=b2:=by omega
    clear k0 k1;have c1:(0:Int)≤(j:Int):=by omega
    have c3:(j:Int)<(ls.length:Int):=by omega
    by_cases hjq:j=q
    ·have HS:Hid (jwo ls m p q (mn2 (t:Int) u,mx2 (t:Int) u) (j+1)=jwo ls m p q (mn2 (t:Int) u,mx2 (t:Int) u) j):=Lib.hid (by simp[jwo,hjq])
     have s1:((j:Int)==(q:Int))=true:=by simp[hjq]
     have s2:(j==q)=true:=by simp[hjq]
     clear hjq;generalize (ndI ls j).1=e1 at*;generalize (ndI ls j).2=e2 at*;have HB:Hid (Below w4.heap.size w4 (wr.alloc (.cells #[.int .i64 e1,.int .i64 e2] 108))):=Lib.hid (by exact bel_);go_wp2;go_roundw
     case rel=>exact⟨j+1,by omega,by go_num,A',c',by rw[HS.out];exact ho.alloc _,by rw[HS.out];exact hO.alloc _,by rw[HS.out];exact hay,HB.out⟩
     case measure=>simp[intOf];omega
    ·have s1:((j:Int)==(q:Int))=false:=by simp;omega
     have s2:(j==q)=false:=by simp[hjq]
     by_cases hjp:j=p
     ·have HS0:Hid (jwo ls m p q (mn2 (t:Int) u,mx2 (t:Int) u) (j+1)=jwo ls m p q (mn2 (t:Int) u,mx2 (t:Int) u) j++[(dnI m (mn2 (t:Int) u),dnI m (mx2 (t:Int) u))]):=Lib.hid (by subst hjp;simp[jwo,hjq,dnP])
      have s3:((j:Int)==(p:Int))=true:=by simp[hjp]
      have s4:(j==p)=true:=by simp[hjp]
      clear hjp hjq;generalize (ndI ls j).1=e1 at*;generalize (ndI ls j).2=e2 at*;generalize jwo ls m p q (mn2 (t:Int) u,mx2 (t:Int) u) j=G at*;have ee1: -1000000≤mn2 (t:Int) u∧mn2 (t:Int) u≤1000000:=by rw[xv];omega
      have ee2: -1000000≤mx2 (t:Int) u∧mx2 (t:Int) u≤1000000:=by rw[vh];omega
      obtain⟨ef1,ef2⟩:=ee1;obtain⟨ef3,ef4⟩:=ee2
      by_cases h1:(m:Int)<mn2 (t:Int) u
      ·by_cases h2:(m:Int)<mx2 (t:Int) u
       ·have HS:Hid (jwo ls m p q (mn2 (t:Int) u,mx2 (t:Int) u) (j+1)=G++[(mn2 (t:Int) u -1,mx2 (t:Int) u -1)]):=Lib.hid (by rw[HS0.out];simp[dnI,h1,h2])
        go_wp2_with (at_builtin;refine zg rfl _ _ _ rfl w4.heap.size 108 j0 Tryz.underlying25 hj jz0 jz1 jz2 (.slice A' G.length c') _ G [(mn2 (t:Int) u -1,mx2 (t:Int) u -1)] rfl rfl ((ho.2.1.alloc _).alloc _) (qR (by simp) rfl rfl rfl (by simp[maxLen])) (by simp;omega) (by simp;omega) ?_)
        intro A3 c3 w3 ho3 hg3 ha3;have hz3:=hg3.size;simp at hz3
        have hO3:=((hO.alloc (.cells #[.int .i64 (mn2 (t:Int) u -1),.int .i64 (mx2 (t:Int) u -1)] 108)).alloc (.cells #[.int .i64 (mn2 (t:Int) u -1),.int .i64 (mx2 (t:Int) u -1)] 108)).grownR hg3 (fun k hk=>hay k (.inr hk));have hn3:=((ho.1.alloc (.cells #[.int .i64 (mn2 (t:Int) u -1),.int .i64 (mx2 (t:Int) u -1)] 108)).alloc (.cells #[.int .i64 (mn2 (t:Int) u -1),.int .i64 (mx2 (t:Int) u -1)] 108)).apart hg3 (fun k hk hk2=>ho.2.2 k hk hk2);have hb3:Below w4.heap.size w4 w3:=((hb.alloc n4' _).alloc sz_ _).grown hg3 sz_ (fun k hk=>(ho.2.1.lt k hk).1);rw[show G.length+1=(G++[(mn2 (t:Int) u -1,mx2 (t:Int) u -1)]).length by simp] at ha3 ho3
        have hd3:∀k,(Value.slice A N.length c).ownBlock =some k→(Value.slice A3 (G++[(mn2 (t:Int) u -1,mx2 (t:Int) u -1)]).length c3).ownBlock =some k→False:=fun k hk hk2=>by
         have hlt:=(ho.1.lt k hk).2
         rcases ha3 with ha|ha
         ·exact ho.2.2 k hk (ha.symm.trans hk2)
         ·rw[ha] at hk2;cases hk2;omega
        have hy3:∀k,zl (.slice A N.length c) (.slice A3 (G++[(mn2 (t:Int) u -1,mx2 (t:Int) u -1)]).length c3) k→¬k=x:=by
         rintro k (hk|hk)
         ·exact hay k (.inl hk)
         ·intro e
          rcases ha3 with ha|ha
          ·exact hay k (.inr (ha.symm.trans hk)) e
          ·rw[ha] at hk;cases hk;omega
        clear ha3 hg3 hb ho hO hay a_0 a_1 o_0 o_1 o_f0 o_f1 q0 q1;obtain⟨o_0,o_1,o_f0,o_f1⟩:=hO3.b2;have HO4:Hid (OwnW w4.heap.size (w3.setCell ⟨x,1,none⟩ (.slice A3 (G.length+1) c3)) (.slice A N.length c) (.slice A3 (G++[(mn2 (t:Int) u -1,mx2 (t:Int) u -1)]).length c3) N (G++[(mn2 (t:Int) u -1,mx2 (t:Int) u -1)])):=Lib.hid (OwnW.setFar ⟨hn3,ho3,hd3⟩ (fun h=>hy3 _ h rfl) _)
        have HO5:Hid (Blk (w3.setCell ⟨x,1,none⟩ (.slice A3 (G.length+1) c3)) x 27 #[.slice A N.length c,.slice A3 (G++[(mn2 (t:Int) u -1,mx2 (t:Int) u -1)]).length c3]):=Lib.hid (by
         rw[show(G++[(mn2 (t:Int) u -1,mx2 (t:Int) u -1)]).length =G.length+1 by simp];exact hO3.set_ 1 _)
        have HB4:=Lib.hid (hb3.setCell (p:=⟨x,1,none⟩) hx (.slice A3 (G.length+1) c3));have HY:=Lib.hid hy3;clear ho3 hn3 hO3 hb3 hd3 hy3;go_wp2;go_roundw
        case rel=>exact⟨j+1,by omega,by go_num,A3,c3,by rw[HS.out];exact HO4.out,by rw[HS.out];exact HO5.out,by rw[HS.out];exact HY.out,HB4.out⟩
        case measure=>simp[intOf];omega
       ·have HS:Hid (jwo ls m p q (mn2 (t:Int) u,mx2 (t:Int) u) (j+1)=G++[(mn2 (t:Int) u -1,mx2 (t:Int) u)]):=Lib.hid (by rw[HS0.out];simp[dnI,h1,h2])
        go_wp2_with (at_builtin;refine zg rfl _ _ _ rfl w4.heap.size 108 j0 Tryz.underlying25 hj jz0 jz1 jz2 (.slice A' G.length c') _ G [(mn2 (t:Int) u -1,mx2 (t:Int) u)] rfl rfl ((ho.2.1.alloc _).alloc _) (qR (by simp) rfl rfl rfl (by simp[maxLen])) (by simp;omega) (by simp;omega) ?_)
        intro A3 c3 w3 ho3 hg3 ha3;have hz3:=hg3.size;simp at hz3
        have hO3:=((hO.alloc (.cells #[.int .i64 (mn2 (t:Int) u -1),.int .i64 (mx2 (t:Int) u)] 108)).alloc (.cells #[.int .i64 (mn2 (t:Int) u -1),.int .i64 (mx2 (t:Int) u)] 108)).grownR hg3 (fun k hk=>hay k (.inr hk));have hn3:=((ho.1.alloc (.cells #[.int .i64 (mn2 (t:Int) u -1),.int .i64 (mx2 (t:Int) u)] 108)).alloc (.cells #[.int .i64 (mn2 (t:Int) u -1),.int .i64 (mx2 (t:Int) u)] 108)).apart hg3 (fun k hk hk2=>ho.2.2 k hk hk2);have hb3:Below w4.heap.size w4 w3:=((hb.alloc n4' _).alloc sz_ _).grown hg3 sz_ (fun k hk=>(ho.2.1.lt k hk).1);rw[show G.length+1=(G++[(mn2 (t:Int) u -1,mx2 (t:Int) u)]).length by simp] at ha3 ho3
        have hd3:∀k,(Value.slice A N.length c).ownBlock =some k→(Value.slice A3 (G++[(mn2 (t:Int) u -1,mx2 (t:Int) u)]).length c3).ownBlock =some k→False:=fun k hk hk2=>by
         have hlt:=(ho.1.lt k hk).2
         rcases ha3 with ha|ha
         ·exact ho.2.2 k hk (ha.symm.trans hk2)
         ·rw[ha] at hk2;cases hk2;omega
        have hy3:∀k,zl (.slice A N.length c) (.slice A3 (G++[(mn2 (t:Int) u -1,mx2 (t:Int) u)]).length c3) k→¬k=x:=by
         rintro k (hk|hk)
         ·exact hay k (.inl hk)
         ·intro e
          rcases ha3 with ha|ha
          ·exact hay k (.inr (ha.symm.trans hk)) e
          ·rw[ha] at hk;cases hk;omega
        clear ha3 hg3 hb ho hO hay a_0 a_1 o_0 o_1 o_f0 o_f1 q0 q1;obtain⟨o_0,o_1,o_f0,o_f1⟩:=hO3.b2;have HO4:Hid (OwnW w4.heap.size (w3.setCell ⟨x,1,none⟩ (.slice A3 (G.length+1) c3)) (.slice A N.length c) (.slice A3 (G++[(mn2 (t:Int) u -1,mx2 (t:Int) u)]).length c3) N (G++[(mn2 (t:Int) u -1,mx2 (t:Int) u)])):=Lib.hid (OwnW.setFar ⟨hn3,ho3,hd3⟩ (fun h=>hy3 _ h rfl) _)
        have HO5:Hid (Blk (w3.setCell ⟨x,1,none⟩ (.slice A3 (G.length+1) c3)) x 27 #[.slice A N.length c,.slice A3 (G++[(mn2 (t:Int) u -1,mx2 (t:Int) u)]).length c3]):=Lib.hid (by
         rw[show(G++[(mn2 (t:Int) u -1,mx2 (t:Int) u)]).length =G.length+1 by simp];exact hO3.set_ 1 _)
        have HB4:=Lib.hid (hb3.setCell (p:=⟨x,1,none⟩) hx (.slice A3 (G.length+1) c3));have HY:=Lib.hid hy3;clear ho3 hn3 hO3 hb3 hd3 hy3;go_wp2;go_roundw
        case rel=>exact⟨j+1,by omega,by go_num,A3,c3,by rw[HS.out];exact HO4.out,by rw[HS.out];exact HO5.out,by rw[HS.out];exact HY.out,HB4.out⟩
        case measure=>simp[intOf];omega
      ·by_cases h2:(m:Int)<mx2 (t:Int) u
       ·have HS:Hid (jwo ls m p q (mn2 (t:Int) u,mx2 (t:Int) u) (j+1)=G++[(mn2 (t:Int) u,mx2 (t:Int) u -1)]):=Lib.hid (by rw[HS0.out];simp[dnI,h1,h2])
        go_wp2_with (at_builtin;refine zg rfl _ _ _ rfl w4.heap.size 108 j0 Tryz.underlying25 hj jz0 jz1 jz2 (.slice A' G.length c') _ G [(mn2 (t:Int) u,mx2 (t:Int) u -1)] rfl rfl ((ho.2.1.alloc _).alloc _) (qR (by simp) rfl rfl rfl (by simp[maxLen])) (by simp;omega) (by simp;omega) ?_)
        intro A3 c3 w3 ho3 hg3 ha3;have hz3:=hg3.size;simp at hz3
        have hO3:=((hO.alloc (.cells #[.int .i64 (mn2 (t:Int) u),.int .i64 (mx2 (t:Int) u -1)] 108)).alloc (.cells #[.int .i64 (mn2 (t:Int) u),.int .i64 (mx2 (t:Int) u -1)] 108)).grownR hg3 (fun k hk=>hay k (.inr hk));have hn3:=((ho.1.alloc (.cells #[.int .i64 (mn2 (t:Int) u),.int .i64 (mx2 (t:Int) u -1)] 108)).alloc (.cells #[.int .i64 (mn2 (t:Int) u),.int .i64 (mx2 (t:Int) u -1)] 108)).apart hg3 (fun k hk hk2=>ho.2.2 k hk hk2);have hb3:Below w4.heap.size w4 w3:=((hb.alloc n4' _).alloc sz_ _).grown hg3 sz_ (fun k hk=>(ho.2.1.lt k hk).1);rw[show G.length+1=(G++[(mn2 (t:Int) u,mx2 (t:Int) u -1)]).length by simp] at ha3 ho3
        have hd3:∀k,(Value.slice A N.length c).ownBlock =some k→(Value.slice A3 (G++[(mn2 (t:Int) u,mx2 (t:Int) u -1)]).length c3).ownBlock =some k→False:=fun k hk hk2=>by
         have hlt:=(ho.1.lt k hk).2
         rcases ha3 with ha|ha
         ·exact ho.2.2 k hk (ha.symm.trans hk2)
         ·rw[ha] at hk2;cases hk2;omega
        have hy3:∀k,zl (.slice A N.length c) (.slice A3 (G++[(mn2 (t:Int) u,mx2 (t:Int) u -1)]).length c3) k→¬k=x:=by
         rintro k (hk|hk)
         ·exact hay k (.inl hk)
         ·intro e
          rcases ha3 with ha|ha
          ·exact hay k (.inr (ha.symm.trans hk)) e
          ·rw[ha] at hk;cases hk;omega
        clear ha3 hg3 hb ho hO hay a_0 a_1 o_0 o_1 o_f0 o_f1 q0 q1;obtain⟨o_0,o_1,o_f0,o_f1⟩:=hO3.b2;have HO4:Hid (OwnW w4.heap.size (w3.setCell ⟨x,1,none⟩ (.slice A3 (G.length+1) c3)) (.slice A N.length c) (.slice A3 (G++[(mn2 (t:Int) u,mx2 (t:Int) u -1)]).length c3) N (G++[(mn2 (t:Int) u,mx2 (t:Int) u -1)])):=Lib.hid (OwnW.setFar ⟨hn3,ho3,hd3⟩ (fun h=>hy3 _ h rfl) _)
        have HO5:Hid (Blk (w3.setCell ⟨x,1,none⟩ (.slice A3 (G.length+1) c3)) x 27 #[.slice A N.length c,.slice A3 (G++[(mn2 (t:Int) u,mx2 (t:Int) u -1)]).length c3]):=Lib.hid (by
         rw[show(G++[(mn2 (t:Int) u,mx2 (t:Int) u -1)]).length =G.length+1 by simp];exact hO3.set_ 1 _)
        have HB4:=Lib.hid (hb3.setCell (p:=⟨x,1,none⟩) hx (.slice A3 (G.length+1) c3));have HY:=Lib.hid hy3;clear ho3 hn3 hO3 hb3 hd3 hy3;go_wp2;go_roundw
        case rel=>exact⟨j+1,by omega,by go_num,A3,c3,by rw[HS.out];exact HO4.out,by rw[HS.out];exact HO5.out,by rw[HS.out];exact HY.out,HB4.out⟩
        case measure=>simp[intOf];omega
       ·have HS:Hid (jwo ls m p q (mn2 (t:Int) u,mx2 (t:Int) u) (j+1)=G++[(mn2 (t:Int) u,mx2 (t:Int) u)]):=Lib.hid (by rw[HS0.out];simp[dnI,h1,h2])
        go_wp2_with (at_builtin;refine zg rfl _ _ _ rfl w4.heap.size 108 j0 Tryz.underlying25 hj jz0 jz1 jz2 (.slice A' G.length c') _ G [(mn2 (t:Int) u,mx2 (t:Int) u)] rfl rfl ((ho.2.1.alloc _).alloc _) (qR (by simp) rfl rfl rfl (by simp[maxLen])) (by simp;omega) (by simp;omega) ?_)
        intro A3 c3 w3 ho3 hg3 ha3;have hz3:=hg3.size;simp at hz3
        have hO3:=((hO.alloc (.cells #[.int .i64 (mn2 (t:Int) u),.int .i64 (mx2 (t:Int) u)] 108)).alloc (.cells #[.int .i64 (mn2 (t:Int) u),.int .i64 (mx2 (t:Int) u)] 108)).grownR hg3 (fun k hk=>hay k (.inr hk));have hn3:=((ho.1.alloc (.cells #[.int .i64 (mn2 (t:Int) u),.int .i64 (mx2 (t:Int) u)] 108)).alloc (.cells #[.int .i64 (mn2 (t:Int) u),.int .i64 (mx2 (t:Int) u)] 108)).apart hg3 (fun k hk hk2=>ho.2.2 k hk hk2);have hb3:Below w4.heap.size w4 w3:=((hb.alloc n4' _).alloc sz_ _).grown hg3 sz_ (fun k hk=>(ho.2.1.lt k hk).1);rw[show G.length+1=(G++[(mn2 (t:Int) u,mx2 (t:Int) u)]).length by simp] at ha3 ho3
        have hd3:∀k,(Value.slice A N.length c).ownBlock =some k→(Value.slice A3 (G++[(mn2 (t:Int) u,mx2 (t:Int) u)]).length c3).ownBlock =some k→False:=fun k hk hk2=>by
         have hlt:=(ho.1.lt k hk).2
         rcases ha3 with ha|ha
         ·exact ho.2.2 k hk (ha.symm.trans hk2)
         ·rw[ha] at hk2;cases hk2;omega
        have hy3:∀k,zl (.slice A N.length c) (.slice A3 (G++[(mn2 (t:Int) u,mx2 (t:Int) u)]).length c3) k→¬k=x:=by
         rintro k (hk|hk)
         ·exact hay k (.inl hk)
         ·intro e
          rcases ha3 with ha|ha
          ·exact hay k (.inr (ha.symm.trans hk)) e
          ·rw[ha] at hk;cases hk;omega
        clear ha3 hg3 hb ho hO hay a_0 a_1 o_0 o_1 o_f0 o_f1 q0 q1;obtain⟨o_0,o_1,o_f0,o_f1⟩:=hO3.b2;have HO4:Hid (OwnW w4.heap.size (w3.setCell ⟨x,1,none⟩ (.slice A3 (G.length+1) c3)) (.slice A N.length c) (.slice A3 (G++[(mn2 (t:Int) u,mx2 (t:Int) u)]).length c3) N (G++[(mn2 (t:Int) u,mx2 (t:Int) u)])):=Lib.hid (OwnW.setFar ⟨hn3,ho3,hd3⟩ (fun h=>hy3 _ h rfl) _)
        have HO5:Hid (Blk (w3.setCell ⟨x,1,none⟩ (.slice A3 (G.length+1) c3)) x 27 #[.slice A N.length c,.slice A3 (G++[(mn2 (t:Int) u,mx2 (t:Int) u)]).length c3]):=Lib.hid (by
         rw[show(G++[(mn2 (t:Int) u,mx2 (t:Int) u)]).length =G.length+1 by simp];exact hO3.set_ 1 _)
        have HB4:=Lib.hid (hb3.setCell (p:=⟨x,1,none⟩) hx (.slice A3 (G.length+1) c3));have HY:=Lib.hid hy3;clear ho3 hn3 hO3 hb3 hd3 hy3;go_wp2;go_roundw
        case rel=>exact⟨j+1,by omega,by go_num,A3,c3,by rw[HS.out];exact HO4.out,by rw[HS.out];exact HO5.out,by rw[HS.out];exact HY.out,HB4.out⟩
        case measure=>simp[intOf];omega
     ·have HS0:Hid (jwo ls m p q (mn2 (t:Int) u,mx2 (t:Int) u) (j+1)=jwo ls m p q (mn2 (t:Int) u,mx2 (t:Int) u) j++[(dnI m (ndI ls j).1,dnI m (ndI ls j).2)]):=Lib.hid (by simp[jwo,hjq,hjp,dnP])
      have s3:((j:Int)==(p:Int))=false:=by simp;omega
      have s4:(j==p)=false:=by simp[hjp]
      clear hjp hjq;generalize (ndI ls j).1=e1 at*;generalize (ndI ls j).2=e2 at*;generalize jwo ls m p q (mn2 (t:Int) u,mx2 (t:Int) u) j=G at*
      by_cases h1:(m:Int)<e1
      ·by_cases h2:(m:Int)<e2
       ·have HS:Hid (jwo ls m p q (mn2 (t:Int) u,mx2 (t:Int) u) (j+1)=G++[(e1 -1,e2 -1)]):=Lib.hid (by rw[HS0.out];simp[dnI,h1,h2])
        go_wp2_with (at_builtin;refine zg rfl _ _ _ rfl w4.heap.size 108 j0 Tryz.underlying25 hj jz0 jz1 jz2 (.slice A' G.length c') _ G [(e1 -1,e2 -1)] rfl rfl ((ho.2.1.alloc _).alloc _) (qR (by simp) rfl rfl rfl (by simp[maxLen])) (by simp;omega) (by simp;omega) ?_)
        intro A3 c3 w3 ho3 hg3 ha3;have hz3:=hg3.size;simp at hz3
        have hO3:=((hO.alloc (.cells #[.int .i64 (e1 -1),.int .i64 (e2 -1)] 108)).alloc (.cells #[.int .i64 (e1 -1),.int .i64 (e2 -1)] 108)).grownR hg3 (fun k hk=>hay k (.inr hk));have hn3:=((ho.1.alloc (.cells #[.int .i64 (e1 -1),.int .i64 (e2 -1)] 108)).alloc (.cells #[.int .i64 (e1 -1),.int .i64 (e2 -1)] 108)).apart hg3 (fun k hk hk2=>ho.2.2 k hk hk2);have hb3:Below w4.heap.size w4 w3:=((hb.alloc n4' _).alloc sz_ _).grown hg3 sz_ (fun k hk=>(ho.2.1.lt k hk).1);rw[show G.length+1=(G++[(e1 -1,e2 -1)]).length by simp] at ha3 ho3
        have hd3:∀k,(Value.slice A N.length c).ownBlock =some k→(Value.slice A3 (G++[(e1 -1,e2 -1)]).length c3).ownBlock =some k→False:=fun k hk hk2=>by
         have hlt:=(ho.1.lt k hk).2
         rcases ha3 with ha|ha
         ·exact ho.2.2 k hk (ha.symm.trans hk2)
         ·rw[ha] at hk2;cases hk2;omega
        have hy3:∀k,zl (.slice A N.length c) (.slice A3 (G++[(e1 -1,e2 -1)]).length c3) k→¬k=x:=by
         rintro k (hk|hk)
         ·exact hay k (.inl hk)
         ·intro e
          rcases ha3 with ha|ha
          ·exact hay k (.inr (ha.symm.trans hk)) e
          ·rw[ha] at hk;cases hk;omega
        clear ha3 hg3 hb ho hO hay a_0 a_1 o_0 o_1 o_f0 o_f1 q0 q1;obtain⟨o_0,o_1,o_f0,o_f1⟩:=hO3.b2;have HO4:Hid (OwnW w4.heap.size (w3.setCell ⟨x,1,none⟩ (.slice A3 (G.length+1) c3)) (.slice A N.length c) (.slice A3 (G++[(e1 -1,e2 -1)]).length c3) N (G++[(e1 -1,e2 -1)])):=Lib.hid (OwnW.setFar ⟨hn3,ho3,hd3⟩ (fun h=>hy3 _ h rfl) _)
        have HO5:Hid (Blk (w3.setCell ⟨x,1,none⟩ (.slice A3 (G.length+1) c3)) x 27 #[.slice A N.length c,.slice A3 (G++[(e1 -1,e2 -1)]).length c3]):=Lib.hid (by
         rw[show(G++[(e1 -1,e2 -1)]).length =G.length+1 by simp];exact hO3.set_ 1 _)
        have HB4:=Lib.hid (hb3.setCell (p:=⟨x,1,none⟩) hx (.slice A3 (G.length+1) c3));have HY:=Lib.hid hy3;clear ho3 hn3 hO3 hb3 hd3 hy3;go_wp2;go_roundw
        case rel=>exact⟨j+1,by omega,by go_num,A3,c3,by rw[HS.out];exact HO4.out,by rw[HS.out];exact HO5.out,by rw[HS.out];exact HY.out,HB4.out⟩
        case measure=>simp[intOf];omega
       ·have HS:Hid (jwo ls m p q (mn2 (t:Int) u,mx2 (t:Int) u) (j+1)=G++[(e1 -1,e2)]):=Lib.hid (by rw[HS0.out];simp[dnI,h1,h2])
        go_wp2_with (at_builtin;refine zg rfl _ _ _ rfl w4.heap.size 108 j0 Tryz.underlying25 hj jz0 jz1 jz2 (.slice A' G.length c') _ G [(e1 -1,e2)] rfl rfl ((ho.2.1.alloc _).alloc _) (qR (by simp) rfl rfl rfl (by simp[maxLen])) (by simp;omega) (by simp;omega) ?_)
        intro A3 c3 w3 ho3 hg3 ha3;have hz3:=hg3.size;simp at hz3
        have hO3:=((hO.alloc (.cells #[.int .i64 (e1 -1),.int .i64 (e2)] 108)).alloc (.cells #[.int .i64 (e1 -1),.int .i64 (e2)] 108)).grownR hg3 (fun k hk=>hay k (.inr hk));have hn3:=((ho.1.alloc (.cells #[.int .i64 (e1 -1),.int .i64 (e2)] 108)).alloc (.cells #[.int .i64 (e1 -1),.int .i64 (e2)] 108)).apart hg3 (fun k hk hk2=>ho.2.2 k hk hk2);have hb3:Below w4.heap.size w4 w3:=((hb.alloc n4' _).alloc sz_ _).grown hg3 sz_ (fun k hk=>(ho.2.1.lt k hk).1);rw[show G.length+1=(G++[(e1 -1,e2)]).length by simp] at ha3 ho3
        have hd3:∀k,(Value.slice A N.length c).ownBlock =some k→(Value.slice A3 (G++[(e1 -1,e2)]).length c3).ownBlock =some k→False:=fun k hk hk2=>by
         have hlt:=(ho.1.lt k hk).2
         rcases ha3 with ha|ha
         ·exact ho.2.2 k hk (ha.symm.trans hk2)
         ·rw[ha] at hk2;cases hk2;omega
        have hy3:∀k,zl (.slice A N.length c) (.slice A3 (G++[(e1 -1,e2)]).length c3) k→¬k=x:=by
         rintro k (hk|hk)
         ·exact hay k (.inl hk)
         ·intro e
          rcases ha3 with ha|ha
          ·exact hay k (.inr (ha.symm.trans hk)) e
          ·rw[ha] at hk;cases hk;omega
        clear ha3 hg3 hb ho hO hay a_0 a_1 o_0 o_1 o_f0 o_f1 q0 q1;obtain⟨o_0,o_1,o_f0,o_f1⟩:=hO3.b2;have HO4:Hid (OwnW w4.heap.size (w3.setCell ⟨x,1,none⟩ (.slice A3 (G.length+1) c3)) (.slice A N.length c) (.slice A3 (G++[(e1 -1,e2)]).length c3) N (G++[(e1 -1,e2)])):=Lib.hid (OwnW.setFar ⟨hn3,ho3,hd3⟩ (fun h=>hy3 _ h rfl) _)
        have HO5:Hid (Blk (w3.setCell ⟨x,1,none⟩ (.slice A3 (G.length+1) c3)) x 27 #[.slice A N.length c,.slice A3 (G++[(e1 -1,e2)]).length c3]):=Lib.hid (by
         rw[show(G++[(e1 -1,e2)]).length =G.length+1 by simp];exact hO3.set_ 1 _)
        have HB4:=Lib.hid (hb3.setCell (p:=⟨x,1,none⟩) hx (.slice A3 (G.length+1) c3));have HY:=Lib.hid hy3;clear ho3 hn3 hO3 hb3 hd3 hy3;go_wp2;go_roundw
        case rel=>exact⟨j+1,by omega,by go_num,A3,c3,by rw[HS.out];exact HO4.out,by rw[HS.out];exact HO5.out,by rw[HS.out];exact HY.out,HB4.out⟩
        case measure=>simp[intOf];omega
      ·by_cases h2:(m:Int)<e2
       ·have HS:Hid (jwo ls m p q (mn2 (t:Int) u,mx2 (t:Int) u) (j+1)=G++[(e1,e2 -1)]):=Lib.hid (by rw[HS0.out];simp[dnI,h1,h2])
        go_wp2_with (at_builtin;refine zg rfl _ _ _ rfl w4.heap.size 108 j0 Tryz.underlying25 hj jz0 jz1 jz2 (.slice A' G.length c') _ G [(e1,e2 -1)] rfl rfl ((ho.2.1.alloc _).alloc _) (qR (by simp) rfl rfl rfl (by simp[maxLen])) (by simp;omega) (by simp;omega) ?_)
        intro A3 c3 w3 ho3 hg3 ha3;have hz3:=hg3.size;simp at hz3
        have hO3:=((hO.alloc (.cells #[.int .i64 (e1),.int .i64 (e2 -1)] 108)).alloc (.cells #[.int .i64 (e1),.int .i64 (e2 -1)] 108)).grownR hg3 (fun k hk=>hay k (.inr hk));have hn3:=((ho.1.alloc (.cells #[.int .i64 (e1),.int .i64 (e2 -1)] 108)).alloc (.cells #[.int .i64 (e1),.int .i64 (e2 -1)] 108)).apart hg3 (fun k hk hk2=>ho.2.2 k hk hk2);have hb3:Below w4.heap.size w4 w3:=((hb.alloc n4' _).alloc sz_ _).grown hg3 sz_ (fun k hk=>(ho.2.1.lt k hk).1);rw[show G.length+1=(G++[(e1,e2 -1)]).length by simp] at ha3 ho3
        have hd3:∀k,(Value.slice A N.length c).ownBlock =some k→(Value.slice A3 (G++[(e1,e2 -1)]).length c3).ownBlock =some k→False:=fun k hk hk2=>by
         have hlt:=(ho.1.lt k hk).2
         rcases ha3 with ha|ha
         ·exact ho.2.2 k hk (ha.symm.trans hk2)
         ·rw[ha] at hk2;cases hk2;omega
        have hy3:∀k,zl (.slice A N.length c) (.slice A3 (G++[(e1,e2 -1)]).length c3) k→¬k=x:=by
         rintro k (hk|hk)
         ·exact hay k (.inl hk)
         ·intro e
          rcases ha3 with ha|ha
          ·exact hay k (.inr (ha.symm.trans hk)) e
          ·rw[ha] at hk;cases hk;omega
        clear ha3 hg3 hb ho hO hay a_0 a_1 o_0 o_1 o_f0 o_f1 q0 q1;obtain⟨o_0,o_1,o_f0,o_f1⟩:=hO3.b2;have HO4:Hid (OwnW w4.heap.size (w3.setCell ⟨x,1,none⟩ (.slice A3 (G.length+1) c3)) (.slice A N.length c) (.slice A3 (G++[(e1,e2 -1)]).length c3) N (G++[(e1,e2 -1)])):=Lib.hid (OwnW.setFar ⟨hn3,ho3,hd3⟩ (fun h=>hy3 _ h rfl) _)
        have HO5:Hid (Blk (w3.setCell ⟨x,1,none⟩ (.slice A3 (G.length+1) c3)) x 27 #[.slice A N.length c,.slice A3 (G++[(e1,e2 -1)]).length c3]):=Lib.hid (by
         rw[show(G++[(e1,e2 -1)]).length =G.length+1 by simp];exact hO3.set_ 1 _)
        have HB4:=Lib.hid (hb3.setCell (p:=⟨x,1,none⟩) hx (.slice A3 (G.length+1) c3));have HY:=Lib.hid hy3;clear ho3 hn3 hO3 hb3 hd3 hy3;go_wp2;go_roundw
        case rel=>exact⟨j+1,by omega,by go_num,A3,c3,by rw[HS.out];exact HO4.out,by rw[HS.out];exact HO5.out,by rw[HS.out];exact HY.out,HB4.out⟩
        case measure=>simp[intOf];omega
       ·have HS:Hid (jwo ls m p q (mn2 (t:Int) u,mx2 (t:Int) u) (j+1)=G++[(e1,e2)]):=Lib.hid (by rw[HS0.out];simp[dnI,h1,h2])
        go_wp2_with (at_builtin;refine zg rfl _ _ _ rfl w4.heap.size 108 j0 Tryz.underlying25 hj jz0 jz1 jz2 (.slice A' G.length c') _ G [(e1,e2)] rfl rfl ((ho.2.1.alloc _).alloc _) (qR (by simp) rfl rfl rfl (by simp[maxLen])) (by simp;omega) (by simp;omega) ?_)
        intro A3 c3 w3 ho3 hg3 ha3;have hz3:=hg3.size;simp at hz3
        have hO3:=((hO.alloc (.cells #[.int .i64 (e1),.int .i64 (e2)] 108)).alloc (.cells #[.int .i64 (e1),.int .i64 (e2)] 108)).grownR hg3 (fun k hk=>hay k (.inr hk));have hn3:=((ho.1.alloc (.cells #[.int .i64 (e1),.int .i64 (e2)] 108)).alloc (.cells #[.int .i64 (e1),.int .i64 (e2)] 108)).apart hg3 (fun k hk hk2=>ho.2.2 k hk hk2);have hb3:Below w4.heap.size w4 w3:=((hb.alloc n4' _).alloc sz_ _).grown hg3 sz_ (fun k hk=>(ho.2.1.lt k hk).1);rw[show G.length+1=(G++[(e1,e2)]).length by simp] at ha3 ho3
        have hd3:∀k,(Value.slice A N.length c).ownBlock =some k→(Value.slice A3 (G++[(e1,e2)]).length c3).ownBlock =some k→False:=fun k hk hk2=>by
         have hlt:=(ho.1.lt k hk).2
         rcases ha3 with ha|ha
         ·exact ho.2.2 k hk (ha.symm.trans hk2)
         ·rw[ha] at hk2;cases hk2;omega
        have hy3:∀k,zl (.slice A N.length c) (.slice A3 (G++[(e1,e2)]).length c3) k→¬k=x:=by
         rintro k (hk|hk)
         ·exact hay k (.inl hk)
         ·intro e
          rcases ha3 with ha|ha
          ·exact hay k (.inr (ha.symm.trans hk)) e
          ·rw[ha] at hk;cases hk;omega
        clear ha3 hg3 hb ho hO hay a_0 a_1 o_0 o_1 o_f0 o_f1 q0 q1;obtain⟨o_0,o_1,o_f0,o_f1⟩:=hO3.b2;have HO4:Hid (OwnW w4.heap.size (w3.setCell ⟨x,1,none⟩ (.slice A3 (G.length+1) c3)) (.slice A N.length c) (.slice A3 (G++[(e1,e2)]).length c3) N (G++[(e1,e2)])):=Lib.hid (OwnW.setFar ⟨hn3,ho3,hd3⟩ (fun h=>hy3 _ h rfl) _)
        have HO5:Hid (Blk (w3.setCell ⟨x,1,none⟩ (.slice A3 (G.length+1) c3)) x 27 #[.slice A N.length c,.slice A3 (G++[(e1,e2)]).length c3]):=Lib.hid (by
         rw[show(G++[(e1,e2)]).length =G.length+1 by simp];exact hO3.set_ 1 _)
        have HB4:=Lib.hid (hb3.setCell (p:=⟨x,1,none⟩) hx (.slice A3 (G.length+1) c3));have HY:=Lib.hid hy3;clear ho3 hn3 hO3 hb3 hd3 hy3;go_wp2;go_roundw
        case rel=>exact⟨j+1,by omega,by go_num,A3,c3,by rw[HS.out];exact HO4.out,by rw[HS.out];exact HO5.out,by rw[HS.out];exact HY.out,HB4.out⟩
        case measure=>simp[intOf];omega
   ·have hjj:j=ls.length:=by omega
    subst hjj;obtain⟨G,HGe⟩:∃G,G=jwo ls m p q (mn2 (t:Int) u,mx2 (t:Int) u) ls.length:=⟨_,rfl⟩;rw[←HGe] at ho hO hay HCL;clear HGe o_0 o_1 o_f0 o_f1;obtain⟨o_0,o_1,o_f0,o_f1⟩:=hO.b2;obtain⟨bw,hbwe⟩:∃b,winB (kc ns m) (kf ls m)=b:=⟨_,rfl⟩;have HBW:=Lib.hid hbwe;have hC:winB N G=bw:=by rw[←hTD.out,←HCL.out];exact hbwe
    clear hbwe;have hbww:Below w.heap.size w wr:=hbw4.trans (hb.mono hbw4.size)
    go_wp2_with fail
    refine(zE _ _ N G bw _ ho.1.reads ho.2.1.reads hC).mono ?_
    rintro e w7 ⟨rfl,hb7⟩;have hz7:=hb7.size;have hA7:=hA.below hb7 n1';have hR7:=hR.below hb7 n2';have hO7:=hO.below hb7 n3';have ho7:=ho.kept hb7;have hbw7:=hbww.trans (hb7.mono hbww.size);have n7:w.heap.size<w7.heap.size:=hA7.lt;have n8:w.heap.size+1<w7.heap.size:=hR7.lt;have d1:¬x=w.heap.size+1:=by omega
    clear hb7 hA hR hO ho hb hbww hay a_0 a_1 o_0 o_1 o_f0 o_f1 y0' y1' hC
    cases bw
    ·have EB:qK ns ls m=false:=by unfold qK;rw[HBW.out,Bool.and_false]
     have EN:q9 ns ls m=ns:=by unfold q9;rw[EB];rfl
     have EL:qa ns ls m=ls:=by unfold qa;rw[EB];rfl
     obtain⟨a_0,a_1⟩:=hA7.c2
     go_wp2_with fail
     refine(qg _ _ ns ls _ (hn.below hbw7) (hl.below hbw7) h1 h2).mono ?_
     rintro e w8 ⟨An1,cn1,Al1,cl1,rfl,ho8,hb8⟩;have hz8:=hb8.size;have hR8:=hR7.below hb8 n8;have hbw8:=hbw7.trans (hb8.mono hbw7.size);have hOO:=Lib.hid (((ho8.setLow (p:=⟨w.heap.size+1,0,none⟩) n8 (.slice An1 ns.length cn1)).setLow (p:=⟨w.heap.size+1,1,none⟩) n8 (.slice Al1 ls.length cl1)).mono (show w.heap.size≤_ by omega));have HB:=Lib.hid ((hbw8.setCell (p:=⟨w.heap.size+1,0,none⟩) sz_ (.slice An1 ns.length cn1)).setCell (p:=⟨w.heap.size+1,1,none⟩) sz_ (.slice Al1 ls.length cl1));clear ho8 hbw8 hb8 hA7 hR7 hO7 ho7 hbw7 a_0 a_1;obtain⟨r_0,r_1,r_f0,r_f1⟩:=hR8.b2;go_wp2;exact bodyPost_ret (v:= .tuple #[.agg #[.slice An1 ns.length cn1,.slice Al1 ls.length cl1],.bool false]) (by simp[results,Tryz.results109,go_sem,r_0,r_1]) rfl (by show zC (q9 ns ls m) (qa ns ls m) (qK ns ls m) w _ _;rw[EB,EN,EL];exact zC.mk rfl rfl rfl hOO.out HB.out)
    ·have EB:qK ns ls m=true:=by unfold qK;rw[HBW.out,hs];rfl
     have EN:q9 ns ls m=N:=by unfold q9;rw[EB,hTD.out];rfl
     have EL:qa ns ls m=G:=by unfold qa;rw[EB,HCL.out];rfl
     have hOO:=Lib.hid (((ho7.setLow (p:=⟨w.heap.size+1,0,none⟩) n2 (.slice A N.length c)).setLow (p:=⟨w.heap.size+1,1,none⟩) n2 (.slice A' G.length c')).mono (show w.heap.size≤_ by omega));have HB:=Lib.hid ((hbw7.setCell (p:=⟨w.heap.size+1,0,none⟩) sz_ (.slice A N.length c)).setCell (p:=⟨w.heap.size+1,1,none⟩) sz_ (.slice A' G.length c'));clear ho7 hbw7 hA7;obtain⟨r_0,r_1,r_f0,r_f1⟩:=hR7.b2;obtain⟨o_0,o_1,o_f0,o_f1⟩:=hO7.b2;clear hR7 hO7;go_wp2;exact bodyPost_ret (v:= .tuple #[.agg #[.slice A N.length c,.slice A' G.length c'],.bool true]) (by simp[results,Tryz.results109,go_sem,r_0,r_1,o_0,o_1]) rfl (by show zC (q9 ns ls m) (qa ns ls m) (qK ns ls m) w _ _;rw[EB,EN,EL];exact zC.mk rfl rfl rfl hOO.out HB.out)
theorem z3r (vn vl:Value) (ns ls:List Pr) (k:Int) (w:World) (hn:RP w vn ns) (hl:RP w vl ls) (h1:ns.length≤1048576) (h2:ls.length≤1048576):
  Calls Tryz.prog 109 #[.agg #[vn,vl],.int .i64 k] w (fun e w'=>zC (q9 ns ls k) (qa ns ls k) (qK ns ls k) w e w'):=by
 cases hs:zJ ns ls k
 ·have EB:qK ns ls k=false:=by unfold qK;rw[hs];rfl
  have EN:q9 ns ls k=ns:=by unfold q9;rw[EB];rfl
  have EL:qa ns ls k=ls:=by unfold qa;rw[EB];rfl
  rw[EB,EN,EL];exact z4D vn vl ns ls k w hn hl h1 h2 hs
 ·obtain⟨m,p,q,t,u,rfl,hk,h⟩:=z1Q hs
  have hm:=h.hm;obtain⟨An,cn,rfl,hcn,_,hcell⟩:=hn.form;obtain⟨b,off,rfl,_⟩:=hcell (by omega);exact z3E vl ns ls (ns.take m) (ns.drop (m+1)) b off cn m p q t u w hn hl h1 h2 hcn (RP.take hn m (by omega)) (Lib.hid (by simp;omega)) (RP.drop hn (m+1) (by omega)) (Lib.hid (by simp)) hs hk h (Lib.hid h.cn)
end Go.Proofs.YtnjcpljhmhdhkaaGreat
