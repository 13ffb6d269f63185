/- part 44 -/
import Derived.Test.YtnjcpljhmhdhkaaGreatTPk43
import Derived.Deep.RegionHeld3
set_option linter.unusedSimpArgs false
set_option linter.unusedVariables false
set_option maxRecDepth 100000
set_option maxHeartbeats 8000000
namespace Go.Proofs.YtnjcpljhmhdhkaaGreat
open Go.RowKit
theorem al1 {w:World} {o1:Obj} {b i:Nat} {x:Value} (h:w.cell? ⟨b,i,none⟩=some x) (hb:b<w.heap.size):(w.alloc o1).cell? ⟨b,i,none⟩=some x:=
 (((Below.refl w.heap.size w).alloc (Nat.le_refl _) o1).cell (p:=⟨b,i,none⟩) hb).trans h
theorem new3 {w:World} {x y z:Value} {t:TypeId}:(w.alloc (.cells #[x,y,z] t)).cell? ⟨w.heap.size,0,none⟩=some x∧(w.alloc (.cells #[x,y,z] t)).cell? ⟨w.heap.size,1,none⟩=some y∧(w.alloc (.cells #[x,y,z] t)).cell? ⟨w.heap.size,2,none⟩=some z:=
 ⟨(Blk.newAt rfl).cell 0,(Blk.newAt rfl).cell 1,(Blk.newAt rfl).cell 2⟩
theorem VO {l:List Dp} {d:Dp} (h:qW l=false∨qW (l++[d])=false):adpL l d=l∧adpB l d=false:=by
 have hb:adpB l d=false:=by unfold adpB;rcases h with h|h<;>simp[h]
 exact⟨by unfold adpL;rw[hb];rfl,hb⟩
theorem z2H {l:List Dp} {d:Dp} (h1:qW l=true) (h2:qW (l++[d])=true):adpL l d=l++[d]∧adpB l d=true:=by
 have hb:adpB l d=true:=by unfold adpB;rw[h1,h2];rfl
 exact⟨by unfold adpL;rw[hb];rfl,hb⟩
theorem x6 {w:World} {ops:Array Oper} {o:Oper} {a:Act} {K:Act→World→Prop} {Q:Exit→Act→World→Prop} {E:Prop} (hgd:o.guard=none) (s x:Operand)
  (ho:o.op= .call { callee:= .builtin .append,args:= #[s,x],argTypes:= #[32,32] })
  (base:Nat) (v:Value) (ds:List Dp) (d:Dp) (g:Nat) (hs:a.eval s=v) (hx:a.eval x= .slice (some ⟨g,0,none⟩) 1 1) (hg:w.cell? ⟨g,0,none⟩=some (.int .i64 d.k)∧w.cell? ⟨g,1,none⟩=some (.int .i64 d.a)∧w.cell? ⟨g,2,none⟩=some (.int .i64 d.b))
  (hgl:g<w.heap.size) (hown:zH base w v ds) (hlen:ds.length≤1048576) (hbase:base≤w.heap.size)
  (h:∀A c w',zH base w' (.slice A (ds.length+1) c) (ds++[d])→w.grownBy w' v.ownBlock→K (a.put o.dst (.slice A (ds.length+1) c)) w'):
  if Region.wanted o (yielded ops a.tmps)=true then Oper.wp Tryz.prog o a w K Q else E:=by
 obtain⟨i,hi,hz,hsize,hby⟩:=info_parts kJ
 have hr:RS w 3 (.slice (some ⟨g,0,none⟩) 1 1) 1 d.cs:=⟨rfl,some ⟨g,0,none⟩,1,rfl,Nat.le_refl _,by simp[maxLen],fun _=>⟨g,0,rfl,hgl,fun j u hj=>by
  match j,hj with
  |0,hj=>cases hj;exact hg.1
  |1,hj=>cases hj;exact hg.2.1
  |2,hj=>cases hj;exact hg.2.2
  |j+3,hj=>simp[Dp.cs] at hj⟩⟩
 refine k6 hgd s x 32 ho base 48 i (.agg #[.int .i64 0,.int .i64 0,.int .i64 0]) 3 24 Tryz.underlying32 hi hz hsize hby rfl (by decide) v _ ds.length 1 _ d.cs hs hx hown hr
  (by intro y hy;simp[Dp.cs] at hy;rcases hy with rfl|rfl|rfl<;>rfl) (by omega) (by decide) hbase fun A c w' e1 e2 _=>h A c w' (by
   have e4:(ds++[d]).flatMap Dp.cs=ds.flatMap Dp.cs++d.cs:=by simp
   unfold zH;rw[e4,show(ds++[d]).length =ds.length+1 by simp];exact e1) e2
theorem Jz {w:World} {ops:Array Oper} {o:Oper} {a:Act} {K:Act→World→Prop} {Q:Exit→Act→World→Prop} {E:Prop} (hgd:o.guard=none) (s x:Operand)
  (ho:o.op= .call { callee:= .builtin .append,args:= #[s,x],argTypes:= #[32,32] })
  (base:Nat) (g:Nat) (v:Value) (l:List Dp) (hs:a.eval s= .slice (some ⟨g,0,none⟩) 0 0) (hx:a.eval x=v) (hown:zH base w (.slice (some ⟨g,0,none⟩) 0 0) []) (hr:RDp w v l) (hlen:l.length≤1048576) (hbase:base≤w.heap.size)
  (h:∀A c w',zH base w' (.slice A l.length c) l→w.grownBy w' (some g)→K (a.put o.dst (.slice A l.length c)) w'):
  if Region.wanted o (yielded ops a.tmps)=true then Oper.wp Tryz.prog o a w K Q else E:=by
 obtain⟨i,hi,hz,hsize,hby⟩:=info_parts kJ
 refine k6 hgd s x 32 ho base 48 i (.agg #[.int .i64 0,.int .i64 0,.int .i64 0]) 3 24 Tryz.underlying32 hi hz hsize hby rfl (by decide) _ v 0 l.length [] (l.flatMap Dp.cs) hs hx hown hr
  (jO l) (by omega) (by decide) hbase fun A c w' e1 e2 _=>?_
 rw[Nat.zero_add] at e1⊢;exact h A c w' e1 e2
theorem z0x (v:Value) (l:List Dp) (d:Dp) (w:World) (h:RDp w v l) (hle:l.length≤1048576):
  Calls Tryz.prog 112 #[v,.agg #[.int .i64 d.k,.int .i64 d.a,.int .i64 d.b]] w (z42 (adpL l d) (adpB l d) w):=by
 obtain⟨E,hE⟩:∃E,adpL l d=E:=⟨_,rfl⟩;obtain⟨BB,hBB⟩:∃b,adpB l d=b:=⟨_,rfl⟩;rw[hE,hBB];have HE:=Lib.hid hE;have HBB:=Lib.hid hBB;clear hE hBB;obtain⟨w0,hw0⟩:∃u,u=w.alloc (.cells #[.int .i64 d.k,.int .i64 d.a,.int .i64 d.b] 48):=⟨_,rfl⟩;have hX0:Blk w0 w.heap.size 48 #[.int .i64 d.k,.int .i64 d.a,.int .i64 d.b]:=hw0▸Blk.newAt rfl;have hb0:Below w.heap.size w w0:=hw0▸(Below.refl _ _).alloc (Nat.le_refl _) _;have hs0:w0.heap.size=w.heap.size+1:=by rw[hw0];simp
 have HW0:=Lib.hid hw0;have HR:=Lib.hid (h.below hb0);have HR4:=Lib.hid h;clear h hw0
 go_enter Tryz.func112,Tryz.ntmps112
 go_upto_region 1 with (fail)
 rw[←HW0.out];clear HW0;obtain⟨x_0,x_1,x_2⟩:=hX0.c3;have q0:w.heap.size<w0.heap.size:=by omega
 have HX0:=Lib.hid hX0;clear hX0 hs0
 go_cut [6] (fun s6 wx=>∃A c,s6= .slice A (l.length+1) c∧zH w.heap.size wx (.slice A (l.length+1) c) (l++[d])∧Below w.heap.size w wx)
 case first=>
  go_region_held3 (fun w'=>w'.cell? ⟨w.heap.size,0,none⟩=some (.int .i64 d.k)∧w'.cell? ⟨w.heap.size,1,none⟩=some (.int .i64 d.a)∧w'.cell? ⟨w.heap.size,2,none⟩=some (.int .i64 d.b))
   (first|(with_reducible exact⟨by assumption,by assumption,by assumption⟩)|go_keep|(exact⟨al1 (by assumption) (by assumption),al1 (by assumption) (by assumption),al1 (by assumption) (by assumption)⟩))
   (first|(go_at_call 134;refine Calls.mono (jZ _ l _ (HR.out.below (by exact bel_)) hle) ?_;rintro e w1 ⟨v1,rfl,ho1,hb1⟩;(first|(with_reducible have hcf1:=z8 hb1)|have hcf1:=bcell hb1);obtain⟨hc1,hf1⟩:=hcf1;have hz1:=hb1.size;(try simp at hz1);(try have hp1_0:=p0_ w w1);(try have hp1_1:=p1_ w w1);(try have hp1_2:=p2_ w w1);(try have hp1_3:=p3_ w w1);(have hq1:w0.heap.size≤w1.heap.size:=by omega);(have hk1:w.heap.size<w1.heap.size:=by omega);(try have hq0:w0.heap.size<w1.heap.size:=by omega);(try have z00:w1.cell? ⟨w0.heap.size,0,none⟩=some (.int .i64 d.k):=(hc1 (w0.heap.size) 0 (by first|omega|(simp;done)|(simp;omega))).trans (by simp;done));(try have z01:w1.cell? ⟨w0.heap.size,1,none⟩=some (.int .i64 d.a):=(hc1 (w0.heap.size) 1 (by first|omega|(simp;done)|(simp;omega))).trans (by simp;done));(try have z02:w1.cell? ⟨w0.heap.size,2,none⟩=some (.int .i64 d.b):=(hc1 (w0.heap.size) 2 (by first|omega|(simp;done)|(simp;omega))).trans (by simp;done));(have s0:w1.cell? ⟨w.heap.size,0,none⟩=some (.int .i64 d.k):=(hc1 w.heap.size 0 (by first|omega|(simp;omega))).trans (by(first|exact x_0|exact al1 x_0 (by omega))));(have s1:w1.cell? ⟨w.heap.size,1,none⟩=some (.int .i64 d.a):=(hc1 w.heap.size 1 (by first|omega|(simp;omega))).trans (by(first|exact x_1|exact al1 x_1 (by omega))));(have s2:w1.cell? ⟨w.heap.size,2,none⟩=some (.int .i64 d.b):=(hc1 w.heap.size 2 (by first|omega|(simp;omega))).trans (by(first|exact x_2|exact al1 x_2 (by omega)))))|(refine x6 rfl _ _ rfl w.heap.size v1 l d _ rfl rfl ?hg ?hgl ?hown hle ?hbs ?_;(case hg=>(first|(with_reducible exact new3)|exact⟨z00,z01,z02⟩));(case hgl=>(first|omega|(simp;done)|(simp;omega)));(case hown=>(first|exact zH.mono ho1 (by first|omega|(simp;omega))|exact zH.mono (zH.kept ho1 (by exact bel_)) (by first|omega|(simp;done)|(simp;omega))));(case hbs=>(first|omega|(simp;omega)));intro A c w3 ho3 hg3;(have hB3:Below w0.heap.size w0 w3:=by(refine Below.grown ?_ hg3 ?_ ?_;(exact bel_);(focus (first|omega|(simp;done)|(simp;omega)));(intro q hq;have:=(World.ownsRow.lt ho1 q hq).1;(first|omega|(simp at this;omega)))));(have s30:=(hB3.cell (p:=⟨w.heap.size,0,none⟩) q0).trans x_0);(have s31:=(hB3.cell (p:=⟨w.heap.size,1,none⟩) q0).trans x_1);(have s32:=(hB3.cell (p:=⟨w.heap.size,2,none⟩) q0).trans x_2);(have HO3:=Lib.hid ho3);clear ho3 hg3)|fail)
  all_goals go_wp2
  all_goals go_meet
  all_goals exact⟨A,c,rfl,HO3.out,hb0.trans (hB3.mono hb0.size)⟩
 case rest=>
  obtain⟨A,c,rfl,hO,hB⟩:=hcut;obtain⟨w4,hw4⟩:∃u,u=wc:=⟨_,rfl⟩;subst hw4;have hR4:=RDp.below HR4.out hB;have hO4:zH w.heap.size w4 (.slice A (l.length+1) c) (l++[d]):=hO;have HL:Hid ((l++[d]).length =l.length+1):=Lib.hid (by simp);clear HX0 x_0 x_1 x_2 hO
  go_wp2_with fail
  refine(Qv _ l _ hR4).mono ?_
  rintro e w5 ⟨rfl,hb5⟩;have hR5:=RDp.below hR4 hb5;have hO5:=zH.kept hO4 hb5;have hB5:=hB.trans (hb5.mono hB.size);clear hR4 hO4 hB hb5
  cases h1:qW l
  ·obtain⟨u1,u2⟩:=VO (d:=d) (.inl h1)
   have hl':l=E:=u1.symm.trans HE.out;have hb':false=BB:=u2.symm.trans HBB.out;subst hb';subst hl';clear u1 u2 HE HBB
   go_wp2_with fail
   refine(jZ _ l _ hR5 hle).mono ?_
   rintro e w6 ⟨v6,rfl,ho6,hb6⟩;go_wp2;exact bodyPost_ret (v:= .tuple #[v6,.bool false]) (by simp[results,Tryz.results112,go_sem]) rfl ⟨_,rfl,zH.mono ho6 hB5.size,hB5.trans (hb6.mono hB5.size)⟩
  ·go_wp2_with fail
   refine(Qv _ (l++[d]) _ hO5.reads).mono ?_
   rintro e w6 ⟨rfl,hb6⟩;have hR6:=RDp.below hR5 hb6;have hO6:=zH.kept hO5 hb6;have hB6:=hB5.trans (hb6.mono hB5.size);clear hR5 hO5 hB5 hb6
   cases h2:qW (l++[d])
   ·obtain⟨u1,u2⟩:=VO (l:=l) (.inr h2)
    have hl':l=E:=u1.symm.trans HE.out;have hb':false=BB:=u2.symm.trans HBB.out;subst hb';subst hl';clear u1 u2 HE HBB
    go_wp2_with fail
    refine(jZ _ l _ hR6 hle).mono ?_
    rintro e w7 ⟨v7,rfl,ho7,hb7⟩;go_wp2;exact bodyPost_ret (v:= .tuple #[v7,.bool false]) (by simp[results,Tryz.results112,go_sem]) rfl ⟨_,rfl,zH.mono ho7 hB6.size,hB6.trans (hb7.mono hB6.size)⟩
   ·obtain⟨u1,u2⟩:=z2H h1 h2
    have hl':l++[d]=E:=u1.symm.trans HE.out;have hb':true=BB:=u2.symm.trans HBB.out;subst hb';have HE2:=Lib.hid hl';clear u1 u2 HE HBB hl';go_wp2;exact bodyPost_ret (v:= .tuple #[.slice A (l.length+1) c,.bool true]) (by simp[results,Tryz.results112,go_sem]) rfl ⟨_,rfl,by rw[←HE2.out];exact hO6,hB6⟩
theorem Xz (v:Value) (l:List Dp) (d:Dp) (w:World) (h:RDp w v l) (hle:l.length≤1048576):
  Calls Tryz.prog 123 #[v,.agg #[.int .i64 d.k,.int .i64 d.a,.int .i64 d.b]] w (z42 (adpL l d) (adpB l d) w):=by
 obtain⟨E,hE⟩:∃E,adpL l d=E:=⟨_,rfl⟩;obtain⟨BB,hBB⟩:∃b,adpB l d=b:=⟨_,rfl⟩;rw[hE,hBB];have HE:=Lib.hid hE;have HBB:=Lib.hid hBB;clear hE hBB;obtain⟨w0,hw0⟩:∃u,u=w.alloc (.cells #[.int .i64 d.k,.int .i64 d.a,.int .i64 d.b] 48):=⟨_,rfl⟩;have hX0:Blk w0 w.heap.size 48 #[.int .i64 d.k,.int .i64 d.a,.int .i64 d.b]:=hw0▸Blk.newAt rfl;have hb0:Below w.heap.size w w0:=hw0▸(Below.refl _ _).alloc (Nat.le_refl _) _;have hs0:w0.heap.size=w.heap.size+1:=by rw[hw0];simp
 have HW0:=Lib.hid hw0;have HR:=Lib.hid (h.below hb0);have HR4:=Lib.hid h;obtain⟨i0,hi,iz0,iz1,iz2⟩:=info_parts kJ;clear h hw0
 go_enter Tryz.func123,Tryz.ntmps123
 go_upto_region 1 with (fail)
 rw[←HW0.out];clear HW0;obtain⟨x_0,x_1,x_2⟩:=hX0.c3;have q0:w.heap.size<w0.heap.size:=by omega
 have HX0:=Lib.hid hX0;clear hX0 hs0
 go_cut [6] (fun s6 wx=>∃A c,s6= .slice A (l.length+1) c∧zH w.heap.size wx (.slice A (l.length+1) c) (l++[d])∧Below w.heap.size w wx)
 case first=>
  go_region_held3 (fun w'=>w'.cell? ⟨w.heap.size,0,none⟩=some (.int .i64 d.k)∧w'.cell? ⟨w.heap.size,1,none⟩=some (.int .i64 d.a)∧w'.cell? ⟨w.heap.size,2,none⟩=some (.int .i64 d.b))
   (first|(with_reducible exact⟨by assumption,by assumption,by assumption⟩)|go_keep|(exact⟨al1 (by assumption) (by assumption),al1 (by assumption) (by assumption),al1 (by assumption) (by assumption)⟩))
   (first|(refine Jz rfl _ _ rfl w0.heap.size _ v l rfl rfl ?hown ?hr hle ?hbs ?_;(case hown=>(first|exact qb (by first|exact Nat.le_refl _|(simp[World.drew];done)|(simp[World.drew];omega)) (by first|rfl|(simp[World.drew];done))|exact World.ownsRow.alloc (qb (Nat.le_refl _) rfl) _));(case hr=>exact HR.out.below (by exact bel_));(case hbs=>(first|exact Nat.le_refl _|(simp[World.drew];done)|(simp[World.drew];omega)));intro A1 c1 w2 ho2 hg2;(have hB2:Below w0.heap.size w0 w2:=by(refine Below.grown ?_ hg2 ?_ ?_;(exact bel_);(focus (first|(simp;done)|(simp;omega)));(intro q hq;cases hq;(first|exact Nat.le_refl _|(simp[World.drew];done)|(simp[World.drew];omega)))));(have hq2:w0.heap.size≤w2.heap.size:=hB2.size);(try have zA:Blk w2 w0.heap.size 48 #[.int .i64 d.k,.int .i64 d.a,.int .i64 d.b]:=(hg2.block w0.heap.size (by first|(simp;done)|(simp;omega)) (by simp)).trans (Blk.alloc (Blk.newAt rfl) _));(try have zB:Blk w2 (w0.heap.size+1) 48 #[.int .i64 d.k,.int .i64 d.a,.int .i64 d.b]:=(hg2.block (w0.heap.size+1) (by first|(simp;done)|(simp;omega)) (by simp)).trans (Blk.newAt (by simp)));(have s20:=(hB2.cell (p:=⟨w.heap.size,0,none⟩) q0).trans x_0);(have s21:=(hB2.cell (p:=⟨w.heap.size,1,none⟩) q0).trans x_1);(have s22:=(hB2.cell (p:=⟨w.heap.size,2,none⟩) q0).trans x_2);clear hg2)|(refine x6 rfl _ _ rfl w0.heap.size (.slice A1 l.length c1) l d _ rfl rfl ?hg ?hgl ?hown hle ?hbs ?_;(case hg=>(first|(with_reducible exact new3)|exact⟨zA.cell 0,zA.cell 1,zA.cell 2⟩|exact⟨zB.cell 0,zB.cell 1,zB.cell 2⟩));(case hgl=>(first|omega|(simp[World.drew];done)|(simp[World.drew];omega)|exact zA.lt|exact zB.lt));(case hown=>(first|exact ho2|exact World.ownsRow.alloc ho2 _));(case hbs=>(first|omega|(simp[World.drew];omega)));intro A c w3 ho3 hg3;(have hB3:Below w0.heap.size w0 w3:=by(refine Below.grown ?_ hg3 ?_ ?_;(exact bel_);(first|omega|(simp[World.drew];done)|(simp[World.drew];omega));(intro q hq;exact(World.ownsRow.lt ho2 q hq).1)));(have s30:=(hB3.cell (p:=⟨w.heap.size,0,none⟩) q0).trans x_0);(have s31:=(hB3.cell (p:=⟨w.heap.size,1,none⟩) q0).trans x_1);(have s32:=(hB3.cell (p:=⟨w.heap.size,2,none⟩) q0).trans x_2);(have HO3:=Lib.hid (zH.mono ho3 (Nat.le_of_lt q0)));clear ho3 hg3)|fail)
  all_goals go_wp2
  all_goals go_meet
  all_goals exact⟨A,c,rfl,HO3.out,hb0.trans (hB3.mono hb0.size)⟩
 case rest=>
  obtain⟨A,c,rfl,hO,hB⟩:=hcut;obtain⟨w4,hw4⟩:∃u,u=wc:=⟨_,rfl⟩;subst hw4;have hR4:=RDp.below HR4.out hB;have hO4:zH w.heap.size w4 (.slice A (l.length+1) c) (l++[d]):=hO;have HL:Hid ((l++[d]).length =l.length+1):=Lib.hid (by simp);clear HX0 x_0 x_1 x_2 hO
  go_wp2_with fail
  refine(Qy _ l _ hR4).mono ?_
  rintro e w5 ⟨rfl,hb5⟩;have hR5:=RDp.below hR4 hb5;have hO5:=zH.kept hO4 hb5;have hB5:=hB.trans (hb5.mono hB.size);clear hR4 hO4 hB hb5
  cases h1:qW l
  ·obtain⟨u1,u2⟩:=VO (d:=d) (.inl h1)
   have hl':l=E:=u1.symm.trans HE.out;have hb':false=BB:=u2.symm.trans HBB.out;subst hb';subst hl';clear u1 u2 HE HBB
   go_wp2_with (at_builtin;refine jo rfl _ _ _ rfl w.heap.size 48 i0 (.agg #[.int .i64 0,.int .i64 0,.int .i64 0]) 3 24 Tryz.underlying32 hi iz0 iz1 iz2 rfl (by decide) (.slice (some ⟨w5.heap.size,0,none⟩) 0 0) v 0 l.length [] (l.flatMap Dp.cs) rfl rfl (qb hB5.size rfl) (hR5.below (by exact bel_)) (jO l) (by omega) (by decide) (by have:=hB5.size;simp;omega) ?_)
   intro A6 c6 w6 ho6 hg6 _;have hB9:=(hB5.alloc hB5.size (.cells #[] 48)).grown hg6 (by have:=hB5.size;simp;omega) (fun q hq=>by cases hq;exact hB5.size);have HO6:Hid (zH w.heap.size w6 (.slice A6 l.length c6) l):=Lib.hid ho6;clear ho6 hg6;go_wp2;exact bodyPost_ret (v:= .tuple #[.slice A6 l.length c6,.bool false]) (by simp[results,Tryz.results123,go_sem]) rfl ⟨_,rfl,HO6.out,hB9⟩
  ·go_wp2_with fail
   refine(Qy _ (l++[d]) _ hO5.reads).mono ?_
   rintro e w6 ⟨rfl,hb6⟩;have hR6:=RDp.below hR5 hb6;have hO6:=zH.kept hO5 hb6;have hB6:=hB5.trans (hb6.mono hB5.size);clear hR5 hO5 hB5 hb6
   cases h2:qW (l++[d])
   ·obtain⟨u1,u2⟩:=VO (l:=l) (.inr h2)
    have hl':l=E:=u1.symm.trans HE.out;have hb':false=BB:=u2.symm.trans HBB.out;subst hb';subst hl';clear u1 u2 HE HBB
    go_wp2_with (at_builtin;refine jo rfl _ _ _ rfl w.heap.size 48 i0 (.agg #[.int .i64 0,.int .i64 0,.int .i64 0]) 3 24 Tryz.underlying32 hi iz0 iz1 iz2 rfl (by decide) (.slice (some ⟨w6.heap.size,0,none⟩) 0 0) v 0 l.length [] (l.flatMap Dp.cs) rfl rfl (qb hB6.size rfl) (hR6.below (by exact bel_)) (jO l) (by omega) (by decide) (by have:=hB6.size;simp;omega) ?_)
    intro A6 c6 w7 ho6 hg6 _;have hB9:=(hB6.alloc hB6.size (.cells #[] 48)).grown hg6 (by have:=hB6.size;simp;omega) (fun q hq=>by cases hq;exact hB6.size);have HO6:Hid (zH w.heap.size w7 (.slice A6 l.length c6) l):=Lib.hid ho6;clear ho6 hg6;go_wp2;exact bodyPost_ret (v:= .tuple #[.slice A6 l.length c6,.bool false]) (by simp[results,Tryz.results123,go_sem]) rfl ⟨_,rfl,HO6.out,hB9⟩
   ·obtain⟨u1,u2⟩:=z2H h1 h2
    have hl':l++[d]=E:=u1.symm.trans HE.out;have hb':true=BB:=u2.symm.trans HBB.out;subst hb';have HE2:=Lib.hid hl';clear u1 u2 HE HBB hl';go_wp2;exact bodyPost_ret (v:= .tuple #[.slice A (l.length+1) c,.bool true]) (by simp[results,Tryz.results123,go_sem]) rfl ⟨_,rfl,by rw[←HE2.out];exact hO6,hB6⟩
def RetN (G:List Int) (w:World) (e:Ending) (w':World):Prop:=∃v,e= .returned v∧OwnI w.heap.size w' v G∧(G.length=0→v= .slice none 0 0)∧Below w.heap.size w w'
def rowV (F:Nat) (g:Nat):Value:= .slice (some ⟨g,0,none⟩) F F
structure OwnTab (base:Nat) (w:World) (v:Value) (F:Nat) (gs:List Nat) (T:List (List Bool)):Prop where
 out:OwnE 182 (rowV F) base w v gs
 len:gs.length=T.length
 nd:gs.Nodup
 row:∀k,k<T.length→OwnE 4 Value.bool base w (rowV F (gs.getD k 0)) (T.getD k [])
section
variable {base:Nat} {w w':World} {v v':Value} {F:Nat} {gs:List Nat} {T:List (List Bool)}
end
theorem Jc (vn vl:Value) (ns ls:List Pr) (f:Int) (w:World) (hn:RP w vn ns) (hl:RP w vl ls):
  Calls Tryz.prog 189 #[.agg #[vn,vl],.int .i64 f] w (RetN (qr ns ls f) w):=by
 have hba:Below w.heap.size w (w.alloc (.cells #[vn,vl] 27)):=by exact bel_
 have hWA:Blk (w.alloc (.cells #[vn,vl] 27)) w.heap.size 27 #[vn,vl]:=Blk.newAt rfl;have hfl:=zL ns ls;have HFA:=Lib.hid (fun (v:World) (hb:Below w.heap.size w v)=>yC vn vl ns ls v (hn.below hb) (hl.below hb));obtain⟨i0,hi,iz0,iz1,iz2⟩:=info_parts qu
 cases hin:inB f 0 (((zb ns ls).length :Int) -1)
 ·have HR:=Lib.hid (vy (f:=f) hin)
  generalize zb ns ls=F at*;have HIN:=Lib.hid hin;clear hin
  go_enter Tryz.func189,Tryz.ntmps189
  go_wp2_with fail
  refine(HFA.out _ hba).mono ?_
  rintro e w1 ⟨v1,rfl,ho1,hb1⟩;obtain⟨A1,c1,rfl⟩:=ho1.form;have hbw1:=hba.trans (hb1.mono hba.size)
  go_wp2_with fail
  refine(zn f 0 _ false _ HIN.out).mono ?_
  rintro e w' ⟨rfl,rfl⟩;go_wp2;go_ret
  exact⟨_,rfl,by rw[HR.out];exact OwnI.nil _ _,fun _=>rfl,hbw1⟩
 ·obtain⟨k,rfl⟩:∃k:Nat,f=k:=⟨f.toNat,by have:=zt.1 hin;omega⟩
  have hk:k<(zb ns ls).length :=by have:=zt.1 hin;omega
  have HR:=Lib.hid (kF hk);obtain⟨hwin,hfe,hf0,hf40⟩:=jt hk;have hm20:=hwin.2.2.1;generalize zb ns ls=F at*;generalize hff:F.getD k []=ff at*;have HFF:=Lib.hid hff;have HFE:=Lib.hid hfe;have HNS:=Lib.hid (fun j hj=>JG (ls:=ls) (f:=ff) (k:=j) hj);have HNL:=Lib.hid (fun j hj=>Jk (ls:=ls) (f:=ff) (k:=j) hj);have HN0:Hid (nodK ls ff 0=[]):=Lib.hid rfl;have HNF:Hid (nodF ls ff=nodK ls ff ff.length):=Lib.hid rfl;have HFL:=Lib.hid (ZN ls ff);have HIN:=Lib.hid hin;have hk1:(k:Int)<(F.length:Int):=by omega
  have ik1:(0:Int)≤(k:Int):=by omega
  clear hin hwin hfe hff
  go_enter Tryz.func189,Tryz.ntmps189
  go_wp2_with fail
  refine(HFA.out _ hba).mono ?_
  rintro e w1 ⟨v1,rfl,ho1,hb1⟩;have hbw1:=hba.trans (hb1.mono hba.size);have hW1:=hWA.below hb1 hWA.lt;obtain⟨b4,c1,rr,rfl,hc1,hB4,hb4,hcr,hrr⟩:=ho1.get hk;rw[HFF.out] at hrr;have hnl:=zc ff;obtain⟨b5,c2,rfl,hc2,hB5,hb5,hcl5⟩:=hrr.blk (by omega);rw[hnl] at hcl5 hcr hc2;have HCL5:=Lib.hid hcl5;have hO1:OwnI w1.heap.size w1 (.slice none 0 0) []:=OwnI.nil _ _;clear hb1 hba hWA ho1 hcl5 hrr hB4 hB5 hnl
  go_wp2_with fail
  refine(zn _ 0 _ true _ HIN.out).mono ?_
  rintro e w' ⟨rfl,rfl⟩;have hW1l:=hW1.lt;go_wp2
  go_loopw [6,22] (fun v x wr=>∃j:Nat,j≤ff.length∧x= .int .i64 j∧OwnI w1.heap.size wr v (nodK ls ff j)∧Below w1.heap.size w1 wr) (fun _ x _=>ff.length -(intOf x).toNat)
  case atStart=>exact⟨0,Nat.zero_le _,rfl,by rw[HN0.out];exact hO1,Below.refl _ _⟩
  case round=>
   clear hO1;obtain⟨j,hj,rfl,ho,hbl⟩:=hrel;have hW:=hW1.below hbl hW1l;have hsz:=hW.lt;have hzz:=hbl.size;obtain⟨a_0,a_1⟩:=hW.c2
   by_cases hlt:j<ff.length
   ·have hlt1:(j:Int)<(ff.length:Int):=by omega
    have ij1:(0:Int)≤(j:Int):=by omega
    have hx:=(hbl.cell (p:=⟨b5,j,none⟩) hb5).trans (HCL5.out j hlt);rw[qQ] at hx;have hb52:b5<wr.heap.size:=by omega
    have hem:ff.getD j 0<2*ls.length:=HFE.out _ (by rw[List.getD,List.getElem?_eq_getElem hlt];exact List.getElem_mem hlt);have HS:=Lib.hid (HNS.out j hlt);have hgl:=HNL.out j hj;generalize ff.getD j 0=d at*;have hlr:RP wr vl ls:=hl.below (hbw1.trans (hbl.mono hbw1.size))
    go_wp2_with fail
    refine(jW _ _ ls d _ hlr hem).mono ?_
    rintro e w3 ⟨rfl,hb3⟩;have ho3:=ho.kept hb3;have hbl3:=hbl.trans (hb3.mono hbl.size);have hz3:=hb3.size;generalize zd ls d=z at*;generalize nodK ls ff j=G at*;clear hb3 ho hW hbl hx hlr a_0 a_1
    go_wp2_with (at_builtin;refine jC rfl _ _ rfl w1.heap.size _ G z rfl w3.heap.size rfl (yp rfl) (ho3.alloc _) (by omega) (by simp;omega) ?_)
    intro v2 w2 ho2 hg2 hw2;have hbl2:Below w1.heap.size w1 w2:=(hbl3.alloc hbl3.size (.cells #[.int .i64 z] 3)).grown hg2 (by simp;omega) (fun q hq=>by have:=(ho3.lt q hq).1;omega);clear hg2 hw2 ho3 hbl3;go_wp2;go_roundw
    case rel=>exact⟨j+1,by omega,by go_num,by rw[HS.out];exact ho2,hbl2⟩
    case measure=>simp[intOf];omega
   ·have hjj:j=ff.length:=by omega
    subst hjj;have HF0:Hid (ff.length=0→False):=Lib.hid (fun h=>by omega);go_wp2;go_ret
    exact⟨_,rfl,by rw[HR.out,HNF.out];exact ho.mono hbw1.size,fun h=>(HF0.out (by rw[HR.out,HFL.out] at h;exact h)).elim,hbw1.trans (hbl.mono hbw1.size)⟩
theorem z59 {w:World} {A:Option Addr} {n c:Nat} {l:List Int} (h:RI w (.slice A n c) l) (k:Nat) (hk:k≤l.length):RI w (.slice A k c) (l.take k):=by
 obtain⟨h0,A',c',he,h1,h2,h3⟩:=h
 injection he with e1 e2 e3
 subst e1;subst e3
 refine⟨by simp,A,c,by rw[List.length_take,Nat.min_eq_left hk],by simp;omega,by simp;omega,fun hp=>?_⟩
 rw[List.length_take] at hp;obtain⟨b,off,hA,hb,hcl⟩:=h3 (by omega);refine⟨b,off,hA,hb,fun j u hu=>hcl j u ?_⟩
 rw[List.map_take,List.getElem?_take] at hu
 split at hu
 ·exact hu
 ·cases hu
theorem z4v {ns ls:List Pr} {f:Int} (h:f=qH ns ls):jB ns ls f=false:=by simp[jB,h]
theorem z5Z {G:List Int} {k:Nat} (hk:k<G.length) (h:G.getD k 0∈G.take k):∃i,i<k∧G.getD i 0=G.getD k 0:=by
 obtain⟨i,hi,e⟩:=List.getElem_of_mem h;rw[List.length_take] at hi;refine⟨i,by omega,?_⟩
 rw[List.getElem_take] at e;rw[←e,List.getD_eq_getElem?_getD,List.getElem?_eq_getElem (by omega)];rfl
theorem z5b {G:List Int} {k:Nat} (hk:k<G.length) (h:G.getD k 0∉G.take k):∀i,i<k→G.getD i 0≠G.getD k 0:=by
 intro i hi e
 apply h
 rw[←e,List.getD_eq_getElem?_getD,List.getElem?_eq_getElem (show i<G.length by omega)]
 show G[i]∈_
 have:G[i]=(G.take k)[i]'(by simp;omega):=by rw[List.getElem_take]
 rw[this];exact List.getElem_mem _
theorem z0J (vn vl:Value) (ns ls:List Pr) (f:Int) (w:World) (hn:RP w vn ns) (hl:RP w vl ls):
  Calls Tryz.prog 111 #[.agg #[vn,vl],.int .i64 f] w fun e w'=>e= .returned (.bool (jB ns ls f))∧Below w.heap.size w w':=by
 have hba:Below w.heap.size w (w.alloc (.cells #[vn,vl] 27)):=by exact bel_
 have hWA:Blk (w.alloc (.cells #[vn,vl] 27)) w.heap.size 27 #[vn,vl]:=Blk.newAt rfl;have hle:=kN ns ls f;have HN0:=Lib.hid (fun h=>z0b (ns:=ns) (ls:=ls) (f:=f) h);have HN1:=Lib.hid (fun i j h1 h2 h3=>Xq (ns:=ns) (ls:=ls) (f:=f) (i:=i) (j:=j) h1 h2 h3);have HNO:=Lib.hid (fun h=>z4v (ns:=ns) (ls:=ls) (f:=f) h);have HY:=Lib.hid (fun h0 h=>Xt (ns:=ns) (ls:=ls) (f:=f) h0 h);have HPN:=Lib.hid (fun (v:World) (hb:Below w.heap.size w v)=>Jc vn vl ns ls f v (hn.below hb) (hl.below hb));have HOT:=Lib.hid (fun (v:World) (hb:Below w.heap.size w v)=>ZG vn vl ns ls v (hn.below hb) (hl.below hb));generalize qr ns ls f=G at*;generalize qH ns ls=o at*;have hnil:=fun (u:World) (a:Option Addr) (l c:Nat)=>Lib.run_eql_slice_nil (P:=Tryz.prog) u 31 3 a l c 0 0 Tryz.underlying31
 go_enter Tryz.func111,Tryz.ntmps111
 go_wp2_with fail
 refine(HPN.out _ hba).mono ?_
 rintro e w1 ⟨v1,rfl,ho1,hv1,hb1⟩;have hbw1:=hba.trans (hb1.mono hba.size);have hW1:=hWA.below hb1 hWA.lt;clear hb1 hba hWA
 by_cases h0:G.length=0
 ·have e1:=hv1 h0
  subst e1;have HR:=Lib.hid (HN0.out h0);clear ho1 hv1 h0;go_wp2;go_ret
  exact⟨za HR.out.symm,hbw1⟩
 ·have hr1:=ho1.reads
  obtain⟨b4,c1,rfl,hc1,hB4,hb4,hcell⟩:=ho1.blk (by omega);have HCE:=Lib.hid hcell;have hz1:=hW1.lt;clear ho1 hcell hv1;obtain⟨a_0,a_1⟩:=hW1.c2
  go_wp2_with fail
  refine(HOT.out _ hbw1).mono ?_
  rintro e w2 ⟨rfl,hb2⟩;have hbw2:=hbw1.trans (hb2.mono hbw1.size);have hr2:=hr1.below hb2;have HCE2:Hid (∀q,q<G.length→w2.cell? ⟨b4,q,none⟩=some (.int .i64 (G.getD q 0))):=Lib.hid (fun q hq=>(hb2.cell (p:=⟨b4,q,none⟩) hb4).trans (HCE.out q hq));have hb42:b4<w2.heap.size:=Nat.lt_of_lt_of_le hb4 hb2.size;have hg40:G.length≤40:=hle;clear hbw1 hW1 hb2 hr1 HCE a_0 a_1
  by_cases hfo:f=o
  ·have e1:(f==o)=true:=beq_iff_eq.2 hfo
   have HR:=Lib.hid (HNO.out hfo);go_wp2;go_ret
   exact⟨za HR.out.symm,hbw2⟩
  ·have e1:(f==o)=false:=beq_eq_false_iff_ne.2 hfo
   have HYY:Hid (disK G G.length→jB ns ls f=true):=Lib.hid (fun h=>by rw[HY.out (by omega) h];simp[hfo]);go_wp2
   go_loop [21] (fun x=>∃k:Nat,k≤G.length∧x= .int .i64 k∧Hid (disK G k)) (fun x=>G.length -(intOf x).toNat)
   case atStart=>exact⟨0,Nat.zero_le _,rfl,Lib.hid (Ve G)⟩
   case round=>
    obtain⟨k,hk,rfl,HK⟩:=hrel
    by_cases hlt:k<G.length
    ·have hlt1:(k:Int)<(G.length:Int):=by omega
     have ik1:(0:Int)≤(k:Int):=by omega
     have ik2:(k:Int)≤(c1:Int):=by omega
     have hck:=HCE2.out k hlt;have htk:=z59 hr2 k hk;have HNO2:=Lib.hid (fun h=>z5Z (G:=G) hlt h);have HYE:=Lib.hid (fun h=>z5b (G:=G) hlt h);have HBAD:Hid (∀i,i<k→G.getD i 0=G.getD k 0→jB ns ls f=false):=Lib.hid (fun i hi h=>HN1.out i k hi hlt h);generalize hz:G.getD k 0=z at*;obtain⟨hd,hhd⟩:∃b,decide (z∈G.take k)=b:=⟨_,rfl⟩;have HHD:=Lib.hid hhd;clear hhd
     go_wp2_with fail
     refine(z4I _ (G.take k) z _ htk).mono ?_
     rintro e w3 ⟨rfl,rfl⟩;rw[HHD.out];have hHD:=HHD.out
     cases hd
     ·have hnm:z∉G.take k:=by simpa using hHD
      have HD:=Lib.hid (Vk HK.out (fun i hi=>by rw[hz];exact HYE.out hnm i hi));clear hnm hHD HHD;go_wp2;go_round
      case rel=>exact⟨k+1,by omega,by go_num,HD⟩
      case measure=>simp[intOf];omega
     ·have hm:z∈G.take k:=by simpa using hHD
      have HR:Hid (jB ns ls f=false):=Lib.hid (by obtain⟨i,h1,h2⟩:=HNO2.out hm;exact HBAD.out i h1 h2);clear hm hHD HHD;go_wp2;go_ret
      exact⟨za HR.out.symm,hbw2⟩
    ·have hkk:k=G.length:=by omega
     subst hkk;have HR:=Lib.hid (HYY.out HK.out);go_wp2;go_ret
     exact⟨za HR.out.symm,hbw2⟩
end Go.Proofs.YtnjcpljhmhdhkaaGreat
