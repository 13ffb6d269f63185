/- part 13 -/
import Derived.Test.YtnjcpljhmhdhkaaGreatUPk11
import Derived.Test.YtnjcpljhmhdhkaaGreatUPk12
import Derived.Deep.RegionHeld3
set_option linter.unusedSimpArgs false
set_option linter.unusedVariables false
set_option maxRecDepth 100000
set_option maxHeartbeats 8000000
namespace Go.Proofs.YtnjcpljhmhdhkaaGreat
open Go.RowKit
attribute [local go_sem ↓] zv zu qb qf
theorem ZY (vn vl:Value) (ns ls:List Pr) (k:Int) (b:Bool) (w:World) (hn:RP w vn ns) (hl:RP w vl ls) (hb:zP ns ls k=b):
  CB_ 186 #[.agg #[vn,vl],.int .i64 k] w (.bool b):=by
 subst hb;exact z0c vn vl ns ls k w hn hl
theorem z8q (vn vl:Value) (ns ls:List Pr) (k:Int) (w:World) (hn:RP w vn ns) (hl:RP w vl ls) (h1:ns.length<=1048576) (h2:ls.length<=1048576) (hw:zP ns ls k=false):
  Calls Tryz.prog 109 #[.agg #[vn,vl],.int .i64 k] w (zC ns ls false w):=by
 go_enter Tryz.func109,Tryz.ntmps109
 go_wp2_with fail
 refine(ZY _ _ ns ls _ _ _ (hn.below bel_) (hl.below bel_) hw).mono ?_
 rintro e w1 ⟨rfl,h9⟩;have H8:=h9.size;simp at H8
 have fc:Blk w1 w.heap.size 27 #[vn,vl]:=Blk.below ((Blk.newAt rfl).alloc _) h9 sz_;have gu:Blk w1 (w.heap.size+1) 27 #[.slice none 0 0,.slice none 0 0]:=Blk.below (Blk.newAt (by simp)) h9 sz_;have h8:Below w.heap.size w w1:=bel_
 clear h9;have n2:w.heap.size+1<w1.heap.size:=o_
 obtain⟨a_0,a_1⟩:=fc.c2
 go_wp2_with fail
 refine(qo _ _ ns ls _ (hn.below h8) (hl.below h8) h1 h2).mono ?_
 rintro e w2 ⟨An1,cn1,Al1,cl1,rfl,Hm,He⟩;have GF:=gu.below He n2;have Ha:=h8.trans (He.mono h8.size);have hO:=h_ (((Hm.setLow (p:=⟨w.heap.size+1,0,none⟩) n2 (.slice An1 ns.length cn1)).setLow (p:=⟨w.heap.size+1,1,none⟩) n2 (.slice Al1 ls.length cl1)).mono (show w.heap.size<=_ by omega));have HB:=h_ ((Ha.setCell (p:=⟨w.heap.size+1,0,none⟩) sz_ (.slice An1 ns.length cn1)).setCell (p:=⟨w.heap.size+1,1,none⟩) sz_ (.slice Al1 ls.length cl1));clear Hm Ha He fc gu h8 a_0 a_1;obtain⟨r_0,r_1,r_f0,r_f1⟩:=GF.b2;go_wp2;exact bodyPost_ret (v:= .tuple #[.agg #[.slice An1 ns.length cn1,.slice Al1 ls.length cl1],.bool false]) (by simp[results,Tryz.results109,go_sem,r_0,r_1]) rfl ⟨_,_,_,_,rfl,hO.out,HB.out⟩
def BoxN (w0 w:World) (v:Value) (l:List Pr):Prop:=OwnP 106 w0.heap.size w v l/\Below w0.heap.size w0 w
def BoxO (w0:World) (y:Nat) (w:World) (v:Value) (l:List Pr):Prop:=
 OwnP 106 w0.heap.size w v l/\Below w0.heap.size w0 w/\Blk w y 27 #[.slice none 0 0,.slice none 0 0]/\w0.heap.size<=y/\∀k,v.ownBlock=some k->¬k=y
theorem BoxN.box {w0 w:World} {v:Value} {l:List Pr} {y:Nat} (h:BoxN w0 w v l) (hy:y=w.heap.size):BoxO w0 y (w.alloc (.cells #[.slice none 0 0,.slice none 0 0] 27)) v l:=by
 subst hy;exact⟨h.1.alloc _,h.2.alloc h.2.size _,Blk.newAt rfl,h.2.size,fun k hk e=>by have:=(h.1.lt k hk).2;omega⟩
theorem BoxN.start (w0:World) {g:Nat} (hg:g=w0.heap.size):BoxN w0 (w0.drew.alloc (.cells #[] 106)) (.slice (some ⟨g,0,none⟩) 0 0) []:=by
 subst hg;exact⟨OwnP.made rfl (aaa _),Below.alloc (Below.drew (aaj _ _)) (aaa _) _⟩
theorem BoxO.start (w0:World) {g y:Nat} (hg:g=w0.heap.size+1) (hy:y=w0.heap.size):
  BoxO w0 y ((w0.drew.alloc (.cells #[.slice none 0 0,.slice none 0 0] 27)).alloc (.cells #[] 106)) (.slice (some ⟨g,0,none⟩) 0 0) []:=by
 subst hg hy;exact⟨OwnP.made (by simp) (by simp),Below.alloc (Below.alloc (Below.drew (aaj _ _)) (aaa _) _) (by simp) _,(Blk.newAt rfl).alloc _,aaa _,fun k hk e=>by cases hk;exact absurd (show w0.heap.size+1=w0.heap.size from e) o_⟩
theorem jZ {P:Program} {w:World} {ops:Array Oper} {o:Oper} {a:Act} {K:Act->World->Prop} {Q:Exit->Act->World->Prop} {E:Prop} (FH:o.guard=none) (s x:Operand) (t:TypeId)
  (ho:o.op= .call { callee:= .builtin .append,args:= #[s,x],argTypes:= #[t,t] })
  (i:TypeInfo) (ht:P.underlying t=some (.slice 106)) (hi:P.info? 106=some i) (hz:i.zero=some (.agg #[.int .i64 0,.int .i64 0])) (H7:i.size=2) (gG:i.bytes=16)
  (w0:World) (v u:Value) (xs l:List (Int×Int)) (hs:a.eval s=v) (hx:a.eval x=u) (hB:BoxN w0 w v xs) (hr:RP w0 u l) (Hi:xs.length+l.length<=1048576+1048576)
  (h:∀A c w',BoxN w0 w' (.slice A (xs++l).length c) (xs++l)->K (a.put o.dst (.slice A (xs++l).length c)) w'):
  if Region.wanted o (yielded ops a.tmps)=true then Oper.wp P o a w K Q else E:=
 zo FH s x t ho w0.heap.size 106 i ht hi hz H7 gG v u xs l hs hx hB.1 (hr.below hB.2) Hi hB.2.size
  fun A c w' cU hg _=>h A c w' ⟨cU,hB.2.grown hg hB.2.size (fun k hk=>(hB.1.lt k hk).1)⟩
theorem q8 {P:Program} {w:World} {ops:Array Oper} {o:Oper} {a:Act} {K:Act->World->Prop} {Q:Exit->Act->World->Prop} {E:Prop} (FH:o.guard=none) (s x:Operand) (t:TypeId)
  (ho:o.op= .call { callee:= .builtin .append,args:= #[s,x],argTypes:= #[t,t] })
  (i:TypeInfo) (ht:P.underlying t=some (.slice 106)) (hi:P.info? 106=some i) (hz:i.zero=some (.agg #[.int .i64 0,.int .i64 0])) (H7:i.size=2) (gG:i.bytes=16)
  (w0:World) (y:Nat) (v u:Value) (xs l:List (Int×Int)) (hs:a.eval s=v) (hx:a.eval x=u) (hB:BoxO w0 y w v xs) (hr:RP w0 u l) (Hi:xs.length+l.length<=1048576+1048576)
  (h:∀A c w',BoxO w0 y w' (.slice A (xs++l).length c) (xs++l)->K (a.put o.dst (.slice A (xs++l).length c)) w'):
  if Region.wanted o (yielded ops a.tmps)=true then Oper.wp P o a w K Q else E:=
 zo FH s x t ho w0.heap.size 106 i ht hi hz H7 gG v u xs l hs hx hB.1 (hr.below hB.2.1) Hi hB.2.1.size
  fun A c w' cU hg ha=>h A c w' ⟨cU,hB.2.1.grown hg hB.2.1.size (fun k hk=>(hB.1.lt k hk).1),hB.2.2.1.grownR hg hB.2.2.2.2,hB.2.2.2.1,fun k hk e=>by
   subst e
   rcases ha with ha|ha
   ·exact hB.2.2.2.2 k (ha.symm.trans hk) rfl
   ·rw[ha] at hk;cases hk;exact aaW _ hB.2.2.1.lt⟩
theorem BoxO.filled {w0 w:World} {y:Nat} {v:Value} {l:List Pr} (h:BoxO w0 y w v l):
  w0.heap.size<=y/\Below w0.heap.size w0 ((w.setCell ⟨y,0,none⟩ v).setCell ⟨y,1,none⟩ (.slice none 0 0))/\
   Blk ((w.setCell ⟨y,0,none⟩ v).setCell ⟨y,1,none⟩ (.slice none 0 0)) y 27 #[v,.slice none 0 0]/\
   OwnP 106 w0.heap.size ((w.setCell ⟨y,0,none⟩ v).setCell ⟨y,1,none⟩ (.slice none 0 0)) v l/\∀k,v.ownBlock=some k->¬k=y:=
 ⟨h.2.2.2.1,(h.2.1.setCell (p:=⟨y,0,none⟩) h.2.2.2.1 _).setCell (p:=⟨y,1,none⟩) h.2.2.2.1 _,(h.2.2.1.set_ 0 _).set_ 1 _,
  (h.1.apart (qR w ⟨y,0,none⟩ v) (fun k hk e=>by cases e;exact h.2.2.2.2 _ hk rfl)).apart (qR _ ⟨y,1,none⟩ _) (fun k hk e=>by cases e;exact h.2.2.2.2 _ hk rfl),h.2.2.2.2⟩
theorem BoxN.filled {w0 w:World} {v:Value} {l:List Pr} (h:BoxN w0 w v l):
  w0.heap.size<=w.heap.size/\Below w0.heap.size w0 (w.alloc (.cells #[v,.slice none 0 0] 27))/\
   Blk (w.alloc (.cells #[v,.slice none 0 0] 27)) w.heap.size 27 #[v,.slice none 0 0]/\
   OwnP 106 w0.heap.size (w.alloc (.cells #[v,.slice none 0 0] 27)) v l/\∀k,v.ownBlock=some k->¬k=w.heap.size:=
 ⟨h.2.size,h.2.alloc h.2.size _,Blk.newAt rfl,h.1.alloc _,fun k hk e=>by have:=(h.1.lt k hk).2;omega⟩
theorem kn {x:Nat} {w4 wr w3:World} {N G:List Pr} {A A' A3:Option Addr} {c c' c3:Nat} {o1 o2:Obj} {z:Pr} (hx:w4.heap.size<=x)
  (hO:Blk wr x 27 #[.slice A N.length c,.slice A' G.length c']) (Cz:∀k,zw (.slice A N.length c) (.slice A' G.length c') k->¬k=x) (hb:Below w4.heap.size w4 wr)
  (ho:OwnW w4.heap.size wr (.slice A N.length c) (.slice A' G.length c') N G)
  (Hq:OwnP 108 w4.heap.size w3 (.slice A3 (G.length+1) c3) (G++[z])) (gM:((wr.alloc o1).alloc o2).grownBy w3 (Value.slice A' G.length c').ownBlock)
  (Fh:(Value.slice A3 (G.length+1) c3).ownBlock =(Value.slice A' G.length c').ownBlock ∨(Value.slice A3 (G.length+1) c3).ownBlock =some (wr.heap.size+1+1)):
  OwnW w4.heap.size (w3.setCell ⟨x,1,none⟩ (.slice A3 (G.length+1) c3)) (.slice A N.length c) (.slice A3 (G++[z]).length c3) N (G++[z])/\
  Blk (w3.setCell ⟨x,1,none⟩ (.slice A3 (G.length+1) c3)) x 27 #[.slice A N.length c,.slice A3 (G++[z]).length c3]/\(∀k,zw (.slice A N.length c) (.slice A3 (G++[z]).length c3) k->¬k=x)/\
  Below w4.heap.size w4 (w3.setCell ⟨x,1,none⟩ (.slice A3 (G.length+1) c3))/\Blk w3 x 27 #[.slice A N.length c,.slice A' G.length c']:=by
 rw[show G.length+1=(G++[z]).length by simp] at Fh Hq;have hxl:=hO.lt;have hbs:=hb.size;have GM:=((hO.alloc o1).alloc o2).grownR gM (fun k hk=>Cz k (.inr hk));have hn3:=((ho.1.alloc o1).alloc o2).apart gM (fun k hk Gj=>ho.2.2 k hk Gj);have Hf:Below w4.heap.size w4 w3:=((hb.alloc hbs _).alloc sz_ _).grown gM sz_ (fun k hk=>(ho.2.1.lt k hk).1)
 have Uj:∀k,(Value.slice A N.length c).ownBlock =some k->(Value.slice A3 (G++[z]).length c3).ownBlock =some k->False:=fun k hk Gj=>by
  have Hd:=(ho.1.lt k hk).2
  rcases Fh with ha|ha
  ·exact ho.2.2 k hk (ha.symm.trans Gj)
  ·rw[ha] at Gj
   simp at Gj
   omega
 have hy3:∀k,zw (.slice A N.length c) (.slice A3 (G++[z]).length c3) k->¬k=x:=by
  rintro k (hk|hk)
  ·exact Cz k (.inl hk)
  ·intro e
   rcases Fh with ha|ha
   ·exact Cz k (.inr (ha.symm.trans hk)) e
   ·rw[ha] at hk
    simp at hk
    omega
 refine⟨OwnW.setFar ⟨hn3,Hq,Uj⟩ (fun h=>hy3 _ h rfl) _,?_,hy3,Hf.setCell (p:=⟨x,1,none⟩) hx _,GM⟩
 rw[show(G++[z]).length =G.length+1 by simp];exact GM.set_ 1 _
theorem z74 (vl:Value) (ns ls T D:List Pr) (b off cn m p q t u:Nat) (w:World) (hn:RP w (.slice (some ⟨b,off,none⟩) ns.length cn) ns) (hl:RP w vl ls) (h1:ns.length<=1048576) (h2:ls.length<=1048576)
  (ci:ns.length<=cn) (hT:RP w (.slice (some ⟨b,off,none⟩) m cn) T) (Cb:Hid (T.length=m)) (hD:RP w (.slice (if cn=m+1 then some ⟨b,off,none⟩ else some ⟨b,off+(m+1)*2,none⟩) (ns.length -(m+1)) (cn -(m+1))) D) (ut:Hid (D.length=ns.length -(m+1)))
  (hs:zP ns ls m=true) (hk:hasN ns ls m=true) (h:JoinAt ns ls m p q t u) (hTD:Hid (xO ns m=T++D)):
  Calls Tryz.prog 109 #[.agg #[.slice (some ⟨b,off,none⟩) ns.length cn,vl],.int .i64 m] w (fun e w'=>zC (qr ns ls m) (qp ns ls m) (qY ns ls m) w e w'):=by
 obtain⟨i0,hi,iz0,iz1,iz2⟩:=info_parts Qj;obtain⟨j0,hj,jz0,jz1,jz2⟩:=info_parts jc;obtain⟨Al,cl,rfl,Ho,GO,gx⟩:=hl.formI;unfold maxLen at GO;have hp:=h.hp;have hq:=h.hq;have hm:=h.hm;have Ft:=h_ h.at_;have M8:=h_ h.ot;have HOU:=h_ h.ou;have cX:=h_ h.cl;have cE:(t:Int)<12:=by have:=h.ht;have:=h.win.2.1;omega
 have Bv:(u:Int)<12:=by have:=h.hu;have:=h.win.2.1;omega
 have Ng:=h.win.2.1
 have mT:Hid (∀j:Nat,j<ls.length->(-1000000<=(ndI ls j).1/\(ndI ls j).1<=1000000)/\(-1000000<=(ndI ls j).2/\(ndI ls j).2<=1000000)):=h_ (fun j hj=>by
  have hl:=q9.1 (h.win.2.2.2.2.2 j hj).1;omega)
 clear h;obtain⟨bl,offl,rfl,Hb,Gq⟩:=gx o_;obtain⟨k0,k1⟩:=Gq p hp;obtain⟨k2,k3⟩:=Gq q hq;clear gx;have Ce:=h_ Gq;clear Gq
 go_enter Tryz.func109,Tryz.ntmps109
 go_wp2_with fail
 refine(ZY _ _ ns ls _ _ _ (hn.below bel_) (hl.below bel_) hs).mono ?_
 rintro e w1 ⟨rfl,h9⟩;have H8:=h9.size;simp at H8
 have fc:Blk w1 w.heap.size 27 #[.slice (some ⟨b,off,none⟩) ns.length cn,.slice (some ⟨bl,offl,none⟩) ls.length cl]:=Blk.below ((Blk.newAt rfl).alloc _) h9 sz_;have gu:Blk w1 (w.heap.size+1) 27 #[.slice none 0 0,.slice none 0 0]:=Blk.below (Blk.newAt (by simp)) h9 sz_;have h8:Below w.heap.size w w1:=bel_
 clear h9;have n1:w.heap.size<w1.heap.size:=o_
 have n2:w.heap.size+1<w1.heap.size:=o_
 obtain⟨a_0,a_1⟩:=fc.c2
 go_wp2_with fail
 refine(xc _ _ ns ls _ _ (hn.below h8) (hl.below h8) hk).mono ?_
 rw[Ft.out];rintro e w2 ⟨v2,rfl,Hm,He⟩;have Fn:=fc.below He n1;have GF:=gu.below He n2;have Ha:=h8.trans (He.mono h8.size);obtain⟨A2,c2,e2,fa,_,GX⟩:=Hm.reads.form;subst e2;obtain⟨b2,o2,rfl,NE,GG⟩:=GX (by simp[natI]);have y0:=GG 0 (by simp[natI]);have y1:=GG 1 (by simp[natI]);simp only[natI,aaT,aaU,List.getD_cons_zero,List.getD_cons_succ,aaf,aaV,List.length_nil,aaG] at y0 y1 fa
 clear GX GG He fc gu h8 a_0 a_1 Hm;rw[show(natI [p,q]).length =2 from rfl];have n1:w.heap.size<w2.heap.size:=Fn.lt;have n2:w.heap.size+1<w2.heap.size:=GF.lt;have c1:(0:Int)<=(p:Int):=o_
 have c3:(p:Int)<(ls.length:Int):=o_
 have g1:bl<w2.heap.size:=o_
 have x0:=(Ha.cell (p:=⟨bl,offl+p*2,none⟩) Hb).trans k0;have x1:=(Ha.cell (p:=⟨bl,offl+p*2+1,none⟩) Hb).trans k1;obtain⟨a_0,a_1⟩:=Fn.c2
 go_wp2_with fail
 (refine z7 k_ k_ (fun hG=>?_))
 repeat (go_big_quiet_step ((go_at_call 188;exact zy (Qt (ndI ls p) _ _ _ M8.out))))
 (refine wpQuiet_nil ?_);(clear hG);(rintro w3 ⟨⟨_,Hf⟩,rfl⟩);(try dsimp only);have fA:=Hf.size;(try simp at fA);(try have cP:=p0_ w w3);(try have cQ:=p1_ w w3)
 have FE:=Fn.below Hf n1;have GK:=GF.below Hf n2;have Hc:=Ha.trans (Hf.mono Ha.size);have y0':=(Hf.cell (p:=⟨b2,o2,none⟩) NE).trans y0;have y1':=(Hf.cell (p:=⟨b2,o2+1,none⟩) NE).trans y1;have g2:b2<w3.heap.size:=o_
 have n1:w.heap.size<w3.heap.size:=FE.lt;have n2:w.heap.size+1<w3.heap.size:=GK.lt;have c1:(0:Int)<=(q:Int):=o_
 have c3:(q:Int)<(ls.length:Int):=o_
 have g1:bl<w3.heap.size:=o_
 clear x0 x1;have x0:=(Hc.cell (p:=⟨bl,offl+q*2,none⟩) Hb).trans k2;have x1:=(Hc.cell (p:=⟨bl,offl+q*2+1,none⟩) Hb).trans k3;clear Hf cP cQ Fn GF Ha a_0 a_1 y0 y1 k0 k1 k2 k3;obtain⟨a_0,a_1⟩:=FE.c2
 go_wp2_with fail
 (refine z7 k_ k_ (fun hG=>?_))
 repeat (go_big_quiet_step ((go_at_call 188;exact zy (Qt (ndI ls q) _ _ _ HOU.out))))
 (refine wpQuiet_nil ?_);(clear hG);(rintro w4 ⟨⟨_,Hv⟩,rfl⟩);(try dsimp only);have Bg:=Hv.size;(try simp at Bg)
 have Ca:=FE.below Hv n1;have fd:=GK.below Hv n2;have Hp:=Hc.trans (Hv.mono Hc.size);have y0:=(Hv.cell (p:=⟨b2,o2,none⟩) g2).trans y0';have y1:=(Hv.cell (p:=⟨b2,o2+1,none⟩) g2).trans y1';have g2':b2<w4.heap.size:=o_
 have n1:w.heap.size<w4.heap.size:=Ca.lt;have n2:w.heap.size+1<w4.heap.size:=fd.lt;clear Hv FE GK Hc a_0 a_1 y0' y1' x0 x1 g2;obtain⟨a_0,a_1⟩:=Ca.c2
 go_wp2_with fail
 have YB:=h_ (hT.below Hp);have YC:=hD.below Hp;clear hT hD
 go_cut [9] (fun s9 wx=>∃(x:Nat) (A:Option Addr) (c:Nat),s9= .pointer (some ⟨x,0,none⟩)/\w4.heap.size<=x/\Below w4.heap.size w4 wx/\
   Blk wx x 27 #[.slice A (T.length+D.length) c,.slice none 0 0]/\OwnP 106 w4.heap.size wx (.slice A (T.length+D.length) c) (T++D)/\∀k,(Value.slice A (T.length+D.length) c).ownBlock =some k->¬k=x)
 case first=>
  have c2:(0:Int)<=(m:Int):=o_
  have c4:(m:Int)+1<=(ns.length:Int):=o_
  have c1':(m:Int)<=(m:Int)+1:=o_
  have c5:(0:Int)<=(m:Int)+1:=o_
  have c6:((m:Int)+1).toNat =m+1:=o_
  have NA:IntKind.i64.wrap ((m:Int)+1)=(m:Int)+1:=aaQ _ o_;have ne4:¬w4.heap.size=w.heap.size:=o_
  have ne41:¬w4.heap.size+1=w.heap.size:=o_
  by_cases fK:cn=m+1
  ·subst fK
   rw[aao rfl,show ns.length -(m+1)=0 by omega,aae] at YC;have YD:=h_ YC;clear YC
   go_region_held3 (fun w'=>w'.cell? ⟨w.heap.size,0,none⟩=some (.slice (some ⟨b,off,none⟩) ns.length (m+1)))
    (go_keep)
    (first|(refine q8 rfl _ _ _ rfl i0 Tryz.underlying24 hi iz0 iz1 iz2 w4 w4.heap.size (.slice (some ⟨_,0,none⟩) 0 0) (.slice (some ⟨b,off,none⟩) m (m+1)) [] T rfl rfl (BoxO.start w4 (by simp) rfl) YB.out (by simp;have:=Cb.out;omega) ?_;intro A3 c3 w3 GZ;have Uk:=h_ GZ;clear GZ;(have Hf:=Uk.out.2.1);(have fU:=fun (b o:Nat) (h:b<w4.heap.size)=>Hf.cell (p:=⟨b,o,none⟩) h);clear Hf)|(refine q8 rfl _ _ _ rfl i0 Tryz.underlying24 hi iz0 iz1 iz2 w4 (w4.heap.size+1) (.slice (some ⟨_,0,none⟩) 0 0) (.slice (some ⟨b,off,none⟩) m (m+1)) [] T rfl rfl ((BoxN.start w4 (by simp)).box (by simp)) YB.out (by simp;have:=Cb.out;omega) ?_;intro A3 c3 w3 GZ;have Uk:=h_ GZ;clear GZ;(have Hf:=Uk.out.2.1);(have fU:=fun (b o:Nat) (h:b<w4.heap.size)=>Hf.cell (p:=⟨b,o,none⟩) h);clear Hf)|(refine jZ rfl _ _ _ rfl i0 Tryz.underlying24 hi iz0 iz1 iz2 w4 (.slice (some ⟨_,0,none⟩) 0 0) (.slice (some ⟨b,off,none⟩) m (m+1)) [] T rfl rfl (BoxN.start w4 (by simp)) YB.out (by simp;have:=Cb.out;omega) ?_;intro A3 c3 w3 GZ;have YE:=h_ GZ;clear GZ;(have Hf:=YE.out.2);(have fU:=fun (b o:Nat) (h:b<w4.heap.size)=>Hf.cell (p:=⟨b,o,none⟩) h);(have fA:=Hf.size);(have p3:w.heap.size<w3.heap.size:=by omega);(have ne3:¬w3.heap.size=w.heap.size:=by omega);clear Hf)|(refine q8 rfl _ _ _ rfl i0 Tryz.underlying24 hi iz0 iz1 iz2 w4 _ (.slice A3 T.length c3) (.slice (some ⟨b,off,none⟩) 0 0) T D rfl rfl Uk.out YD.out (by have:=Cb.out;have:=ut.out;omega) ?_;intro A5 c5 w5 GR;have FF:=h_ GR;clear GR;(have gf:=FF.out.2.1);(have cV:=fun (b o:Nat) (h:b<w4.heap.size)=>gf.cell (p:=⟨b,o,none⟩) h);clear gf;(have zf0:=FF.out.2.2.1.frozen 0);(have zf1:=FF.out.2.2.1.frozen 1);(have zc0:=FF.out.2.2.1.cell 0);(have zc1:=FF.out.2.2.1.cell 1))|(refine q8 rfl _ _ _ rfl i0 Tryz.underlying24 hi iz0 iz1 iz2 w4 w3.heap.size (.slice A3 T.length c3) (.slice (some ⟨b,off,none⟩) 0 0) T D rfl rfl (YE.out.box rfl) YD.out (by have:=Cb.out;have:=ut.out;omega) ?_;intro A5 c5 w5 GR;have FF:=h_ GR;clear GR;(have gf:=FF.out.2.1);(have cV:=fun (b o:Nat) (h:b<w4.heap.size)=>gf.cell (p:=⟨b,o,none⟩) h);clear gf;(have zf0:=FF.out.2.2.1.frozen 0);(have zf1:=FF.out.2.2.1.frozen 1);(have zc0:=FF.out.2.2.1.cell 0);(have zc1:=FF.out.2.2.1.cell 1))|(refine jZ rfl _ _ _ rfl i0 Tryz.underlying24 hi iz0 iz1 iz2 w4 (.slice A3 T.length c3) (.slice (some ⟨b,off,none⟩) 0 0) T D rfl rfl YE.out YD.out (by have:=Cb.out;have:=ut.out;omega) ?_;intro A5 c5 w5 GR;have HN5:=h_ GR;clear GR;(have gf:=HN5.out.2);(have cV:=fun (b o:Nat) (h:b<w4.heap.size)=>gf.cell (p:=⟨b,o,none⟩) h);clear gf))
   all_goals go_wp2
   all_goals go_meet
   all_goals (first|(have hF:=FF.out.filled;rw[aaX] at hF;exact⟨_,A5,c5,rfl,hF⟩)|(have hF:=HN5.out.filled;rw[aaX] at hF;exact⟨_,A5,c5,rfl,hF⟩))
  ·have c1:(m:Int)<=(cn:Int):=o_
   rw[aaq fK] at YC;have YD:=h_ YC;clear YC
   go_region_held3 (fun w'=>w'.cell? ⟨w.heap.size,0,none⟩=some (.slice (some ⟨b,off,none⟩) ns.length cn))
    (go_keep)
    (first|(refine q8 rfl _ _ _ rfl i0 Tryz.underlying24 hi iz0 iz1 iz2 w4 w4.heap.size (.slice (some ⟨_,0,none⟩) 0 0) (.slice (some ⟨b,off,none⟩) m cn) [] T rfl rfl (BoxO.start w4 (by simp) rfl) YB.out (by simp;have:=Cb.out;omega) ?_;intro A3 c3 w3 GZ;have Uk:=h_ GZ;clear GZ;(have Hf:=Uk.out.2.1);(have fU:=fun (b o:Nat) (h:b<w4.heap.size)=>Hf.cell (p:=⟨b,o,none⟩) h);clear Hf)|(refine q8 rfl _ _ _ rfl i0 Tryz.underlying24 hi iz0 iz1 iz2 w4 (w4.heap.size+1) (.slice (some ⟨_,0,none⟩) 0 0) (.slice (some ⟨b,off,none⟩) m cn) [] T rfl rfl ((BoxN.start w4 (by simp)).box (by simp)) YB.out (by simp;have:=Cb.out;omega) ?_;intro A3 c3 w3 GZ;have Uk:=h_ GZ;clear GZ;(have Hf:=Uk.out.2.1);(have fU:=fun (b o:Nat) (h:b<w4.heap.size)=>Hf.cell (p:=⟨b,o,none⟩) h);clear Hf)|(refine jZ rfl _ _ _ rfl i0 Tryz.underlying24 hi iz0 iz1 iz2 w4 (.slice (some ⟨_,0,none⟩) 0 0) (.slice (some ⟨b,off,none⟩) m cn) [] T rfl rfl (BoxN.start w4 (by simp)) YB.out (by simp;have:=Cb.out;omega) ?_;intro A3 c3 w3 GZ;have YE:=h_ GZ;clear GZ;(have Hf:=YE.out.2);(have fU:=fun (b o:Nat) (h:b<w4.heap.size)=>Hf.cell (p:=⟨b,o,none⟩) h);(have fA:=Hf.size);(have p3:w.heap.size<w3.heap.size:=by omega);(have ne3:¬w3.heap.size=w.heap.size:=by omega);clear Hf)|(refine q8 rfl _ _ _ rfl i0 Tryz.underlying24 hi iz0 iz1 iz2 w4 _ (.slice A3 T.length c3) (.slice (some ⟨b,off+(m+1)*2,none⟩) (ns.length -(m+1)) (cn -(m+1))) T D rfl rfl Uk.out YD.out (by have:=Cb.out;have:=ut.out;omega) ?_;intro A5 c5 w5 GR;have FF:=h_ GR;clear GR;(have gf:=FF.out.2.1);(have cV:=fun (b o:Nat) (h:b<w4.heap.size)=>gf.cell (p:=⟨b,o,none⟩) h);clear gf;(have zf0:=FF.out.2.2.1.frozen 0);(have zf1:=FF.out.2.2.1.frozen 1);(have zc0:=FF.out.2.2.1.cell 0);(have zc1:=FF.out.2.2.1.cell 1))|(refine q8 rfl _ _ _ rfl i0 Tryz.underlying24 hi iz0 iz1 iz2 w4 w3.heap.size (.slice A3 T.length c3) (.slice (some ⟨b,off+(m+1)*2,none⟩) (ns.length -(m+1)) (cn -(m+1))) T D rfl rfl (YE.out.box rfl) YD.out (by have:=Cb.out;have:=ut.out;omega) ?_;intro A5 c5 w5 GR;have FF:=h_ GR;clear GR;(have gf:=FF.out.2.1);(have cV:=fun (b o:Nat) (h:b<w4.heap.size)=>gf.cell (p:=⟨b,o,none⟩) h);clear gf;(have zf0:=FF.out.2.2.1.frozen 0);(have zf1:=FF.out.2.2.1.frozen 1);(have zc0:=FF.out.2.2.1.cell 0);(have zc1:=FF.out.2.2.1.cell 1))|(refine jZ rfl _ _ _ rfl i0 Tryz.underlying24 hi iz0 iz1 iz2 w4 (.slice A3 T.length c3) (.slice (some ⟨b,off+(m+1)*2,none⟩) (ns.length -(m+1)) (cn -(m+1))) T D rfl rfl YE.out YD.out (by have:=Cb.out;have:=ut.out;omega) ?_;intro A5 c5 w5 GR;have HN5:=h_ GR;clear GR;(have gf:=HN5.out.2);(have cV:=fun (b o:Nat) (h:b<w4.heap.size)=>gf.cell (p:=⟨b,o,none⟩) h);clear gf))
   all_goals go_wp2
   all_goals go_meet
   all_goals (first|(have hF:=FF.out.filled;rw[aaX] at hF;exact⟨_,A5,c5,rfl,hF⟩)|(have hF:=HN5.out.filled;rw[aaX] at hF;exact⟨_,A5,c5,rfl,hF⟩))
 case rest=>
  obtain⟨x,A,c,rfl,hx,Nh,hO,CJ,hax⟩:=hcut;obtain⟨w6,Cf⟩:∃w6:World,w6=wc:=⟨_,rfl⟩;subst Cf;obtain⟨N,HN⟩:∃N,N=T++D:=⟨_,rfl⟩;rw[<-HN] at CJ hTD;have hlN:T.length+D.length=N.length:=by rw[HN,aaX]
  rw[hlN] at hO CJ hax;clear HN hlN YB YC;go_wp2
  go_loopw [10] (fun i wr=>∃j:Nat,j<=ls.length/\i= .int .i64 j/\∃A' c',OwnW w4.heap.size wr (.slice A N.length c) (.slice A' (jwo ls m p q (mn2 (t:Int) u,mx2 (t:Int) u) j).length c') N (jwo ls m p q (mn2 (t:Int) u,mx2 (t:Int) u) j)/\
    Blk wr x 27 #[.slice A N.length c,.slice A' (jwo ls m p q (mn2 (t:Int) u,mx2 (t:Int) u) j).length c']/\(∀k,zw (.slice A N.length c) (.slice A' (jwo ls m p q (mn2 (t:Int) u,mx2 (t:Int) u) j).length c') k->¬k=x)/\Below w4.heap.size w4 wr) (fun i _=>ls.length -(intOf i).toNat)
  case atStart=>exact⟨0,aab _,rfl,none,0,⟨CJ,OwnP.nil _ _ _,by intro k _ h2;cases h2⟩,hO,(by rintro k (h|h);exact hax k h;cases h),Nh⟩
  case round=>
   obtain⟨j,mz,rfl,A',c',ho,hO,Cz,hb⟩:=hrel;clear Nh CJ hax a_0 a_1;have hA:=Ca.below hb n1;have hR:=fd.below hb n2;have n1':w.heap.size<wr.heap.size:=hA.lt;have n2':w.heap.size+1<wr.heap.size:=hR.lt;have n3':x<wr.heap.size:=hO.lt;have n4':w4.heap.size<=wr.heap.size:=hb.size;obtain⟨a_0,a_1⟩:=hA.c2;obtain⟨o_0,o_1,o_f0,o_f1⟩:=hO.b2;have y0':=(hb.cell (p:=⟨b2,o2,none⟩) g2').trans y0;have y1':=(hb.cell (p:=⟨b2,o2+1,none⟩) g2').trans y1;have g3:b2<wr.heap.size:=o_
   have hG:=z1N ls m p q (mn2 (t:Int) u,mx2 (t:Int) u) j
   by_cases Hd:j<ls.length
   ·obtain⟨k0,k1⟩:=Ce.out j Hd
    have q0:=(hb.cell (p:=⟨bl,offl+j*2,none⟩) (by have:=Hp.size;show bl<w4.heap.size;omega)).trans ((Hp.cell (p:=⟨bl,offl+j*2,none⟩) Hb).trans k0);have q1:=(hb.cell (p:=⟨bl,offl+j*2+1,none⟩) (by have:=Hp.size;show bl<w4.heap.size;omega)).trans ((Hp.cell (p:=⟨bl,offl+j*2+1,none⟩) Hb).trans k1);obtain⟨⟨be1,be2⟩,be3,be4⟩:=mT.out j Hd;clear k0 k1;have c1:(0:Int)<=(j:Int):=o_
    have c3:(j:Int)<(ls.length:Int):=o_
    by_cases YF:j=q
    ·have HS:Hid (jwo ls m p q (mn2 (t:Int) u,mx2 (t:Int) u) (j+1)=jwo ls m p q (mn2 (t:Int) u,mx2 (t:Int) u) j):=h_ (by simp[jwo,YF])
     have s1:((j:Int)==(q:Int))=true:=by simp[YF]
     clear YF;generalize (ndI ls j).1=e1 at*;generalize (ndI ls j).2=e2 at*;have HB:Hid (Below w4.heap.size w4 (wr.alloc (.cells #[.int .i64 e1,.int .i64 e2] 108))):=h_ bel_;go_wp2;go_roundw
     case rel=>exact⟨j+1,by omega,by go_num,A',c',by rw[HS.out];exact ho.alloc _,by rw[HS.out];exact hO.alloc _,by rw[HS.out];exact Cz,HB.out⟩
     case measure=>simp[intOf];omega
    ·have s1:((j:Int)==(q:Int))=false:=by simp;omega
     by_cases hjp:j=p
     ·have bm:Hid (jwo ls m p q (mn2 (t:Int) u,mx2 (t:Int) u) (j+1)=jwo ls m p q (mn2 (t:Int) u,mx2 (t:Int) u) j++[(dnI m (mn2 (t:Int) u),dnI m (mx2 (t:Int) u))]):=h_ (by subst hjp;simp[jwo,YF,dnP])
      have s3:((j:Int)==(p:Int))=true:=by simp[hjp]
      clear hjp YF;generalize (ndI ls j).1=e1 at*;generalize (ndI ls j).2=e2 at*;generalize jwo ls m p q (mn2 (t:Int) u,mx2 (t:Int) u) j=G at*;have ee1: -1000000<=mn2 (t:Int) u/\mn2 (t:Int) u<=1000000:=by rw[Z5];omega
      have ee2: -1000000<=mx2 (t:Int) u/\mx2 (t:Int) u<=1000000:=by rw[kz];omega
      obtain⟨ef1,ef2⟩:=ee1;obtain⟨ef3,ef4⟩:=ee2
      by_cases h1:(m:Int)<mn2 (t:Int) u
      ·by_cases h2:(m:Int)<mx2 (t:Int) u
       ·have HS:Hid (jwo ls m p q (mn2 (t:Int) u,mx2 (t:Int) u) (j+1)=G++[(mn2 (t:Int) u -1,mx2 (t:Int) u -1)]):=h_ (by rw[bm.out];simp[dnI,h1,h2])
        go_wp2_with (at_builtin;refine zj rfl _ _ _ rfl w4.heap.size 108 j0 Tryz.underlying25 hj jz0 jz1 jz2 (.slice A' G.length c') _ G [(mn2 (t:Int) u -1,mx2 (t:Int) u -1)] rfl rfl ((ho.2.1.alloc _).alloc _) (jk (by simp) rfl rfl rfl (by simp[maxLen])) (by simp;omega) (by simp;omega) ?_)
        intro A3 c3 w3 Hq gM Fh;have HN:=h_ (kn hx hO Cz hb ho Hq gM Fh);have GM:=HN.out.2.2.2.2;clear Fh gM hb ho hO Cz a_0 a_1 o_0 o_1 o_f0 o_f1 q0 q1 Hq;obtain⟨o_0,o_1,o_f0,o_f1⟩:=GM.b2;clear GM;go_wp2;go_roundw
        case rel=>exact⟨j+1,by omega,by go_num,A3,c3,by rw[HS.out];exact HN.out.1,by rw[HS.out];exact HN.out.2.1,by rw[HS.out];exact HN.out.2.2.1,HN.out.2.2.2.1⟩
        case measure=>simp[intOf];omega
       ·have HS:Hid (jwo ls m p q (mn2 (t:Int) u,mx2 (t:Int) u) (j+1)=G++[(mn2 (t:Int) u -1,mx2 (t:Int) u)]):=h_ (by rw[bm.out];simp[dnI,h1,h2])
        go_wp2_with (at_builtin;refine zj rfl _ _ _ rfl w4.heap.size 108 j0 Tryz.underlying25 hj jz0 jz1 jz2 (.slice A' G.length c') _ G [(mn2 (t:Int) u -1,mx2 (t:Int) u)] rfl rfl ((ho.2.1.alloc _).alloc _) (jk (by simp) rfl rfl rfl (by simp[maxLen])) (by simp;omega) (by simp;omega) ?_)
        intro A3 c3 w3 Hq gM Fh;have HN:=h_ (kn hx hO Cz hb ho Hq gM Fh);have GM:=HN.out.2.2.2.2;clear Fh gM hb ho hO Cz a_0 a_1 o_0 o_1 o_f0 o_f1 q0 q1 Hq;obtain⟨o_0,o_1,o_f0,o_f1⟩:=GM.b2;clear GM;go_wp2;go_roundw
        case rel=>exact⟨j+1,by omega,by go_num,A3,c3,by rw[HS.out];exact HN.out.1,by rw[HS.out];exact HN.out.2.1,by rw[HS.out];exact HN.out.2.2.1,HN.out.2.2.2.1⟩
        case measure=>simp[intOf];omega
      ·by_cases h2:(m:Int)<mx2 (t:Int) u
       ·have HS:Hid (jwo ls m p q (mn2 (t:Int) u,mx2 (t:Int) u) (j+1)=G++[(mn2 (t:Int) u,mx2 (t:Int) u -1)]):=h_ (by rw[bm.out];simp[dnI,h1,h2])
        go_wp2_with (at_builtin;refine zj rfl _ _ _ rfl w4.heap.size 108 j0 Tryz.underlying25 hj jz0 jz1 jz2 (.slice A' G.length c') _ G [(mn2 (t:Int) u,mx2 (t:Int) u -1)] rfl rfl ((ho.2.1.alloc _).alloc _) (jk (by simp) rfl rfl rfl (by simp[maxLen])) (by simp;omega) (by simp;omega) ?_)
        intro A3 c3 w3 Hq gM Fh;have HN:=h_ (kn hx hO Cz hb ho Hq gM Fh);have GM:=HN.out.2.2.2.2;clear Fh gM hb ho hO Cz a_0 a_1 o_0 o_1 o_f0 o_f1 q0 q1 Hq;obtain⟨o_0,o_1,o_f0,o_f1⟩:=GM.b2;clear GM;go_wp2;go_roundw
        case rel=>exact⟨j+1,by omega,by go_num,A3,c3,by rw[HS.out];exact HN.out.1,by rw[HS.out];exact HN.out.2.1,by rw[HS.out];exact HN.out.2.2.1,HN.out.2.2.2.1⟩
        case measure=>simp[intOf];omega
       ·have HS:Hid (jwo ls m p q (mn2 (t:Int) u,mx2 (t:Int) u) (j+1)=G++[(mn2 (t:Int) u,mx2 (t:Int) u)]):=h_ (by rw[bm.out];simp[dnI,h1,h2])
        go_wp2_with (at_builtin;refine zj rfl _ _ _ rfl w4.heap.size 108 j0 Tryz.underlying25 hj jz0 jz1 jz2 (.slice A' G.length c') _ G [(mn2 (t:Int) u,mx2 (t:Int) u)] rfl rfl ((ho.2.1.alloc _).alloc _) (jk (by simp) rfl rfl rfl (by simp[maxLen])) (by simp;omega) (by simp;omega) ?_)
        intro A3 c3 w3 Hq gM Fh;have HN:=h_ (kn hx hO Cz hb ho Hq gM Fh);have GM:=HN.out.2.2.2.2;clear Fh gM hb ho hO Cz a_0 a_1 o_0 o_1 o_f0 o_f1 q0 q1 Hq;obtain⟨o_0,o_1,o_f0,o_f1⟩:=GM.b2;clear GM;go_wp2;go_roundw
        case rel=>exact⟨j+1,by omega,by go_num,A3,c3,by rw[HS.out];exact HN.out.1,by rw[HS.out];exact HN.out.2.1,by rw[HS.out];exact HN.out.2.2.1,HN.out.2.2.2.1⟩
        case measure=>simp[intOf];omega
     ·have bm:Hid (jwo ls m p q (mn2 (t:Int) u,mx2 (t:Int) u) (j+1)=jwo ls m p q (mn2 (t:Int) u,mx2 (t:Int) u) j++[(dnI m (ndI ls j).1,dnI m (ndI ls j).2)]):=h_ (by simp[jwo,YF,hjp,dnP])
      have s3:((j:Int)==(p:Int))=false:=by simp;omega
      clear hjp YF;generalize (ndI ls j).1=e1 at*;generalize (ndI ls j).2=e2 at*;generalize jwo ls m p q (mn2 (t:Int) u,mx2 (t:Int) u) j=G at*
      by_cases h1:(m:Int)<e1
      ·by_cases h2:(m:Int)<e2
       ·have HS:Hid (jwo ls m p q (mn2 (t:Int) u,mx2 (t:Int) u) (j+1)=G++[(e1 -1,e2 -1)]):=h_ (by rw[bm.out];simp[dnI,h1,h2])
        go_wp2_with (at_builtin;refine zj rfl _ _ _ rfl w4.heap.size 108 j0 Tryz.underlying25 hj jz0 jz1 jz2 (.slice A' G.length c') _ G [(e1 -1,e2 -1)] rfl rfl ((ho.2.1.alloc _).alloc _) (jk (by simp) rfl rfl rfl (by simp[maxLen])) (by simp;omega) (by simp;omega) ?_)
        intro A3 c3 w3 Hq gM Fh;have HN:=h_ (kn hx hO Cz hb ho Hq gM Fh);have GM:=HN.out.2.2.2.2;clear Fh gM hb ho hO Cz a_0 a_1 o_0 o_1 o_f0 o_f1 q0 q1 Hq;obtain⟨o_0,o_1,o_f0,o_f1⟩:=GM.b2;clear GM;go_wp2;go_roundw
        case rel=>exact⟨j+1,by omega,by go_num,A3,c3,by rw[HS.out];exact HN.out.1,by rw[HS.out];exact HN.out.2.1,by rw[HS.out];exact HN.out.2.2.1,HN.out.2.2.2.1⟩
        case measure=>simp[intOf];omega
       ·have HS:Hid (jwo ls m p q (mn2 (t:Int) u,mx2 (t:Int) u) (j+1)=G++[(e1 -1,e2)]):=h_ (by rw[bm.out];simp[dnI,h1,h2])
        go_wp2_with (at_builtin;refine zj rfl _ _ _ rfl w4.heap.size 108 j0 Tryz.underlying25 hj jz0 jz1 jz2 (.slice A' G.length c') _ G [(e1 -1,e2)] rfl rfl ((ho.2.1.alloc _).alloc _) (jk (by simp) rfl rfl rfl (by simp[maxLen])) (by simp;omega) (by simp;omega) ?_)
        intro A3 c3 w3 Hq gM Fh;have HN:=h_ (kn hx hO Cz hb ho Hq gM Fh);have GM:=HN.out.2.2.2.2;clear Fh gM hb ho hO Cz a_0 a_1 o_0 o_1 o_f0 o_f1 q0 q1 Hq;obtain⟨o_0,o_1,o_f0,o_f1⟩:=GM.b2;clear GM;go_wp2;go_roundw
        case rel=>exact⟨j+1,by omega,by go_num,A3,c3,by rw[HS.out];exact HN.out.1,by rw[HS.out];exact HN.out.2.1,by rw[HS.out];exact HN.out.2.2.1,HN.out.2.2.2.1⟩
        case measure=>simp[intOf];omega
      ·by_cases h2:(m:Int)<e2
       ·have HS:Hid (jwo ls m p q (mn2 (t:Int) u,mx2 (t:Int) u) (j+1)=G++[(e1,e2 -1)]):=h_ (by rw[bm.out];simp[dnI,h1,h2])
        go_wp2_with (at_builtin;refine zj rfl _ _ _ rfl w4.heap.size 108 j0 Tryz.underlying25 hj jz0 jz1 jz2 (.slice A' G.length c') _ G [(e1,e2 -1)] rfl rfl ((ho.2.1.alloc _).alloc _) (jk (by simp) rfl rfl rfl (by simp[maxLen])) (by simp;omega) (by simp;omega) ?_)
        intro A3 c3 w3 Hq gM Fh;have HN:=h_ (kn hx hO Cz hb ho Hq gM Fh);have GM:=HN.out.2.2.2.2;clear Fh gM hb ho hO Cz a_0 a_1 o_0 o_1 o_f0 o_f1 q0 q1 Hq;obtain⟨o_0,o_1,o_f0,o_f1⟩:=GM.b2;clear GM;go_wp2;go_roundw
        case rel=>exact⟨j+1,by omega,by go_num,A3,c3,by rw[HS.out];exact HN.out.1,by rw[HS.out];exact HN.out.2.1,by rw[HS.out];exact HN.out.2.2.1,HN.out.2.2.2.1⟩
        case measure=>simp[intOf];omega
       ·have HS:Hid (jwo ls m p q (mn2 (t:Int) u,mx2 (t:Int) u) (j+1)=G++[(e1,e2)]):=h_ (by rw[bm.out];simp[dnI,h1,h2])
        go_wp2_with (at_builtin;refine zj rfl _ _ _ rfl w4.heap.size 108 j0 Tryz.underlying25 hj jz0 jz1 jz2 (.slice A' G.length c') _ G [(e1,e2)] rfl rfl ((ho.2.1.alloc _).alloc _) (jk (by simp) rfl rfl rfl (by simp[maxLen])) (by simp;omega) (by simp;omega) ?_)
        intro A3 c3 w3 Hq gM Fh;have HN:=h_ (kn hx hO Cz hb ho Hq gM Fh);have GM:=HN.out.2.2.2.2;clear Fh gM hb ho hO Cz a_0 a_1 o_0 o_1 o_f0 o_f1 q0 q1 Hq;obtain⟨o_0,o_1,o_f0,o_f1⟩:=GM.b2;clear GM;go_wp2;go_roundw
        case rel=>exact⟨j+1,by omega,by go_num,A3,c3,by rw[HS.out];exact HN.out.1,by rw[HS.out];exact HN.out.2.1,by rw[HS.out];exact HN.out.2.2.1,HN.out.2.2.2.1⟩
        case measure=>simp[intOf];omega
   ·have GV:j=ls.length:=o_
    subst GV;obtain⟨G,HGe⟩:∃G,G=jwo ls m p q (mn2 (t:Int) u,mx2 (t:Int) u) ls.length:=⟨_,rfl⟩;rw[<-HGe] at ho hO Cz cX;clear HGe o_0 o_1 o_f0 o_f1;obtain⟨o_0,o_1,o_f0,o_f1⟩:=hO.b2;obtain⟨bw,mW⟩:∃b,winB (xO ns m) (xZ ls m)=b:=⟨_,rfl⟩;have cH:=h_ mW;have hC:winB N G=bw:=by rw[<-hTD.out,<-cX.out];exact mW
    clear mW;have YG:Below w.heap.size w wr:=Hp.trans (hb.mono Hp.size)
    go_wp2_with fail
    refine(zJ _ _ N G bw _ ho.1.reads ho.2.1.reads hC).mono ?_
    rintro e w7 ⟨rfl,GT⟩;have Nz:=hA.below GT n1';have CV:=hR.below GT n2';have Bt:=hO.below GT n3';have bY:=ho.kept GT;have Gl:=YG.trans (GT.mono YG.size);have n8:w.heap.size+1<w7.heap.size:=CV.lt;clear GT hA hR hO ho hb YG Cz a_0 a_1 o_0 o_1 o_f0 o_f1 y0' y1' hC
    cases bw
    ·have EB:qY ns ls m=false:=by unfold qY;rw[cH.out,Bool.and_false]
     have EN:qr ns ls m=ns:=by unfold qr;rw[EB];rfl
     have EL:qp ns ls m=ls:=by unfold qp;rw[EB];rfl
     obtain⟨a_0,a_1⟩:=Nz.c2
     go_wp2_with fail
     refine(qo _ _ ns ls _ (hn.below Gl) (hl.below Gl) h1 h2).mono ?_
     rintro e w8 ⟨An1,cn1,Al1,cl1,rfl,ho8,Br⟩;have Ny:=CV.below Br n8;have Fg:=Gl.trans (Br.mono Gl.size);have Cy:=h_ (((ho8.setLow (p:=⟨w.heap.size+1,0,none⟩) n8 (.slice An1 ns.length cn1)).setLow (p:=⟨w.heap.size+1,1,none⟩) n8 (.slice Al1 ls.length cl1)).mono (show w.heap.size<=_ by omega));have HB:=h_ ((Fg.setCell (p:=⟨w.heap.size+1,0,none⟩) sz_ (.slice An1 ns.length cn1)).setCell (p:=⟨w.heap.size+1,1,none⟩) sz_ (.slice Al1 ls.length cl1));clear ho8 Fg Br Nz CV Bt bY Gl a_0 a_1;obtain⟨r_0,r_1,r_f0,r_f1⟩:=Ny.b2;go_wp2;exact bodyPost_ret (v:= .tuple #[.agg #[.slice An1 ns.length cn1,.slice Al1 ls.length cl1],.bool false]) (by simp[results,Tryz.results109,go_sem,r_0,r_1]) rfl (by show zC (qr ns ls m) (qp ns ls m) (qY ns ls m) w _ _;rw[EB,EN,EL];exact zC.mk rfl rfl rfl Cy.out HB.out)
    ·have EB:qY ns ls m=true:=by unfold qY;rw[cH.out,hs];rfl
     have EN:qr ns ls m=N:=by unfold qr;rw[EB,hTD.out];rfl
     have EL:qp ns ls m=G:=by unfold qp;rw[EB,cX.out];rfl
     have Cy:=h_ (((bY.setLow (p:=⟨w.heap.size+1,0,none⟩) n2 (.slice A N.length c)).setLow (p:=⟨w.heap.size+1,1,none⟩) n2 (.slice A' G.length c')).mono (show w.heap.size<=_ by omega));have HB:=h_ ((Gl.setCell (p:=⟨w.heap.size+1,0,none⟩) sz_ (.slice A N.length c)).setCell (p:=⟨w.heap.size+1,1,none⟩) sz_ (.slice A' G.length c'));clear bY Gl Nz;obtain⟨r_0,r_1,r_f0,r_f1⟩:=CV.b2;obtain⟨o_0,o_1,o_f0,o_f1⟩:=Bt.b2;clear CV Bt;go_wp2;exact bodyPost_ret (v:= .tuple #[.agg #[.slice A N.length c,.slice A' G.length c'],.bool true]) (by simp[results,Tryz.results109,go_sem,r_0,r_1,o_0,o_1]) rfl (by show zC (qr ns ls m) (qp ns ls m) (qY ns ls m) w _ _;rw[EB,EN,EL];exact zC.mk rfl rfl rfl Cy.out HB.out)
theorem z6K (vn vl:Value) (ns ls:List Pr) (k:Int) (w:World) (hn:RP w vn ns) (hl:RP w vl ls) (h1:ns.length<=1048576) (h2:ls.length<=1048576):
  Calls Tryz.prog 109 #[.agg #[vn,vl],.int .i64 k] w (fun e w'=>zC (qr ns ls k) (qp ns ls k) (qY ns ls k) w e w'):=by
 cases hs:zP ns ls k
 ·have EB:qY ns ls k=false:=by unfold qY;rw[hs];rfl
  have EN:qr ns ls k=ns:=by unfold qr;rw[EB];rfl
  have EL:qp ns ls k=ls:=by unfold qp;rw[EB];rfl
  rw[EB,EN,EL];exact z8q vn vl ns ls k w hn hl h1 h2 hs
 ·obtain⟨m,p,q,t,u,rfl,hk,h⟩:=z4F hs
  have hm:=h.hm;obtain⟨An,cn,rfl,ci,_,hcell⟩:=hn.form;obtain⟨b,off,rfl,_⟩:=hcell o_;exact z74 vl ns ls (ns.take m) (ns.drop (m+1)) b off cn m p q t u w hn hl h1 h2 ci (RP.take hn m o_) (h_ (by simp;omega)) (RP.drop hn (m+1) o_) (h_ (by simp)) hs hk h (h_ h.cn)
end Go.Proofs.YtnjcpljhmhdhkaaGreat
