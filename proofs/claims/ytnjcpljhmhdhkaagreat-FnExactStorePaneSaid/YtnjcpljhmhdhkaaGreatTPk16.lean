/- part 16 -/
import Derived.Test.YtnjcpljhmhdhkaaGreatTPk13
set_option linter.unusedSimpArgs false
set_option linter.unusedVariables false
set_option maxRecDepth 100000
set_option maxHeartbeats 4000000
namespace Go.Proofs.YtnjcpljhmhdhkaaGreat
open Go.RowKit
attribute [local go_sem ↓] zu zw zY zZ
def othI (l:Pr) (k:Int):Int:=if k=l.1 then l.2 else if k=l.2 then l.1 else -1
theorem z1t (a b k:Int) (w:World):
  Calls Tryz.prog 249 #[.agg #[.int .i64 a,.int .i64 b],.int .i64 k] w fun e w'=>e= .returned (.int .i64 (othI (a,b) k))∧Below w.heap.size w w':=by
 go_enter Tryz.func249,Tryz.ntmps249
 go_wp2
 all_goals go_ret
 all_goals refine⟨ze ?_,by exact bel_⟩
 all_goals (unfold othI;simp_all)
theorem z1r (a b k:Int) (w:World):
  Calls Tryz.prog 188 #[.agg #[.int .i64 a,.int .i64 b],.int .i64 k] w fun e w'=>e= .returned (.int .i64 (othI (a,b) k))∧Below w.heap.size w w':=by
 go_enter Tryz.func188,Tryz.ntmps188
 go_wp2
 all_goals go_ret
 all_goals refine⟨ze ?_,by exact bel_⟩
 all_goals (unfold othI;simp_all)
theorem ko {ns ls:List Pr} {k:Int} (h:hasN ns ls k=true):winB ns ls=true∧∃m:Nat,k=(m:Int)∧m<ns.length:=by
 unfold hasN at h;rw[Bool.and_eq_true] at h;have:=zt.1 h.2;exact⟨h.1,k.toNat,by omega,by omega⟩
theorem VM (ls:List Pr) (k:Int):∀m,∀i∈atN ls k m,i<m∧jk ls k i=true
 |0,i,h=>by simp[atN] at h
 |m+1,i,h=>by
  cases ht:jk ls k m
  ·rw[VN ht] at h
   have:=VM ls k m i h;exact⟨by omega,this.2⟩
  ·rw[Z3 ht,List.mem_append,List.mem_singleton] at h
   rcases h with h|h
   ·have:=VM ls k m i h
    exact⟨by omega,this.2⟩
   ·subst h;exact⟨by omega,ht⟩
def y8 (ls:List Pr) (k:Int) (G:List Nat):List Int:=G.map fun (i:Nat)=>othI (ndI ls i) k
theorem Xk (ls:List Pr) (k:Int) (G:List Nat):(y8 ls k G).length =G.length:=by simp[y8]
theorem Vn (vn vl:Value) (ns ls:List Pr) (k:Int) (w:World) (hn:RP w vn ns) (hl:RP w vl ls) (hk:hasN ns ls k=true):
  Calls Tryz.prog 217 #[.agg #[vn,vl],.int .i64 k] w (RetI (y8 ls k (atN ls k ls.length)) w):=by
 have hm20:ls.length≤20:=(zI.1 (ko hk).1).2.2.1;obtain⟨Al,cl,rfl,hcl,hml,hcelll⟩:=hl.formI;obtain⟨i0,hi,iz0,iz1,iz2⟩:=info_parts qu;unfold maxLen at hml
 go_enter Tryz.func217,Tryz.ntmps217
 go_wp2_with fail
 refine(vC _ _ ns ls _ _ (hn.below (by exact bel_)) (hl.below (by exact bel_)) hk).mono ?_
 rintro e w1 ⟨v1,rfl,ho1,hb1⟩;have hz1':=hb1.size;simp at hz1'
 obtain⟨A1,c1,rfl⟩:=ho1.form;have hW1:Blk w1 w.heap.size 27 #[vn,.slice Al ls.length cl]:=Blk.below (Blk.newAt rfl) hb1 sz_;have hbw1:Below w.heap.size w w1:=by exact bel_
 have hr1:=ho1.reads;have hglen:=Zb ls k ls.length;have HLT:=Lib.hid (VM ls k ls.length);clear hb1 ho1;have hnl:=zc (atN ls k ls.length);obtain⟨A1',c1',e1,hc1,hmG,hcellG⟩:=hr1.form
 cases e1
 generalize atN ls k ls.length=G at*;rw[hnl] at hcellG;have HNL:=Lib.hid hnl;clear hnl hr1;obtain⟨a_0,a_1⟩:=hW1.c2;have hGm:((natI G).length :Int)=(G.length:Int):=by rw[HNL.out]
 go_wp2
 go_loopw [5,12] (fun v i wr=>∃j:Nat,j≤G.length∧i= .int .i64 j∧OwnI w1.heap.size wr v (y8 ls k (G.take j))∧Blk wr w.heap.size 27 #[vn,.slice Al ls.length cl]∧Below w1.heap.size w1 wr) (fun _ i _=>G.length -(intOf i).toNat)
 case atStart=>exact⟨0,Nat.zero_le _,rfl,OwnI.nil _ _,hW1,Below.refl _ _⟩
 case round=>
  obtain⟨j,hj,rfl,ho,hW,hbl⟩:=hrel;clear hW1 a_0 a_1;have hsz:=hW.lt;have hsz1:=hbl.size;obtain⟨a_0,a_1⟩:=hW.c2
  by_cases hlt:j<G.length
  ·obtain⟨bg,og,rfl,hbg,hcg⟩:=hcellG (by omega)
   have q:=(hbl.cell (p:=⟨bg,og+j,none⟩) hbg).trans (hcg j hlt);have e2:(natI G).getD j 0=((G[j]:Nat):Int):=by simp[natI,List.getD,hlt]
   rw[e2] at q;have hgj:=(HLT.out G[j] (List.getElem_mem hlt)).1
   have HS:Hid (y8 ls k (G.take (j+1))=y8 ls k (G.take j)++[othI (ndI ls (G[j]:Nat)) k]):=Lib.hid (by
    unfold y8;rw[List.take_succ_eq_append_getElem hlt,List.map_append];rfl)
   have HL:Hid ((y8 ls k (G.take j)).length =j):=Lib.hid (by rw[Xk];simp;omega);generalize G[j]=p at*;obtain⟨b,off,rfl,hb,hcc⟩:=hcelll (by omega);obtain⟨k0,k1⟩:=hcc p hgj;have hbw:Below w.heap.size w wr:=hbw1.trans (hbl.mono hbw1.size);have q0:=(hbw.cell (p:=⟨b,off+p*2,none⟩) hb).trans k0;have q1:=(hbw.cell (p:=⟨b,off+p*2+1,none⟩) hb).trans k1;have hi1:(0:Int)≤(j:Int):=by omega
   have hi2:(j:Int)<(G.length:Int):=by omega
   have hi3:(0:Int)≤(p:Int):=by omega
   have hi4:(p:Int)<(ls.length:Int):=by omega
   clear e2 k0 k1 hcc hcelll hcg hcellG;generalize ndI ls (p:Int)=L at*;obtain⟨l1,l2⟩:=L;simp only at q0 q1
   go_wp2_with fail
   refine(z1t _ _ _ _).mono ?_
   rintro e w2 ⟨rfl,hb2⟩;have hz2:=hb2.size;have ho2:=ho.kept hb2;have hW2:=hW.below hb2 hsz;have hbl2:Below w1.heap.size w1 w2:=hbl.trans (hb2.mono hsz1);obtain⟨A2,c2,rfl⟩:=ho2.form;clear ho hW hb2 a_0 a_1;generalize othI (l1,l2) k=x at*
   go_wp2_with (at_builtin;refine wpList_append_own _ rfl _ _ 31 rfl w1.heap.size 3 i0 (.int .i64 0) 1 8 Tryz.underlying31 hi iz0 iz1 iz2 rfl (by decide) _ _ _ rfl (World.ownsRow.alloc ho2 _) ⟨w2.heap.size,0,none⟩ 1 1 [.int .i64 _] rfl rfl (qX (by simp)) (by intro u hu;simp at hu;subst hu;rfl) (by rw[HL.out];unfold maxLen;omega) (by rw[HL.out];omega) (by simp;omega) ?_)
   intro v3 w3 hown3 hg3 _;have hrow:∀b,(Value.slice A2 (y8 ls k (G.take j)).length c2).ownBlock =some b→w1.heap.size≤b:=fun b hb=>(ho2.lt b hb).1
   have hW3:=(hW2.alloc (.cells #[.int .i64 x] 3)).grownR hg3 (fun b hb=>by have:=hrow b hb;omega);have HO:OwnI w1.heap.size w3 v3 (y8 ls k (G.take j)++[x]):=OwnI.snoc hown3;have hbl3:Below w1.heap.size w1 w3:=(Below.alloc hbl2 (by omega) _).grown hg3 sz_ (fun b hb=>hrow b hb);clear hown3 hg3 ho2 hW2 hbl2;go_wp2;go_roundw
   case rel=>exact⟨j+1,by omega,by go_num,by rw[HS.out];exact HO,hW3,hbl3⟩
   case measure=>simp[intOf];omega
  ·have hjj:j=G.length:=by omega
   subst hjj;rw[List.take_length] at ho;go_wp2;go_ret
   exact⟨_,rfl,ho.mono (show w.heap.size≤w1.heap.size by omega),hbw1.trans (hbl.mono hbw1.size)⟩
noncomputable def zJ (ns ls:List Pr) (k:Int):Bool:=
 decide (degI ns ls k=2)&&j8 (ndI ns ((y8 ls k (atN ls k ls.length)).getD 0 0)) (ndI ns ((y8 ls k (atN ls k ls.length)).getD 1 0)) (ndI ns k)
theorem deg2 {ns ls:List Pr} {k:Int} (h:degI ns ls k=2):hasN ns ls k=true∧(atN ls k ls.length).length =2:=by
 unfold degI at h
 cases hk:hasN ns ls k
 ·rw[hk] at h;simp at h
 ·rw[hk] at h
  simp at h
  exact⟨rfl,by omega⟩
theorem z2x {ns ls:List Pr} {k:Int} (hw:q7 ns ls) {i:Nat} (hi:i<ls.length) (ht:jk ls k i=true):∃t:Nat,othI (ndI ls i) k=(t:Int)∧t<ns.length∧(t:Int)≠k:=by
 obtain⟨h1,h2,h3,_⟩:=zR.1 ((hw.2.2.2.2.2 i hi).1);unfold othI
 by_cases e1:k=(ndI ls i).1
 ·rw[if_pos e1]
  exact⟨(ndI ls i).2.toNat,by omega,by omega,by omega⟩
 ·rw[if_neg e1]
  have e2:=Qd ht (fun h=>e1 h.symm);rw[if_pos e2.symm];exact⟨(ndI ls i).1.toNat,by omega,by omega,by omega⟩
theorem Zp {ns ls:List Pr} {k:Int} (hw:q7 ns ls) (h2:(atN ls k ls.length).length =2):
  ∃p q t u:Nat,atN ls k ls.length=[p,q]∧p<ls.length∧q<ls.length∧y8 ls k (atN ls k ls.length)=[(t:Int),(u:Int)]∧t<ns.length∧u<ns.length∧(t:Int)≠k∧(u:Int)≠k∧
   othI (ndI ls p) k=(t:Int)∧othI (ndI ls q) k=(u:Int):=by
 have hlt:=VM ls k ls.length;generalize atN ls k ls.length=G at*
 obtain⟨p,q,rfl⟩:∃p q,G=[p,q]:=by
  match G,h2 with
  | [p,q],_=>exact⟨p,q,rfl⟩
 obtain⟨hp,tp⟩:=hlt p (by simp);obtain⟨hq,tq⟩:=hlt q (by simp);obtain⟨t,e1,ht,ht'⟩:=z2x hw hp tp;obtain⟨u,e2,hu,hu'⟩:=z2x hw hq tq;exact⟨p,q,t,u,rfl,hp,hq,by simp[y8,e1,e2],ht,hu,ht',hu',e1,e2⟩
theorem Jr (vn vl:Value) (ns ls:List Pr) (k:Int) (w:World) (hn:RP w vn ns) (hl:RP w vl ls):
  Calls Tryz.prog 216 #[.agg #[vn,vl],.int .i64 k] w fun e w'=>e= .returned (.bool (zJ ns ls k))∧Below w.heap.size w w':=by
 by_cases hd:degI ns ls k=2
 case neg=>
  have HR:Hid (zJ ns ls k=false):=Lib.hid (by simp[zJ,hd]);obtain⟨d,hdd⟩:∃d,degI ns ls k=d:=⟨_,rfl⟩;have hd2:(d != 2)=true:=by rw[←hdd];simpa using hd
  have HD:=Lib.hid hdd;clear hd hdd
  go_enter Tryz.func216,Tryz.ntmps216
  go_wp2_with fail
  refine(QR _ _ ns ls _ _ (hn.below (by exact bel_)) (hl.below (by exact bel_))).mono ?_
  rw[HD.out];rintro e w1 ⟨rfl,hb1⟩;(first|(with_reducible have hcf1:=z8 hb1)|have hcf1:=bcell hb1);obtain⟨hc1,hf1⟩:=hcf1;have hz1:=hb1.size;(try simp at hz1);(try have hp1_0:=p0_ w w1);(try have hp1_1:=p1_ w w1);(try have hp1_2:=p2_ w w1);(try have hp1_3:=p3_ w w1)
  go_wp2;go_ret
  exact⟨za HR.out.symm,by exact bel_⟩
 obtain⟨hk,h2⟩:=deg2 hd;obtain⟨hw,m,rfl,hm⟩:=ko hk;have hwin:=zI.1 hw;obtain⟨p,q,t,u,eG,hp,hq,eE,ht,hu,_,_,_,_⟩:=Zp hwin h2
 have HR:Hid (zJ ns ls m=jQ (ndI ns t).1 (ndI ns t).2 (ndI ns u).1 (ndI ns u).2 (ndI ns m).1 (ndI ns m).2):=Lib.hid (by
  unfold zJ;rw[hd,eE];simp[j8])
 have HD:=Lib.hid hd;have hn12:=hwin.2.1;obtain⟨An,cn,rfl,hcn,hmn,hcelln⟩:=hn.formI;unfold maxLen at hmn;obtain⟨bn,offn,rfl,hbn,hcc⟩:=hcelln (by omega);obtain⟨t0,t1⟩:=hcc t ht;obtain⟨u0,u1⟩:=hcc u hu;obtain⟨m0,m1⟩:=hcc m hm;have it1:(0:Int)≤(t:Int):=by omega
 have it2:(t:Int)<(ns.length:Int):=by omega
 have iu1:(0:Int)≤(u:Int):=by omega
 have iu2:(u:Int)<(ns.length:Int):=by omega
 have im1:(0:Int)≤(m:Int):=by omega
 have im2:(m:Int)<(ns.length:Int):=by omega
 have HE:=Lib.hid eE;clear hd eG eE hwin hcelln hcc
 go_enter Tryz.func216,Tryz.ntmps216
 go_wp2_with fail
 refine(QR _ _ ns ls _ _ (hn.below (by exact bel_)) (hl.below (by exact bel_))).mono ?_
 rw[HD.out];rintro e w1 ⟨rfl,hb1⟩;(first|(with_reducible have hcf1:=z8 hb1)|have hcf1:=bcell hb1);obtain⟨hc1,hf1⟩:=hcf1;have hz1:=hb1.size;(try simp at hz1);(try have hp1_0:=p0_ w w1);(try have hp1_1:=p1_ w w1);(try have hp1_2:=p2_ w w1);(try have hp1_3:=p3_ w w1)
 have hW1:Blk w1 w.heap.size 27 #[.slice (some ⟨bn,offn,none⟩) ns.length cn,vl]:=Blk.below (Blk.newAt rfl) hb1 sz_;have hbw1:Below w.heap.size w w1:=by exact bel_
 clear hb1 hc1 hf1;obtain⟨a_0,a_1⟩:=hW1.c2
 go_wp2_with fail
 refine(Vn _ _ ns ls _ _ (hn.below hbw1) (hl.below hbw1) hk).mono ?_
 rw[HE.out];rintro e w2 ⟨v2,rfl,ho2,hb2⟩;have hz2:=hb2.size;have hW2:=hW1.below hb2 hW1.lt;have hbw2:Below w.heap.size w w2:=hbw1.trans (hb2.mono hbw1.size);obtain⟨A2,c2,e2,hc2,_,hcell2⟩:=ho2.reads.form;subst e2;obtain⟨b2,o2,rfl,hb2',hcl2⟩:=hcell2 (by simp);have x0:=hcl2 0 (by simp);have x1:=hcl2 1 (by simp);simp only[List.getD_cons_zero,List.getD_cons_succ,Nat.add_zero] at x0 x1
 have c0:=(hbw2.cell (p:=⟨bn,offn+t*2,none⟩) hbn).trans t0;have c1':=(hbw2.cell (p:=⟨bn,offn+t*2+1,none⟩) hbn).trans t1;have c3:=(hbw2.cell (p:=⟨bn,offn+u*2,none⟩) hbn).trans u0;have c4:=(hbw2.cell (p:=⟨bn,offn+u*2+1,none⟩) hbn).trans u1;have c5:=(hbw2.cell (p:=⟨bn,offn+m*2,none⟩) hbn).trans m0;have c6:=(hbw2.cell (p:=⟨bn,offn+m*2+1,none⟩) hbn).trans m1;have z1:w.heap.size<w2.heap.size:=hW2.lt;have z2:bn<w2.heap.size:=by omega
 clear hb2 hW1 hbw1 a_0 a_1 ho2 hcl2 hcell2 t0 t1 u0 u1 m0 m1;obtain⟨a_0,a_1⟩:=hW2.c2;simp only[List.length_cons,List.length_nil,Nat.zero_add] at hc2
 go_wp2_with fail
 (refine z9 (by kernel_rfl) (by kernel_rfl) (fun hG=>?_))
 repeat (go_big_quiet_step ((go_at_call 213;exact zv (vL _ _ _ _ _ _ _))))
 (refine wpQuiet_nil ?_);(clear hG);(rintro w3 ⟨⟨_,hb3⟩,rfl⟩);(try dsimp only);(first|(with_reducible have hcf3:=z8 hb3)|have hcf3:=bcell hb3);obtain⟨hc3,hf3⟩:=hcf3;have hz3:=hb3.size;(try simp at hz3);(try have hp3_0:=p0_ w w3);(try have hp3_1:=p1_ w w3);(try have hp3_2:=p2_ w w3);(try have hp3_3:=p3_ w w3)
 go_wp2;go_ret
 exact⟨za HR.out.symm,by exact bel_⟩
end Go.Proofs.YtnjcpljhmhdhkaaGreat
