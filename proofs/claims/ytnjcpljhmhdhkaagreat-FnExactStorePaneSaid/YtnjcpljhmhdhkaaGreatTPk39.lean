/- part 39 -/
import Derived.Test.YtnjcpljhmhdhkaaGreatTPk33
set_option linter.unusedSimpArgs false
set_option linter.unusedVariables false
set_option maxRecDepth 100000
set_option maxHeartbeats 8000000
namespace Go.Proofs.YtnjcpljhmhdhkaaGreat
open Go.RowKit
theorem OwnF.get {base:Nat} {w:World} {v:Value} {F:List (List Nat)} (h:OwnF base w v F) {k:Nat} (hk:k<F.length):∃g c u,v= .slice (some ⟨g,0,none⟩) F.length c∧F.length≤c∧base≤g∧g<w.heap.size∧w.cell? ⟨g,k,none⟩=some u∧OwnI base w u (natI (F.getD k [])):=by
 obtain⟨vs,h1,h2,h3⟩:=h
 rcases h2.2 with ⟨_,hn⟩|⟨g,cap,cur,rfl,hb,hh,hc,_⟩
 ·omega
 ·refine⟨g,cap,vs.getD k undef,rfl,hc,hb,(World.ownsRow.lt h2 g rfl).2,?_,h3 k hk⟩
  rw[h2.cellAt k (by omega),List.getD,List.getElem?_eq_getElem (by omega)];rfl
theorem OwnI.blk {base:Nat} {w:World} {u:Value} {zs:List Int} (h:OwnI base w u zs) (h0:0<zs.length):∃g c,u= .slice (some ⟨g,0,none⟩) zs.length c∧zs.length≤c∧base≤g∧g<w.heap.size∧∀q,q<zs.length→w.cell? ⟨g,q,none⟩=some (.int .i64 (zs.getD q 0)):=by
 rcases h.2 with ⟨_,hn⟩|⟨g,cap,cur,rfl,hb,hh,hc,_⟩
 ·omega
 ·exact⟨g,cap,rfl,hc,hb,(h.lt g rfl).2,fun q hq=>h.cell hq⟩
theorem jC {w:World} {ops:Array Oper} {rest:List Oper} {o:Oper} {a:Act} {Q:Exit→Act→World→Prop} (hgd:o.guard=none) (s x:Operand)
  (ho:o.op= .call { callee:= .builtin .append,args:= #[s,x],argTypes:= #[31,31] })
  (base:Nat) (v:Value) (zs:List Int) (z:Int) (hs:a.eval s=v) (g:Nat) (hx:a.eval x= .slice (some ⟨g,0,none⟩) 1 1) (hg:w.cell? ⟨g,0,none⟩=some (.int .i64 z))
  (hown:OwnI base w v zs) (hlen:zs.length≤1048576) (hbase:base≤w.heap.size)
  (h:∀v' w',OwnI base w' v' (zs++[z])→w.grownBy w' v.ownBlock→(v'.ownBlock=v.ownBlock∨v'.ownBlock=some w.heap.size)→wpList Tryz.prog ops Q rest (a.put o.dst v') w'):wpList Tryz.prog ops Q (o::rest) a w:=by
 obtain⟨i,hi,hz,hsize,hby⟩:=info_parts qu
 exact wpList_append_own_at w hgd s x 31 ho base 3 i (.int .i64 0) 1 8 Tryz.underlying31 hi hz hsize hby rfl (by decide) v zs.length _ hs hown ⟨g,0,none⟩ 1 1 [.int .i64 z] hx rfl
  (fun j y hj=>by
   match j,hj with
   |0,hj=>cases hj;exact hg
   |j+1,hj=>simp at hj)
  (by intro y hy;simp at hy;subst hy;rfl) (by unfold maxLen;omega) (by omega) hbase fun v' w' e1 e2 _ e3=>h v' w' (OwnI.snoc e1) e2 e3
def nodK (ls:List Pr) (f:List Nat) (k:Nat):List Int:=(f.take k).map (zd ls)
theorem JG {ls:List Pr} {f:List Nat} {k:Nat} (h:k<f.length):nodK ls f (k+1)=nodK ls f k++[zd ls (f.getD k 0)]:=by
 unfold nodK;rw[List.take_succ_eq_append_getElem h,List.map_append,show f.getD k 0=f[k] by simp[List.getD,h]];rfl
theorem Jk {ls:List Pr} {f:List Nat} {k:Nat} (h:k≤f.length):(nodK ls f k).length =k:=by simp[nodK];omega
def nodF (ls:List Pr) (f:List Nat):List Int:=nodK ls f f.length
theorem ZN (ls:List Pr) (f:List Nat):(nodF ls f).length =f.length:=Jk (Nat.le_refl _)
noncomputable def qr (ns ls:List Pr) (f:Int):List Int:=if inB f 0 (((zb ns ls).length :Int) -1) then nodF ls ((zb ns ls).getD f.toNat []) else []
noncomputable def jB (ns ls:List Pr) (f:Int):Bool:=decide (0<(qr ns ls f).length)&&(@decide ((qr ns ls f).Nodup) (Classical.propDecidable _)&& !(decide (f=qH ns ls)))
theorem vy {ns ls:List Pr} {f:Int} (h:inB f 0 (((zb ns ls).length :Int) -1)=false):qr ns ls f=[]:=by simp[qr,h]
theorem kF {ns ls:List Pr} {k:Nat} (h:k<(zb ns ls).length):qr ns ls k=nodF ls ((zb ns ls).getD k []):=by
 unfold qr;rw[if_pos (zt.2 (by omega)),Int.toNat_natCast]
theorem kN (ns ls:List Pr) (f:Int):(qr ns ls f).length ≤40:=by
 cases h:inB f 0 (((zb ns ls).length :Int) -1)
 ·rw[vy h];simp
 ·obtain⟨k,rfl⟩:∃k:Nat,f=k:=⟨f.toNat,by have:=zt.1 h;omega⟩
  have hk:k<(zb ns ls).length :=by have:=zt.1 h;omega
  rw[kF hk,ZN];exact(jt hk).2.2.2
theorem ZQ (vn vl:Value) (ns ls:List Pr) (f:Int) (w:World) (hn:RP w vn ns) (hl:RP w vl ls):
  Calls Tryz.prog 114 #[.agg #[vn,vl],.int .i64 f] w (RetI (qr ns ls f) w):=by
 have hba:Below w.heap.size w ((w.alloc (.cells #[vn,vl] 27)).alloc (.cells #[] 3)):=by exact bel_
 have hWA:Blk ((w.alloc (.cells #[vn,vl] 27)).alloc (.cells #[] 3)) w.heap.size 27 #[vn,vl]:=(Blk.newAt rfl).alloc _;have hOA:OwnI (w.heap.size+1) ((w.alloc (.cells #[vn,vl] 27)).alloc (.cells #[] 3)) (.slice (some ⟨w.heap.size+1,0,none⟩) 0 0) []:=OwnI.made (by simp) (by simp);have hfl:=zL ns ls;have HFA:=Lib.hid (fun (v:World) (hb:Below w.heap.size w v)=>jF vn vl ns ls v (hn.below hb) (hl.below hb));obtain⟨i0,hi,iz0,iz1,iz2⟩:=info_parts qu
 cases hin:inB f 0 (((zb ns ls).length :Int) -1)
 ·have HR:=Lib.hid (vy (f:=f) hin)
  generalize zb ns ls=F at*;have HIN:=Lib.hid hin;clear hin
  go_enter Tryz.func114,Tryz.ntmps114
  go_wp2_with fail
  refine(HFA.out _ hba).mono ?_
  rintro e w1 ⟨v1,rfl,ho1,hb1⟩;obtain⟨A1,c1,rfl⟩:=ho1.form;have hO1:=hOA.kept hb1;have hbw1:=hba.trans (hb1.mono hba.size)
  go_wp2_with fail
  refine(jd _ _ _ _).mono ?_
  rintro e w' ⟨rfl,rfl⟩;rw[HIN.out];go_wp2;go_ret
  exact⟨_,rfl,by rw[HR.out];exact hO1.mono (by omega),hbw1⟩
 ·obtain⟨k,rfl⟩:∃k:Nat,f=k:=⟨f.toNat,by have:=zt.1 hin;omega⟩
  have hk:k<(zb ns ls).length :=by have:=zt.1 hin;omega
  have HR:=Lib.hid (kF hk);obtain⟨hwin,hfe,hf0,hf40⟩:=jt hk;have hm20:=hwin.2.2.1;generalize zb ns ls=F at*;generalize hff:F.getD k []=ff at*;have HFF:=Lib.hid hff;have HFE:=Lib.hid hfe;have HNS:=Lib.hid (fun j hj=>JG (ls:=ls) (f:=ff) (k:=j) hj);have HNL:=Lib.hid (fun j hj=>Jk (ls:=ls) (f:=ff) (k:=j) hj);have HN0:Hid (nodK ls ff 0=[]):=Lib.hid rfl;have HNF:Hid (nodF ls ff=nodK ls ff ff.length):=Lib.hid rfl;have HIN:=Lib.hid hin;have hk1:(k:Int)<(F.length:Int):=by omega
  have ik1:(0:Int)≤(k:Int):=by omega
  clear hin hwin hfe hff
  go_enter Tryz.func114,Tryz.ntmps114
  go_wp2_with fail
  refine(HFA.out _ hba).mono ?_
  rintro e w1 ⟨v1,rfl,ho1,hb1⟩;have hbw1:=hba.trans (hb1.mono hba.size);have hW1:=hWA.below hb1 hWA.lt;have hO1:=hOA.kept hb1;obtain⟨b4,c1,rr,rfl,hc1,hB4,hb4,hcr,hrr⟩:=ho1.get hk;rw[HFF.out] at hrr;have hnl:=zc ff;obtain⟨b5,c2,rfl,hc2,hB5,hb5,hcl5⟩:=hrr.blk (by omega);rw[hnl] at hcl5 hcr hc2;have HCL5:=Lib.hid hcl5;have hap4:w.heap.size+1≠b4:=by simp at hB4;omega
  have hap5:w.heap.size+1≠b5:=by simp at hB5;omega
  clear hb1 hba hWA hOA ho1 hcl5 hrr hB4 hB5 hnl
  go_wp2_with fail
  refine(jd _ _ _ _).mono ?_
  rintro e w' ⟨rfl,rfl⟩;rw[HIN.out];go_wp2
  go_loopw [5,7] (fun v x wr=>∃j:Nat,j≤ff.length∧x= .int .i64 j∧OwnI (w.heap.size+1) wr v (nodK ls ff j)∧Blk wr w.heap.size 27 #[vn,vl]∧Below w.heap.size w wr∧wr.cell? ⟨b4,k,none⟩=some (.slice (some ⟨b5,0,none⟩) ff.length c2)∧w1.heap.size≤wr.heap.size∧(∀q,v.ownBlock=some q→q≠b4∧q≠b5)∧Hid (∀q,q<ff.length→wr.cell? ⟨b5,q,none⟩=some (.int .i64 ((natI ff).getD q 0)))) (fun _ x _=>ff.length -(intOf x).toNat)
  case atStart=>exact⟨0,Nat.zero_le _,rfl,by rw[HN0.out];exact hO1,hW1,hbw1,hcr,Nat.le_refl _,fun q hq=>(by cases hq;exact⟨hap4,hap5⟩),HCL5⟩
  case round=>
   clear hO1 hW1 hbw1 hcr;obtain⟨j,hj,rfl,ho,hW,hbl,hcr,hzz,hap,HCL⟩:=hrel;have hsz:=hW.lt;have hb42:b4<wr.heap.size:=by omega
   have hb52:b5<wr.heap.size:=by omega
   obtain⟨a_0,a_1⟩:=hW.c2
   by_cases hlt:j<ff.length
   ·have hlt1:(j:Int)<(ff.length:Int):=by omega
    have ij1:(0:Int)≤(j:Int):=by omega
    have hx:=HCL.out j hlt;rw[qQ] at hx;have hem:ff.getD j 0<2*ls.length:=HFE.out _ (by rw[List.getD,List.getElem?_eq_getElem hlt];exact List.getElem_mem hlt);have HS:=Lib.hid (HNS.out j hlt);have hgl:=HNL.out j hj;generalize ff.getD j 0=d at*;have hlr:RP wr vl ls:=hl.below hbl
    go_wp2_with fail
    (refine z9 (by kernel_rfl) (by kernel_rfl) (fun hG=>?_))
    repeat (go_big_quiet_step ((go_at_call 192;exact zv (vr _ _ ls d _ (RS.grw _ hlr) hem))))
    refine wpQuiet_nil ?_
    clear hG;rintro w3 ⟨⟨_,hb3⟩,rfl⟩;have ho3:=ho.kept hb3;have hW3:=hW.below hb3 hsz;have hbl3:=hbl.trans (hb3.mono hbl.size);have hcr3:=(hb3.cell (p:=⟨b4,k,none⟩) hb42).trans hcr;have HCL3:Hid (∀q,q<ff.length→w3.cell? ⟨b5,q,none⟩=some (.int .i64 ((natI ff).getD q 0))):=Lib.hid (fun q hq=>(hb3.cell (p:=⟨b5,q,none⟩) hb52).trans (HCL.out q hq));have hz3:=hb3.size;generalize zd ls d=z at*;generalize nodK ls ff j=G at*;clear hb3 ho hW hbl hcr HCL hx hlr a_0 a_1
    go_wp2_with (at_builtin;refine jC rfl _ _ rfl (w.heap.size+1) _ G z rfl w3.heap.size rfl (yp rfl) (ho3.alloc _) (by omega) (by simp;omega) ?_)
    intro v2 w2 ho2 hg2 hw2;have hbl2:Below w.heap.size w w2:=(hbl3.alloc hbl3.size (.cells #[.int .i64 z] 3)).grown hg2 (by simp;omega) (fun q hq=>by have:=(ho3.lt q hq).1;omega);have hW2:Blk w2 w.heap.size 27 #[vn,vl]:=(hg2.block _ (by simp;omega) (fun e=>by have:=(ho3.lt _ e.symm).1;omega)).trans (hW3.alloc _)
    have hc4:w2.cell? ⟨b4,k,none⟩=some (.slice (some ⟨b5,0,none⟩) ff.length c2):=by
     rw[World.cell?_of_block (hg2.block b4 (by simp;omega) (fun e=>(hap b4 e.symm).1 rfl))];exact(((Below.refl w3.heap.size w3).alloc (Nat.le_refl _) _).cell (p:=⟨b4,k,none⟩) (show b4<w3.heap.size by omega)).trans hcr3
    have HC5:Hid (∀q,q<ff.length→w2.cell? ⟨b5,q,none⟩=some (.int .i64 ((natI ff).getD q 0))):=Lib.hid (fun q hq=>by
     rw[World.cell?_of_block (hg2.block b5 (by simp;omega) (fun e=>(hap b5 e.symm).2 rfl))];exact(((Below.refl w3.heap.size w3).alloc (Nat.le_refl _) _).cell (p:=⟨b5,q,none⟩) (show b5<w3.heap.size by omega)).trans (HCL3.out q hq))
    have hz2:=hg2.size;simp at hz2
    have hap2:∀q,v2.ownBlock=some q→q≠b4∧q≠b5:=by
     intro q hq
     rcases hw2 with h|h
     ·rw[h] at hq;exact hap q hq
     ·rw[h] at hq
      simp at hq
      omega
    clear hg2 hw2 ho3 hW3 hbl3 hcr3 HCL3 hap;go_wp2;go_roundw
    case rel=>exact⟨j+1,by omega,by go_num,by rw[HS.out];exact ho2,hW2,hbl2,hc4,by omega,hap2,HC5⟩
    case measure=>simp[intOf];omega
   ·have hjj:j=ff.length:=by omega
    subst hjj;go_wp2;go_ret
    exact⟨_,rfl,by rw[HR.out,HNF.out];exact ho.mono (by omega),hbl⟩
def disK (G:List Int) (k:Nat):Prop:=∀i j,i<j→j<k→G.getD i 0≠G.getD j 0
theorem Ve (G:List Int):disK G 0:=fun i j _ h=>absurd h (by omega)
theorem Vk {G:List Int} {k:Nat} (h:disK G k) (h2:∀i,i<k→G.getD i 0≠G.getD k 0):disK G (k+1):=by
 intro i j h3 h4
 rcases Nat.lt_succ_iff_lt_or_eq.1 h4 with h5|h5
 ·exact h i j h3 h5
 ·subst h5;exact h2 i h3
theorem ZV {G:List Int}:disK G G.length↔G.Nodup:=by
 rw[List.nodup_iff_pairwise_ne,List.pairwise_iff_getElem]
 constructor
 ·intro h i j hi hj hij
  have:=h i j hij hj
  simpa[List.getD,hi,hj] using this
 ·intro h i j hij hj
  have:=h i j (by omega) hj hij
  simpa[List.getD,hj,show i<G.length by omega] using this
theorem z0b {ns ls:List Pr} {f:Int} (h:(qr ns ls f).length =0):jB ns ls f=false:=by simp[jB,h]
theorem Xq {ns ls:List Pr} {f:Int} {i j:Nat} (hij:i<j) (hj:j<(qr ns ls f).length) (h:(qr ns ls f).getD i 0=(qr ns ls f).getD j 0):jB ns ls f=false:=by
 have:¬(qr ns ls f).Nodup :=fun hn=>ZV.2 hn i j hij hj h
 unfold jB;simp[this]
theorem Xt {ns ls:List Pr} {f:Int} (h0:0<(qr ns ls f).length) (h:disK (qr ns ls f) (qr ns ls f).length):jB ns ls f= !(decide (f=qH ns ls)):=by
 have h1:=ZV.1 h;have h2:decide (0<(qr ns ls f).length)=true:=by simp;omega
 have h3: @decide ((qr ns ls f).Nodup) (Classical.propDecidable _)=true:=by simp[h1]
 unfold jB;rw[h2,h3,Bool.true_and,Bool.true_and]
theorem z0f (vn vl:Value) (ns ls:List Pr) (f:Int) (w:World) (hn:RP w vn ns) (hl:RP w vl ls):
  Calls Tryz.prog 41 #[.agg #[vn,vl],.int .i64 f] w fun e w'=>e= .returned (.bool (jB ns ls f))∧Below w.heap.size w w':=by
 have hba:Below w.heap.size w (w.alloc (.cells #[vn,vl] 27)):=by exact bel_
 have hWA:Blk (w.alloc (.cells #[vn,vl] 27)) w.heap.size 27 #[vn,vl]:=Blk.newAt rfl;have hle:=kN ns ls f;have HN0:=Lib.hid (fun h=>z0b (ns:=ns) (ls:=ls) (f:=f) h);have HN1:=Lib.hid (fun i j h1 h2 h3=>Xq (ns:=ns) (ls:=ls) (f:=f) (i:=i) (j:=j) h1 h2 h3);have HY:=Lib.hid (fun h0 h=>Xt (ns:=ns) (ls:=ls) (f:=f) h0 h);have HPN:=Lib.hid (fun (v:World) (hb:Below w.heap.size w v)=>ZQ vn vl ns ls f v (hn.below hb) (hl.below hb));have HOT:=Lib.hid (fun (v:World) (hb:Below w.heap.size w v)=>Jb vn vl ns ls v (hn.below hb) (hl.below hb));generalize qr ns ls f=G at*;generalize qH ns ls=o at*
 go_enter Tryz.func41,Tryz.ntmps41
 go_wp2_with fail
 refine(HPN.out _ hba).mono ?_
 rintro e w1 ⟨v1,rfl,ho1,hb1⟩;have hbw1:=hba.trans (hb1.mono hba.size);have hW1:=hWA.below hb1 hWA.lt;obtain⟨A1,c1,rfl,hc1,hm1,hcell⟩:=ho1.reads.form;have HCE:=Lib.hid hcell;unfold maxLen at hm1;clear hb1 hba hWA ho1 hcell;obtain⟨a_0,a_1⟩:=hW1.c2;go_wp2
 go_loopw [6] (fun x wr=>∃k:Nat,k≤G.length∧x= .int .i64 k∧Hid (disK G k)∧Blk wr w.heap.size 27 #[vn,vl]∧Below w.heap.size w wr∧Below w1.heap.size w1 wr) (fun x _=>G.length -(intOf x).toNat)
 case atStart=>exact⟨0,Nat.zero_le _,rfl,Lib.hid (Ve G),hW1,hbw1,Below.refl _ _⟩
 case round=>
  clear hW1 hbw1 a_0 a_1;obtain⟨k,hk,rfl,HK,hW,hbl,hb1⟩:=hrel;have hsz:=hW.lt
  by_cases hlt:k<G.length
  ·have hlt1:(k:Int)<(G.length:Int):=by omega
   have ik1:(0:Int)≤(k:Int):=by omega
   go_wp2
   go_loopw [7] (fun x wr=>∃i:Nat,i≤k∧x= .int .i64 i∧Hid (∀q,q<i→G.getD q 0≠G.getD k 0)∧Blk wr w.heap.size 27 #[vn,vl]∧Below w.heap.size w wr∧Below w1.heap.size w1 wr) (fun x _=>k -(intOf x).toNat)
   case atStart=>exact⟨0,Nat.zero_le _,rfl,Lib.hid (fun q hq=>absurd hq (by omega)),hW,hbl,hb1⟩
   case round=>
    clear hW hbl hb1 hsz;obtain⟨i,hi,rfl,HI,hW,hbl,hb1⟩:=hrel;have hsz:=hW.lt
    by_cases hik:i<k
    ·have hik1:(i:Int)<(k:Int):=by omega
     have ii1:(0:Int)≤(i:Int):=by omega
     have ii2:(i:Int)<(G.length:Int):=by omega
     obtain⟨b4,off4,rfl,hb4,hcl4⟩:=HCE.out (by omega);have q0:=(hb1.cell (p:=⟨b4,off4+i,none⟩) hb4).trans (hcl4 i (by omega));have q1:=(hb1.cell (p:=⟨b4,off4+k,none⟩) hb4).trans (hcl4 k hlt);have hb42:b4<wr.heap.size:=Nat.lt_of_lt_of_le hb4 hb1.size;have HX:=Lib.hid (fun h=>HN1.out i k hik hlt h)
     have HNE:Hid (G.getD i 0≠G.getD k 0→∀q,q<i+1→G.getD q 0≠G.getD k 0):=Lib.hid (fun h q hq=>by
      rcases Nat.lt_succ_iff_lt_or_eq.1 hq with h1|h1
      ·exact HI.out q h1
      ·subst h1;exact h)
     generalize hy:G.getD i 0=y at*;generalize hz:G.getD k 0=z at*;have HZZ:=Lib.hid hz;clear hcl4 hy hz
     by_cases he:y=z
     ·have e1:(y==z)=true:=by simp[he]
      have HR:=Lib.hid (HX.out he);clear he
      go_wp2_with fail
      (refine z9 (by kernel_rfl) (by kernel_rfl) (fun hG=>?_))
      repeat (go_big_quiet_step (fail))
      refine wpQuiet_nil ?_
      clear hG;rintro w3 ⟨⟨_,hb3⟩,rfl⟩;go_wp2;go_ret
      exact⟨za HR.out.symm,hbl.trans (hb3.mono hbl.size)⟩
     ·have e1:(y==z)=false:=by simp[he]
      have HNE2:=Lib.hid (HNE.out he);clear he
      go_wp2_with fail
      (refine z9 (by kernel_rfl) (by kernel_rfl) (fun hG=>?_))
      repeat (go_big_quiet_step (fail))
      refine wpQuiet_nil ?_
      clear hG;rintro w3 ⟨⟨_,hb3⟩,rfl⟩;have hW3:=hW.below hb3 hsz;have hbl3:=hbl.trans (hb3.mono hbl.size);have hb13:=hb1.trans (hb3.mono hb1.size);clear hW hbl hb1 hb3 q0 q1;go_wp2;go_roundw
      case rel=>exact⟨i+1,by omega,by go_num,HNE2,hW3,hbl3,hb13⟩
      case measure=>simp[intOf];omega
    ·have hii:i=k:=by omega
     subst hii;have HD:=Lib.hid (Vk HK.out HI.out);go_wp2;go_roundw
     case rel=>exact⟨i+1,by omega,by go_num,HD,hW,hbl,hb1⟩
     case measure=>simp[intOf];omega
  ·have hkk:k=G.length:=by omega
   subst hkk
   by_cases h0:G.length=0
   ·have HR:=Lib.hid (HN0.out h0)
    have e1:¬(0:Int)<(G.length:Int):=by omega
    have e2:¬0<G.length:=by omega
    go_wp2;go_ret
    exact⟨za HR.out.symm,hbl⟩
   ·have HR:=Lib.hid (HY.out (by omega) HK.out)
    have e1:(0:Int)<(G.length:Int):=by omega
    have e2:0<G.length:=by omega
    obtain⟨a_0,a_1⟩:=hW.c2
    go_wp2_with fail
    refine(HOT.out _ hbl).mono ?_
    rintro e w5 ⟨rfl,hb5⟩;go_wp2;go_ret
    refine⟨za ?_,hbl.trans (hb5.mono hbl.size)⟩
    rw[HR.out]
    by_cases hfo:f=o
    ·simp[hfo]
    ·simp[hfo]
def boxK (ns:List Pr) (G:List Int):Nat→Pr×Pr
 |0=>(ndI ns (G.getD 0 0),ndI ns (G.getD 0 0))
 |k+1=>((mn2 (boxK ns G k).1.1 (ndI ns (G.getD k 0)).1,mn2 (boxK ns G k).1.2 (ndI ns (G.getD k 0)).2),(mx2 (boxK ns G k).2.1 (ndI ns (G.getD k 0)).1,mx2 (boxK ns G k).2.2 (ndI ns (G.getD k 0)).2))
noncomputable def boxF (ns ls:List Pr) (f:Int):Pr×Pr:=if (qr ns ls f).length =0 then((0,0),(0,0)) else boxK ns (qr ns ls f) (qr ns ls f).length
noncomputable def cmpR (ns ls:List Pr) (f g:Nat):Int:=if (boxF ns ls f).2.2=(boxF ns ls g).2.2 then(boxF ns ls f).1.1 -(boxF ns ls g).1.1 else(boxF ns ls g).2.2 -(boxF ns ls f).2.2
noncomputable def ltR (ns ls:List Pr) (f g:Nat):Bool:=decide (cmpR ns ls f g<0)
noncomputable def facL (ns ls:List Pr) (k:Nat):List Nat:=(List.range k).filter (fun f:Nat=> !decide ((f:Int)=qH ns ls))
noncomputable def ordL (ns ls:List Pr) (k:Nat):List Nat:=isoK (ltR ns ls) (facL ns ls k) (facL ns ls k).length
noncomputable def ordW (ns ls:List Pr):List Nat:=ordL ns ls (zb ns ls).length
noncomputable def numN (ns ls:List Pr) (f:Nat):Int:=idxN (ordW ns ls) f+1
theorem xQ {ns ls:List Pr} {k:Nat} (h:(k:Int)=qH ns ls):facL ns ls (k+1)=facL ns ls k:=by
 unfold facL;rw[List.range_succ,List.filter_append];simp[h]
theorem Z1 {ns ls:List Pr} {k:Nat} (h:¬(k:Int)=qH ns ls):facL ns ls (k+1)=facL ns ls k++[k]:=by
 unfold facL;rw[List.range_succ,List.filter_append];simp[h]
theorem xD (ns ls:List Pr) (k:Nat):(facL ns ls k).length ≤k:=by
 have:=List.length_filter_le (fun f:Nat=> !decide ((f:Int)=qH ns ls)) (List.range k)
 simpa[facL] using this
theorem z0r (lt:Nat→Nat→Bool) (G:List Nat):isoK lt G G.length=G.foldl (fun S d=>insN (lt d) d S) []:=by unfold isoK;rw[List.take_length]
theorem XC {ns ls:List Pr} {k:Nat} (h:(k:Int)=qH ns ls):ordL ns ls (k+1)=ordL ns ls k:=by unfold ordL;rw[xQ h]
theorem z23 {ns ls:List Pr} {k:Nat} (h:¬(k:Int)=qH ns ls):ordL ns ls (k+1)=insN (ltR ns ls k) k (ordL ns ls k):=by
 unfold ordL;rw[Z1 h,z0r,z0r,List.foldl_append];rfl
theorem k5 (ns ls:List Pr) (k:Nat):(ordL ns ls k).length =(facL ns ls k).length :=ja _ _ _ (Nat.le_refl _)
theorem J3 {ns ls:List Pr} {f:Nat}:∀k,f∈ordL ns ls k↔f∈facL ns ls k
 |0=>by simp[ordL,facL,isoK]
 |k+1=>by
  by_cases h:(k:Int)=qH ns ls
  ·rw[XC h,xQ h];exact J3 k
  ·rw[z23 h,Z1 h,XV,J3 k,List.mem_append,List.mem_singleton]
   exact⟨fun h=>h.symm,fun h=>h.symm⟩
def z5G (ns:List Pr) (G:List Int):Prop:=∀k,k<G.length→∃q:Nat,G.getD k 0=(q:Int)∧q<ns.length
theorem xn {ns ls:List Pr} {f:Int}:z5G ns (qr ns ls f):=by
 intro k hk
 cases h:inB f 0 (((zb ns ls).length :Int) -1)
 ·rw[vy h] at hk;simp at hk
 ·obtain⟨j,rfl⟩:∃j:Nat,f=j:=⟨f.toNat,by have:=zt.1 h;omega⟩
  have hj:j<(zb ns ls).length :=by have:=zt.1 h;omega
  obtain⟨hwin,hfe,hf0,hf40⟩:=jt hj;have hld:∀j:Nat,j<ls.length→zj ns (ndI ls j)=true:=fun j hj=>(hwin.2.2.2.2.2 j hj).1
  rw[kF hj,ZN] at*;have hd:=hfe _ (List.getElem_mem hk)
  have hg:(nodF ls ((zb ns ls).getD j [])).getD k 0=zd ls (((zb ns ls).getD j [])[k]):=by
   unfold nodF nodK;rw[List.take_length,List.getD_eq_getElem?_getD,List.getElem?_map,List.getElem?_eq_getElem hk];rfl
  rw[hg];exact qh hld hd
def bd20 (p:Pr):Prop:=0≤p.1∧p.1≤20∧0≤p.2∧p.2≤20
theorem z4S {ns:List Pr} {G:List Int} (hns:zO ns=true) (hG:z5G ns G) (h0:0<G.length):∀k,k≤G.length→bd20 (boxK ns G k).1∧bd20 (boxK ns G k).2:=by
 have hb:∀j,j<G.length→bd20 (ndI ns (G.getD j 0)):=by
  intro j hj;obtain⟨q,e,hq⟩:=hG j hj;rw[e];exact zr (jn hns q hq)
 intro k
 induction k with
 |zero=>intro _;exact⟨hb 0 h0,hb 0 h0⟩
 |succ k ih=>
  intro hk;have a:=hb k (by omega);obtain⟨⟨b1,b2,b3,b4⟩,c1,c2,c3,c4⟩:=ih (by omega);obtain⟨a1,a2,a3,a4⟩:=a;simp only[boxK,bd20,mn2,mx2]
  refine⟨⟨?_,?_,?_,?_⟩,?_,?_,?_,?_⟩<;>split<;>omega
theorem z2r {ns ls:List Pr} {f:Int}:bd20 (boxF ns ls f).1∧bd20 (boxF ns ls f).2:=by
 unfold boxF
 split
 ·exact⟨⟨by decide,by decide,by decide,by decide⟩,by decide,by decide,by decide,by decide⟩
 ·rename_i h
  have hw:zO ns=true:=by
   cases hin:inB f 0 (((zb ns ls).length :Int) -1)
   ·rw[vy hin] at h;simp at h
   ·obtain⟨j,rfl⟩:∃j:Nat,f=j:=⟨f.toNat,by have:=zt.1 hin;omega⟩
    have hj:j<(zb ns ls).length :=by have:=zt.1 hin;omega
    exact(jt hj).1.2.2.2.1
  exact z4S hw xn (by omega) _ (Nat.le_refl _)
def Conn (n:Nat) (T:List (Nat×Nat)):Prop:=∀C:Nat→Prop,(∀e∈T,(C e.1↔C e.2))→∀i,i<n→(C i↔C 0)
def labE:List (Nat×Nat)→Nat→Nat
 | [],i=>i
 |e::T,i=>if labE T i=labE T e.2 then labE T e.1 else labE T i
theorem kH:∀(T:List (Nat×Nat)) (e:Nat×Nat),e∈T→labE T e.1=labE T e.2
 | [],e,h=>by simp at h
 |f::T,e,h=>by
  simp only[labE]
  rcases List.mem_cons.1 h with rfl|h
  ·by_cases h1:labE T e.1=labE T e.2
   ·rw[if_pos h1,if_pos rfl]
   ·rw[if_neg h1,if_pos rfl]
  ·rw[kH T e h]
theorem Qg {p q:Nat→Bool} {z:Nat}:∀n,(∀i,i<n→i≠z→p i=true→q i=true)→((List.range n).filter p).length ≤((List.range n).filter q).length +(if z<n then 1 else 0)
 |0,_=>by simp
 |n+1,h=>by
  have ih:=Qg n (fun i hi=>h i (by omega));rw[List.range_succ,List.filter_append,List.filter_append,List.length_append,List.length_append]
  by_cases hz:n=z
  ·subst hz
   rw[if_neg (Nat.lt_irrefl n)] at ih;rw[if_pos (Nat.lt_succ_self n)];have:(List.filter p [n]).length ≤1:=List.length_filter_le p [n];omega
  ·have h1:(List.filter p [n]).length ≤(List.filter q [n]).length :=by
    cases hp:p n
    ·simp[hp]
    ·simp[hp,h n (by omega) hz hp]
   split at ih
   ·rw[if_pos (by omega)];omega
   ·split<;>omega
theorem ZP (n:Nat):∀T:List (Nat×Nat),n≤((List.range n).filter fun i=>labE T i==i).length +T.length
 | []=>by
  have e:(List.range n).filter (fun i=>labE [] i==i)=List.range n:=List.filter_eq_self.2 (fun a _=>by simp[labE]);rw[e];simp
 |e::T=>by
  have ih:=ZP n T
  have h:=Qg (p:=fun i=>labE T i==i) (q:=fun i=>labE (e::T) i==i) (z:=labE T e.2) n (fun i _ hz hp=>by
   have hp':labE T i=i:=by simpa using hp
   show(labE (e::T) i==i)=true
   simp only[labE]
   rw[if_neg (by rw[hp'];exact hz),hp'];simp)
  have h2:(if labE T e.2<n then 1 else 0)≤1:=by split<;>omega
  rw[List.length_cons];omega
theorem z12 {n:Nat} {T:List (Nat×Nat)} (h:Conn n T):n≤T.length+1:=by
 have hc:=h (fun i=>labE T i=labE T 0) (fun e he=>by rw[kH T e he]);have h1:=ZP n T
 have h2:=Qg (p:=fun i=>labE T i==i) (q:=fun _=>false) (z:=labE T 0) n (fun i hi hz hp=>by
  have hp':labE T i=i:=by simpa using hp
  have:=(hc i hi).2 rfl;omega)
 have e:(List.range n).filter (fun _=>false)=[]:=by simp
 rw[e] at h2;have h3:(if labE T 0<n then 1 else 0)≤1:=by split<;>omega
 simp only[List.length_nil] at h2
 omega
def Zz (n m:Nat) (p q:Nat→Nat) (J:Nat→Bool):Prop:=∀C:Nat→Prop,(∀j,j<m→J j=true→(C (p j)↔C (q j)))→∀i,i<n→(C i↔C 0)
def cntJ (m:Nat) (J:Nat→Bool):Nat:=((List.range m).filter J).length
theorem kL (m:Nat) (J:Nat→Bool):cntJ (m+1) J=cntJ m J+(if J m=true then 1 else 0):=by
 unfold cntJ;rw[List.range_succ,List.filter_append,List.length_append]
 cases h:J m<;>simp[h]
theorem z04:∀(m:Nat) (J:Nat→Bool),cntJ m J+cntJ m (fun j=> !J j)=m
 |0,_=>rfl
 |m+1,J=>by
  have:=z04 m J;rw[kL,kL]
  cases J m<;>simp<;>omega
theorem Qn {J:Nat→Bool} {t:Nat} (ht:J t=true):∀m,cntJ m (fun j=>J j&&j != t)+(if t<m then 1 else 0)=cntJ m J
 |0=>by simp[cntJ]
 |m+1=>by
  have ih:=Qn ht m;rw[kL,kL]
  by_cases h:m=t
  ·subst h
   rw[if_neg (Nat.lt_irrefl m)] at ih;rw[if_pos (Nat.lt_succ_self m),if_pos ht];simp
   omega
  ·have e:(J m&&m != t)=J m:=by simp[h]
   rw[e]
   by_cases h2:t<m
   ·rw[if_pos h2] at ih;rw[if_pos (show t<m+1 by omega)];omega
   ·rw[if_neg h2] at ih;rw[if_neg (show ¬t<m+1 by omega)];omega
theorem JO {n m:Nat} {p q:Nat→Nat}:∀(k:Nat) (J:Nat→Bool),cntJ m J≤k→Zz n m p q J→∃J',Zz n m p q J'∧∀t,t<m→J' t=true→¬Zz n m p q (fun j=>J' j&&j != t)
 |0,J,hk,h=>⟨J,h,fun t ht hJ _=>by
  have:=Qn hJ m;rw[if_pos ht] at this;omega⟩
 |k+1,J,hk,h=>by
  by_cases hc:∃t,t<m∧J t=true∧Zz n m p q (fun j=>J j&&j != t)
  ·obtain⟨t,ht,hJ,hC⟩:=hc
   have:=Qn hJ m;rw[if_pos ht] at this;exact JO k _ (by omega) hC
  ·exact⟨J,h,fun t ht hJ hC=>hc ⟨t,ht,hJ,hC⟩⟩
theorem QN {n m:Nat} {p q:Nat→Nat} {J:Nat→Bool} (h:Zz n m p q J):n≤cntJ m J+1:=by
 have h1:Conn n (((List.range m).filter J).map fun j=>(p j,q j)):=by
  intro C hC i hi;refine h C (fun j hj hJ=>hC (p j,q j) ?_) i hi
  rw[List.mem_map];exact⟨j,List.mem_filter.2 ⟨List.mem_range.2 hj,hJ⟩,rfl⟩
 have:=z12 h1;rw[List.length_map] at this;exact this
def sumR:Nat→(Nat→Int)→Int
 |0,_=>0
 |n+1,f=>sumR n f+f n
theorem jS {f g:Nat→Int}:∀n,(∀i,i<n→f i=g i)→sumR n f=sumR n g
 |0,_=>rfl
 |n+1,h=>by simp only[sumR];rw[jS n (fun i hi=>h i (by omega)),h n (by omega)]
theorem Qt {f:Nat→Int}:∀n,(∀i,i<n→f i=0)→sumR n f=0
 |0,_=>rfl
 |n+1,h=>by simp only[sumR];rw[Qt n (fun i hi=>h i (by omega)),h n (by omega)];rfl
theorem XD (f g:Nat→Int):∀n,sumR n (fun i=>f i+g i)=sumR n f+sumR n g
 |0=>rfl
 |n+1=>by simp only[sumR];rw[XD f g n];omega
theorem Vp (f:Nat→Nat→Int) (m:Nat):∀n,sumR n (fun i=>sumR m (fun j=>f i j))=sumR m (fun j=>sumR n (fun i=>f i j))
 |0=>(Qt m (fun _ _=>rfl)).symm
 |n+1=>by
  simp only[sumR]
  rw[Vp f m n,←XD]
theorem Qs (f:Nat→Int) (k:Nat):∀n,sumR n (fun i=>if i=k then f i else 0)=if k<n then f k else 0
 |0=>by simp[sumR]
 |n+1=>by
  simp only[sumR]
  rw[Qs f k n]
  by_cases h:n=k
  ·subst h
   rw[if_neg (Nat.lt_irrefl n),if_pos rfl,if_pos (Nat.lt_succ_self n)];omega
  ·rw[if_neg h]
   by_cases h2:k<n
   ·rw[if_pos h2,if_pos (by omega)];omega
   ·rw[if_neg h2,if_neg (by omega)];omega
theorem z08 (f:Nat→Int):∀m,sumR (2*m) f=sumR m (fun j=>f (2*j)+f (2*j+1))
 |0=>rfl
 |m+1=>by
  rw[show 2*(m+1)=2*m+1+1 by omega];simp only[sumR]
  rw[z08 f m];omega
theorem xa (f:Nat→Int):∀k,sumR (k+1) f=f 0+sumR k (fun i=>f (i+1))
 |0=>by simp[sumR]
 |k+1=>by
  have:=xa f k;simp only[sumR] at this⊢
  omega
theorem z47 (f:Nat→Int) (n:Nat):sumR n (fun i=>f ((i+n -1)%n))=sumR n f:=by
 match n with
 |0=>rfl
 |k+1=>
  rw[xa];have e0:(0+(k+1) -1)%(k+1)=k:=by rw[show 0+(k+1) -1=k by omega];exact Nat.mod_eq_of_lt (Nat.lt_succ_self k)
  rw[e0]
  have e1:sumR k (fun i=>f ((i+1+(k+1) -1)%(k+1)))=sumR k f:=jS k (fun i hi=>by
   rw[show i+1+(k+1) -1=i+(k+1) by omega,Nat.add_mod_right,Nat.mod_eq_of_lt (by omega)])
  rw[e1];simp only[sumR]
  omega
theorem Zh (f:Nat→Int):∀R:List Nat,(R.map f).sum =sumR R.length (fun i=>f (R.getD i 0))
 | []=>rfl
 |a::R=>by
  rw[List.map_cons,List.sum_cons,Zh f R,List.length_cons,xa];simp
end Go.Proofs.YtnjcpljhmhdhkaaGreat
