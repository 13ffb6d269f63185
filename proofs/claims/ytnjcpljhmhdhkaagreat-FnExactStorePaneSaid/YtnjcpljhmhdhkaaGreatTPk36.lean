/- part 36 -/
import Derived.Test.YtnjcpljhmhdhkaaGreatTPk35
set_option linter.unusedSimpArgs false
set_option linter.unusedVariables false
set_option maxRecDepth 100000
set_option maxHeartbeats 16000000
namespace Go.Proofs.YtnjcpljhmhdhkaaGreat
open Go.RowKit
theorem z3C (v:Value) (zs:List Int) (x y:Int) (w:World) (h:RI w v zs):
  Calls Tryz.prog 146 #[v,.int .i64 x,.int .i64 y] w fun e w'=>e= .returned (.bool (yH zs x y))∧w=w':=by
 obtain⟨A,c,rfl,hc,hm,hcell⟩:=h.form;unfold maxLen at hm;clear h;have HBAD:=Lib.hid (fun k (hk:k<zs.length) h=>V9 (a:=x) (b:=y) hk h);have HEND:=Lib.hid (fun (h:vH zs x y zs.length)=>xk.2 h)
 go_enter Tryz.func146,Tryz.ntmps146
 go_wp2
 go_loop [11] (fun i=>∃k:Nat,k≤zs.length∧i= .int .i64 k∧Hid (vH zs x y k)) (fun i=>zs.length -(intOf i).toNat)
 case atStart=>exact⟨0,Nat.zero_le _,rfl,Lib.hid (fun j hj=>absurd hj (by omega))⟩
 case round=>
  obtain⟨k,hk,rfl,HT⟩:=hrel
  by_cases hlt:k<zs.length
  ·obtain⟨b,off,rfl,hb,hcl⟩:=hcell (by omega)
   have hck:=hcl k hlt;have hlt1:(k:Int)<(zs.length:Int):=by omega
   have ik1:(0:Int)≤(k:Int):=by omega
   have HB1:=Lib.hid (HBAD.out k hlt)
   have HS1:Hid (inB (zs.getD k 0) x y=true→vH zs x y (k+1)):=Lib.hid (fun h j hj=>by
    by_cases e:j=k
    ·subst e;exact h
    ·exact HT.out j (by omega))
   clear hcl hcell;generalize zs.getD k 0=z at*
   cases hq:inB z x y
   ·have HX:=Lib.hid (HB1.out hq)
    have HQ:=Lib.hid hq;clear hq
    go_wp2_with fail
    refine(zn z x y false _ HQ.out).mono ?_
    rintro e w' ⟨rfl,rfl⟩;go_wp2;go_ret
    exact⟨za HX.out.symm,rfl⟩
   ·have HX:=Lib.hid (HS1.out hq)
    have HQ:=Lib.hid hq;clear hq
    go_wp2_with fail
    refine(zn z x y true _ HQ.out).mono ?_
    rintro e w' ⟨rfl,rfl⟩;go_wp2;go_round
    case rel=>exact⟨k+1,by omega,by go_num,HX⟩
    case measure=>simp[intOf];omega
  ·have hkk:k=zs.length:=by omega
   subst hkk;have HX:=Lib.hid (HEND.out HT.out);clear hcell;go_wp2;go_ret
   exact⟨za HX.out.symm,rfl⟩
theorem vP (v:Value) (zs:List Int) (n:Nat) (w:World) (h:RI w v zs) (hn:n≤40):
  Calls Tryz.prog 120 #[.int .i64 n,v] w fun e w'=>e= .returned (.bool (decide (zs.length=n)&&yH zs 0 5))∧w=w':=by
 obtain⟨A,c,rfl,hc,hm,hcell⟩:=h.form;unfold maxLen at hm;clear h;obtain⟨bl,hbl⟩:∃x,decide (zs.length=n)=x:=⟨_,rfl⟩;have hbl2:((zs.length:Int)==(n:Int))=bl:=by rw[←hbl,Bool.eq_iff_iff];simp;omega
 rw[hbl];have HBL:=Lib.hid hbl2;have HBAD:Hid (∀k,k<zs.length→inB (zs.getD k 0) 0 5=false→(bl&&yH zs 0 5)=false):=Lib.hid (fun k (hk:k<zs.length) h=>by rw[V9 (a:=0) (b:=5) hk h];cases bl<;>rfl);have HEND:Hid (vH zs 0 5 zs.length→(bl&&yH zs 0 5)=bl):=Lib.hid (fun (h:vH zs 0 5 zs.length)=>by rw[xk.2 h];cases bl<;>rfl);clear hbl hbl2
 go_enter Tryz.func120,Tryz.ntmps120
 go_wp2
 go_loop [5] (fun i=>∃k:Nat,k≤zs.length∧i= .int .i64 k∧Hid (vH zs 0 5 k)) (fun i=>zs.length -(intOf i).toNat)
 case atStart=>exact⟨0,Nat.zero_le _,rfl,Lib.hid (fun j hj=>absurd hj (by omega))⟩
 case round=>
  obtain⟨k,hk,rfl,HT⟩:=hrel
  by_cases hlt:k<zs.length
  ·obtain⟨b,off,rfl,hb,hcl⟩:=hcell (by omega)
   have hck:=hcl k hlt;have hlt1:(k:Int)<(zs.length:Int):=by omega
   have ik1:(0:Int)≤(k:Int):=by omega
   have HB1:=Lib.hid (HBAD.out k hlt)
   have HS1:Hid (inB (zs.getD k 0) 0 5=true→vH zs 0 5 (k+1)):=Lib.hid (fun h j hj=>by
    by_cases e:j=k
    ·subst e;exact h
    ·exact HT.out j (by omega))
   clear hcl hcell;generalize zs.getD k 0=z at*
   cases hq:inB z 0 5
   ·have HX:=Lib.hid (HB1.out hq)
    have HQ:=Lib.hid hq;clear hq
    go_wp2_with fail
    refine(zF z 0 5 false _ HQ.out).mono ?_
    rintro e w' ⟨rfl,rfl⟩;go_wp2;go_ret
    exact⟨za HX.out.symm,rfl⟩
   ·have HX:=Lib.hid (HS1.out hq)
    have HQ:=Lib.hid hq;clear hq
    go_wp2_with fail
    refine(zF z 0 5 true _ HQ.out).mono ?_
    rintro e w' ⟨rfl,rfl⟩;go_wp2;go_round
    case rel=>exact⟨k+1,by omega,by go_num,HX⟩
    case measure=>simp[intOf];omega
  ·have hkk:k=zs.length:=by omega
   have HX:=Lib.hid (HEND.out (hkk▸HT.out));have HQ:=HBL.out;subst hkk;clear hcell;go_wp2;go_ret
   exact⟨za HX.out.symm,rfl⟩
theorem vG {ns ls:List Pr} {cs:List Int} (h:ql ns ls cs=true):zm ns ls=true∧cs.length=(zb ns ls).length ∧yH cs 0 5=true:=by
 unfold ql at h;rw[Bool.and_eq_true,Bool.and_eq_true,decide_eq_true_eq] at h;exact h
theorem XI (vn vl vc:Value) (ns ls:List Pr) (cs:List Int) (w:World) (hn:RP w vn ns) (hl:RP w vl ls) (hc:RI w vc cs):
  Calls Tryz.prog 82 #[.agg #[vn,vl],vc] w fun e w'=>e= .returned (.bool (ql ns ls cs))∧Below w.heap.size w w':=by
 obtain⟨Ac,cc,rfl,hcc,hmc,_⟩:=hc.form;unfold maxLen at hmc;have hb0:Below w.heap.size w (w.alloc (.cells #[vn,vl] 27)):=by exact bel_
 have hW0:Blk (w.alloc (.cells #[vn,vl] 27)) w.heap.size 27 #[vn,vl]:=Blk.newAt rfl
 cases hw:zm ns ls
 ·have HR:Hid (ql ns ls cs=false):=Lib.hid (by unfold ql;rw[hw];rfl)
  go_enter Tryz.func82,Tryz.ntmps82
  go_wp2_with fail
  refine(jc _ _ ns ls _ _ (hn.below hb0) (hl.below hb0) hw).mono ?_
  rintro e w1 ⟨rfl,hb1⟩;have hbw1:=hb0.trans (hb1.mono hb0.size);go_wp2;go_ret
  exact⟨za HR.out.symm,hbw1⟩
 ·have hfl:=zL ns ls
  have HFA:=Lib.hid (fun (v:World) (h1:RP v vn ns) (h2:RP v vl ls)=>yC vn vl ns ls v h1 h2);have HR:Hid (ql ns ls cs=(decide (cs.length=(zb ns ls).length)&&yH cs 0 5)):=Lib.hid (by unfold ql;rw[hw];rfl);generalize zb ns ls=F at*
  by_cases hlen:cs.length=F.length
  ·have HX:Hid (ql ns ls cs=yH cs 0 5):=Lib.hid (by rw[HR.out,decide_eq_true hlen];rfl)
   have e1:((cs.length:Int)==(F.length:Int))=true:=beq_iff_eq.2 (by omega);have HE1:=Lib.hid e1;clear e1 hlen
   go_enter Tryz.func82,Tryz.ntmps82
   go_wp2_with fail
   refine(jc _ _ ns ls _ _ (hn.below hb0) (hl.below hb0) hw).mono ?_
   rintro e w1 ⟨rfl,hb1⟩;have hbw1:=hb0.trans (hb1.mono hb0.size);have hW1:=hW0.below hb1 hW0.lt;clear hb1;obtain⟨a_0,a_1⟩:=hW1.c2
   go_wp2_with fail
   refine(HFA.out _ (hn.below hbw1) (hl.below hbw1)).mono ?_
   rintro e w2 ⟨v2,rfl,ho2,hb2⟩;obtain⟨A2,c2,rfl⟩:=ho2.form;have hbw2:=hbw1.trans (hb2.mono hbw1.size);have e1:=HE1.out
   go_wp2_with fail
   refine(z3C _ cs 0 5 _ (hc.below hbw2)).mono ?_
   rintro e w' ⟨rfl,rfl⟩;clear e1;go_wp2;go_ret
   exact⟨za HX.out.symm,hbw2⟩
  ·have HX:Hid (ql ns ls cs=false):=Lib.hid (by rw[HR.out,decide_eq_false hlen];rfl)
   have e1:((cs.length:Int)==(F.length:Int))=false:=beq_eq_false_iff_ne.2 (by omega);have HE1:=Lib.hid e1;clear e1 hlen
   go_enter Tryz.func82,Tryz.ntmps82
   go_wp2_with fail
   refine(jc _ _ ns ls _ _ (hn.below hb0) (hl.below hb0) hw).mono ?_
   rintro e w1 ⟨rfl,hb1⟩;have hbw1:=hb0.trans (hb1.mono hb0.size);have hW1:=hW0.below hb1 hW0.lt;clear hb1;obtain⟨a_0,a_1⟩:=hW1.c2
   go_wp2_with fail
   refine(HFA.out _ (hn.below hbw1) (hl.below hbw1)).mono ?_
   rintro e w2 ⟨v2,rfl,ho2,hb2⟩;obtain⟨A2,c2,rfl⟩:=ho2.form;have hbw2:=hbw1.trans (hb2.mono hbw1.size);have e1:=HE1.out;go_wp2;go_ret
   exact⟨za HX.out.symm,hbw2⟩
theorem vN (vn vl vc:Value) (ns ls:List Pr) (cs:List Int) (b:Bool) (w:World) (hn:RP w vn ns) (hl:RP w vl ls) (hc:RI w vc cs) (hb:ql ns ls cs=b):
  Calls Tryz.prog 82 #[.agg #[vn,vl],vc] w fun e w'=>e= .returned (.bool b)∧Below w.heap.size w w':=by
 subst hb;exact XI vn vl vc ns ls cs w hn hl hc
theorem Zi {ns ls:List Pr} {cs:List Int} {m k:Nat} (h:Zx ns ls cs k=true):jE ns ls cs (m+1) k=k:=by simp only[jE];rw[if_pos h]
theorem Vo {ns ls:List Pr} {cs:List Int} {m k:Nat} (h:Zx ns ls cs k=false):jE ns ls cs (m+1) k=jE ns ls cs m (k+1):=by simp only[jE];rw[if_neg (by rw[h];simp)]
theorem z0n {ns ls:List Pr} {cs:List Int} (h:ql ns ls cs=true) {k:Nat} (hk:k<ls.length):
  ∃p q:Nat,(je ns ls).getD (2*k) 0=(p:Int)∧(je ns ls).getD (2*k+1) 0=(q:Int)∧p<cs.length∧q<cs.length∧Zx ns ls cs k=(decide (¬p=q)&&decide (cs.getD p 0=cs.getD q 0)):=by
 obtain⟨h1,h2,_⟩:=vG h;have hfp:=Zq h1;obtain⟨p,hp,hpl⟩:=Vi hfp (show 2*k<2*ls.length by omega);obtain⟨q,hq,hql⟩:=Vi hfp (show 2*k+1<2*ls.length by omega);refine⟨p,q,hp,hq,by omega,by omega,?_⟩
 unfold Zx;rw[hp,hq,Int.toNat_natCast,Int.toNat_natCast]
 congr 1
 rw[Bool.eq_iff_iff];simp only[decide_eq_true_eq]
 omega
theorem z1n (vn vl vc:Value) (ns ls:List Pr) (cs:List Int) (w:World) (hn:RP w vn ns) (hl:RP w vl ls) (hc:RI w vc cs):
  Calls Tryz.prog 83 #[.agg #[vn,vl],vc] w fun e w'=>e= .returned (.int .i64 (jD ns ls cs))∧Below w.heap.size w w':=by
 obtain⟨Ac,cc,rfl,hcc,hmc,hcell⟩:=hc.form;unfold maxLen at hmc;obtain⟨Al,cl,rfl,hcl,hml,_⟩:=hl.formI;unfold maxLen at hml;have hb0:Below w.heap.size w (w.alloc (.cells #[vn,.slice Al ls.length cl] 27)):=by exact bel_
 have hW0:Blk (w.alloc (.cells #[vn,.slice Al ls.length cl] 27)) w.heap.size 27 #[vn,.slice Al ls.length cl]:=Blk.newAt rfl
 cases hw:ql ns ls cs
 ·have HR:Hid (jD ns ls cs= -1):=Lib.hid (by unfold jD;rw[hw];rfl)
  go_enter Tryz.func83,Tryz.ntmps83
  go_wp2_with fail
  refine(vN _ _ _ ns ls cs _ _ (hn.below hb0) (hl.below hb0) (hc.below hb0) hw).mono ?_
  rintro e w1 ⟨rfl,hb1⟩;have hbw1:=hb0.trans (hb1.mono hb0.size);go_wp2;go_ret
  exact⟨ze HR.out.symm,hbw1⟩
 ·have HR:Hid (jD ns ls cs=jE ns ls cs ls.length 0):=Lib.hid (by unfold jD;rw[hw];rfl)
  obtain⟨hwh,hlen,hall⟩:=vG hw;have hm20:=(zW hwh).1.2.2.1;have HAT:=Lib.hid (fun k (hk:k<ls.length)=>z0n hw hk);have HY:=Lib.hid (fun m k h=>Zi (ns:=ns) (ls:=ls) (cs:=cs) (m:=m) (k:=k) h);have HNo:=Lib.hid (fun m k h=>Vo (ns:=ns) (ls:=ls) (cs:=cs) (m:=m) (k:=k) h);have HZ:Hid (∀k,jE ns ls cs 0 k= -1):=Lib.hid (fun _=>rfl);have HSL:=Lib.hid (xA ns ls);have HSI:Hid (xc ns ls=je ns ls):=Lib.hid (by unfold xc;rw[hwh];rfl);have hfl:=zL ns ls;have hlc:cs.length≤40:=by omega
  clear hwh hall hlen hfl
  go_enter Tryz.func83,Tryz.ntmps83
  go_wp2_with fail
  refine(vN _ _ _ ns ls cs _ _ (hn.below hb0) (hl.below hb0) (hc.below hb0) hw).mono ?_
  rintro e w1 ⟨rfl,hb1⟩;have hbw1:=hb0.trans (hb1.mono hb0.size);have hW1:=hW0.below hb1 hW0.lt;clear hb1 hw;obtain⟨a_0,a_1⟩:=hW1.c2
  go_wp2_with fail
  refine(z1p _ _ ns ls _ (hn.below hbw1) (hl.below hbw1)).mono ?_
  rw[HSI.out];rintro e w2 ⟨v2,rfl,ho2,hb2⟩;have hbw2:=hbw1.trans (hb2.mono hbw1.size);have hW2:=hW1.below hb2 hW1.lt;have hs2:=ho2.reads;clear hb2 ho2 hW1 hbw1 a_0 a_1;obtain⟨As,cS,rfl,hcs,hms,hcells⟩:=hs2.form;rw[HSL.out] at hcells⊢;clear hs2 hcs hms;obtain⟨a_0,a_1⟩:=hW2.c2;go_wp2
  go_loopw [18] (fun x wr=>∃k:Nat,k≤ls.length∧x= .int .i64 k∧Hid (jE ns ls cs ls.length 0=jE ns ls cs (ls.length -k) k)∧Below w2.heap.size w2 wr) (fun x _=>ls.length -(intOf x).toNat)
  case atStart=>exact⟨0,Nat.zero_le _,rfl,Lib.hid rfl,Below.refl _ _⟩
  case round=>
   clear a_0 a_1;obtain⟨k,hk,rfl,HK,hbl⟩:=hrel;have hWr:=hW2.below hbl hW2.lt;obtain⟨a_0,a_1⟩:=hWr.c2;have hWl:=hWr.lt
   by_cases hlt:k<ls.length
   ·obtain⟨p,q,hp,hq,hpl,hql,hcp⟩:=HAT.out k hlt
    obtain⟨b,off,rfl,hb,hcl2⟩:=hcells (by omega);obtain⟨b3,off3,rfl,hb3,hcl3⟩:=hcell (by omega);have hx0:=(hbl.cell (p:=⟨b,off+2*k,none⟩) hb).trans (hcl2 (2*k) (by omega));have hx1:=(hbl.cell (p:=⟨b,off+(2*k+1),none⟩) hb).trans (hcl2 (2*k+1) (by omega));rw[hp] at hx0;rw[hq] at hx1;have hbb:=hbw2.trans (hbl.mono hbw2.size);have hy0:=(hbb.cell (p:=⟨b3,off3+p,none⟩) hb3).trans (hcl3 p hpl);have hy1:=(hbb.cell (p:=⟨b3,off3+q,none⟩) hb3).trans (hcl3 q hql);have hbz:=Nat.lt_of_lt_of_le hb hbl.size;have hbz3:=Nat.lt_of_lt_of_le hb3 hbb.size;have hw0:IntKind.i64.wrap (2*(k:Int))=((2*k:Nat):Int):=by rw[show 2*(k:Int)=((2*k:Nat):Int) by omega];exact IntWalk.i64_in _ (by omega)
    have hw1:IntKind.i64.wrap (((2*k:Nat):Int)+1)=((2*k+1:Nat):Int):=by rw[show((2*k:Nat):Int)+1=((2*k+1:Nat):Int) by omega];exact IntWalk.i64_in _ (by omega)
    have i0:(0:Int)≤((2*k:Nat):Int):=by omega
    have i1:((2*k:Nat):Int)<((2*ls.length:Nat):Int):=by omega
    have i2:(0:Int)≤((2*k+1:Nat):Int):=by omega
    have i3:((2*k+1:Nat):Int)<((2*ls.length:Nat):Int):=by omega
    have i4:(0:Int)≤(p:Int):=by omega
    have i5:(p:Int)<(cs.length:Int):=by omega
    have i6:(0:Int)≤(q:Int):=by omega
    have i7:(q:Int)<(cs.length:Int):=by omega
    have ik:(k:Int)<(ls.length:Int):=by omega
    have HY1:=Lib.hid (fun h=>HY.out (ls.length -(k+1)) k h);have HN1:=Lib.hid (fun h=>HNo.out (ls.length -(k+1)) k h);rw[show ls.length -(k+1)+1=ls.length -k by omega] at HY1 HN1;rw[hcp] at HY1 HN1;clear hcl2 hcl3 hcells hcell hp hq hcp;generalize cs.getD p 0=cp at*;generalize cs.getD q 0=cq at*
    by_cases hpq:p=q
    ·have e1:((p:Int)==(q:Int))=true:=beq_iff_eq.2 (by omega)
     have e2:((p:Int) != (q:Int))=false:=by rw[bne,e1];rfl
     have HX:=Lib.hid (HN1.out (by rw[decide_eq_false (by simp[hpq])];rfl));clear hpq
     go_wp2_with fail
     (refine z9 (by kernel_rfl) (by kernel_rfl) (fun hG=>?_))
     repeat (go_big_quiet_step (fail))
     refine wpQuiet_nil ?_
     clear hG;rintro w5 ⟨⟨_,hs5⟩,rfl⟩;have hy0':=(hs5.cell (p:=⟨b3,off3+p,none⟩) hbz3).trans hy0;have hy1':=(hs5.cell (p:=⟨b3,off3+q,none⟩) hbz3).trans hy1;have hbz3':=Nat.lt_of_lt_of_le hbz3 hs5.size;clear hx0 hx1 hy0 hy1 hw0 hw1 a_0 a_1
     go_wp2_with fail
     (refine z9 (by kernel_rfl) (by kernel_rfl) (fun hG=>?_))
     repeat (go_big_quiet_step (fail))
     refine wpQuiet_nil ?_
     clear hG;rintro w6 ⟨⟨_,hs6⟩,rfl⟩;have hbl6:=hbl.trans ((hs5.trans (hs6.mono hs5.size)).mono hbl.size);clear hy0' hy1' hs5 hs6 hbl hbb;go_wp2;go_roundw
     case rel=>exact⟨k+1,by omega,by go_num,Lib.hid (by rw[HK.out,HX.out]),hbl6⟩
     case measure=>simp[intOf];omega
    ·have e1:((p:Int)==(q:Int))=false:=beq_eq_false_iff_ne.2 (by omega)
     have e2:((p:Int) != (q:Int))=true:=by rw[bne,e1];rfl
     by_cases hcq:cp=cq
     ·have e3:(cp==cq)=true:=beq_iff_eq.2 hcq
      have HX:=Lib.hid (HY1.out (by rw[decide_eq_true hpq,decide_eq_true hcq];rfl));clear hpq hcq
      go_wp2_with fail
      (refine z9 (by kernel_rfl) (by kernel_rfl) (fun hG=>?_))
      repeat (go_big_quiet_step (fail))
      refine wpQuiet_nil ?_
      clear hG;rintro w5 ⟨⟨_,hs5⟩,rfl⟩;have hy0':=(hs5.cell (p:=⟨b3,off3+p,none⟩) hbz3).trans hy0;have hy1':=(hs5.cell (p:=⟨b3,off3+q,none⟩) hbz3).trans hy1;have hbz3':=Nat.lt_of_lt_of_le hbz3 hs5.size;clear hx0 hx1 hy0 hy1 hw0 hw1 a_0 a_1
      go_wp2_with fail
      (refine z9 (by kernel_rfl) (by kernel_rfl) (fun hG=>?_))
      repeat (go_big_quiet_step (fail))
      refine wpQuiet_nil ?_
      clear hG;rintro w6 ⟨⟨_,hs6⟩,rfl⟩;have hbl6:=hbl.trans ((hs5.trans (hs6.mono hs5.size)).mono hbl.size);clear hy0' hy1' hs5 hs6 hbl hbb;go_wp2;go_ret
      exact⟨ze (by rw[HR.out,HK.out,HX.out]),hbw2.trans (hbl6.mono hbw2.size)⟩
     ·have e3:(cp==cq)=false:=beq_eq_false_iff_ne.2 hcq
      have HX:=Lib.hid (HN1.out (by rw[decide_eq_false hcq];simp));clear hpq hcq
      go_wp2_with fail
      (refine z9 (by kernel_rfl) (by kernel_rfl) (fun hG=>?_))
      repeat (go_big_quiet_step (fail))
      refine wpQuiet_nil ?_
      clear hG;rintro w5 ⟨⟨_,hs5⟩,rfl⟩;have hy0':=(hs5.cell (p:=⟨b3,off3+p,none⟩) hbz3).trans hy0;have hy1':=(hs5.cell (p:=⟨b3,off3+q,none⟩) hbz3).trans hy1;have hbz3':=Nat.lt_of_lt_of_le hbz3 hs5.size;clear hx0 hx1 hy0 hy1 hw0 hw1 a_0 a_1
      go_wp2_with fail
      (refine z9 (by kernel_rfl) (by kernel_rfl) (fun hG=>?_))
      repeat (go_big_quiet_step (fail))
      refine wpQuiet_nil ?_
      clear hG;rintro w6 ⟨⟨_,hs6⟩,rfl⟩;have hbl6:=hbl.trans ((hs5.trans (hs6.mono hs5.size)).mono hbl.size);clear hy0' hy1' hs5 hs6 hbl hbb;go_wp2;go_roundw
      case rel=>exact⟨k+1,by omega,by go_num,Lib.hid (by rw[HK.out,HX.out]),hbl6⟩
      case measure=>simp[intOf];omega
   ·have hkk:k=ls.length:=by omega
    have HE:=Lib.hid (HK.out);subst hkk;rw[Nat.sub_self,HZ.out] at HE;have hbb:=hbw2.trans (hbl.mono hbw2.size);clear hcells hcell;go_wp2;go_ret
    exact⟨ze (by rw[HR.out,HE.out]),hbb⟩
theorem z1l (vn vl vc:Value) (ns ls:List Pr) (cs:List Int) (w:World) (hn:RP w vn ns) (hl:RP w vl ls) (hc:RI w vc cs):
  Calls Tryz.prog 122 #[.agg #[vn,vl],vc] w fun e w'=>e= .returned (.int .i64 (jD ns ls cs))∧Below w.heap.size w w':=by
 obtain⟨Ac,cc,rfl,hcc,hmc,hcell⟩:=hc.form;unfold maxLen at hmc;obtain⟨Al,cl,rfl,hcl,hml,_⟩:=hl.formI;unfold maxLen at hml;have hb0:Below w.heap.size w (w.alloc (.cells #[vn,.slice Al ls.length cl] 27)):=by exact bel_
 have hW0:Blk (w.alloc (.cells #[vn,.slice Al ls.length cl] 27)) w.heap.size 27 #[vn,.slice Al ls.length cl]:=Blk.newAt rfl
 cases hw:ql ns ls cs
 ·have HR:Hid (jD ns ls cs= -1):=Lib.hid (by unfold jD;rw[hw];rfl)
  cases hwh:zm ns ls
  ·go_enter Tryz.func122,Tryz.ntmps122
   go_wp2_with fail
   refine(ju _ _ ns ls _ _ (hn.below hb0) (hl.below hb0) hwh).mono ?_
   rintro e w1 ⟨rfl,hb1⟩;have hbw1:=hb0.trans (hb1.mono hb0.size);go_wp2;go_ret
   exact⟨ze HR.out.symm,hbw1⟩
  ·have hfl:=zL ns ls
   have HFA:=Lib.hid (fun (v:World) (h1:RP v vn ns) (h2:RP v (.slice Al ls.length cl) ls)=>jF vn (.slice Al ls.length cl) ns ls v h1 h2);have HL:Hid ((decide (cs.length=(zb ns ls).length)&&yH cs 0 5)=false):=Lib.hid (by unfold ql at hw;rw[hwh] at hw;exact hw);generalize zb ns ls=F at*
   go_enter Tryz.func122,Tryz.ntmps122
   go_wp2_with fail
   refine(ju _ _ ns ls _ _ (hn.below hb0) (hl.below hb0) hwh).mono ?_
   rintro e w1 ⟨rfl,hb1⟩;have hbw1:=hb0.trans (hb1.mono hb0.size);have hW1:=hW0.below hb1 hW0.lt;clear hb1;obtain⟨a_0,a_1⟩:=hW1.c2
   go_wp2_with fail
   refine(HFA.out _ (hn.below hbw1) (hl.below hbw1)).mono ?_
   rintro e w2 ⟨v2,rfl,ho2,hb2⟩;obtain⟨A2,c2,rfl⟩:=ho2.form;have hbw2:=hbw1.trans (hb2.mono hbw1.size)
   go_wp2_with fail
   refine(vP _ cs F.length _ (hc.below hbw2) hfl).mono ?_
   rw[HL.out];rintro e w' ⟨rfl,rfl⟩;go_wp2;go_ret
   exact⟨ze HR.out.symm,hbw2⟩
 ·have HR:Hid (jD ns ls cs=jE ns ls cs ls.length 0):=Lib.hid (by unfold jD;rw[hw];rfl)
  obtain⟨hwh,hlen,hall⟩:=vG hw;have hm20:=(zW hwh).1.2.2.1;have HAT:=Lib.hid (fun k (hk:k<ls.length)=>z0n hw hk);have HY:=Lib.hid (fun m k h=>Zi (ns:=ns) (ls:=ls) (cs:=cs) (m:=m) (k:=k) h);have HNo:=Lib.hid (fun m k h=>Vo (ns:=ns) (ls:=ls) (cs:=cs) (m:=m) (k:=k) h);have HZ:Hid (∀k,jE ns ls cs 0 k= -1):=Lib.hid (fun _=>rfl);have HSL:=Lib.hid (xA ns ls);have hfl:=zL ns ls;have hlc:cs.length≤40:=by omega
  have HFA:=Lib.hid (fun (v:World) (h1:RP v vn ns) (h2:RP v (.slice Al ls.length cl) ls)=>jF vn (.slice Al ls.length cl) ns ls v h1 h2);have HL:Hid ((decide (cs.length=(zb ns ls).length)&&yH cs 0 5)=true):=Lib.hid (by rw[decide_eq_true hlen,hall];rfl);have HWH:=Lib.hid hwh;have HSD:=Lib.hid (fun (v:World) (h1:RP v vn ns) (h2:RP v (.slice Al ls.length cl) ls)=>z1a vn (.slice Al ls.length cl) ns ls v h1 h2 hwh);clear hall hlen hw hwh;generalize zb ns ls=F at*
  go_enter Tryz.func122,Tryz.ntmps122
  go_wp2_with fail
  refine(ju _ _ ns ls _ _ (hn.below hb0) (hl.below hb0) HWH.out).mono ?_
  rintro e w1 ⟨rfl,hb1⟩;have hbw1':=hb0.trans (hb1.mono hb0.size);have hW1':=hW0.below hb1 hW0.lt;clear hb1;obtain⟨a_0,a_1⟩:=hW1'.c2
  go_wp2_with fail
  refine(HFA.out _ (hn.below hbw1') (hl.below hbw1')).mono ?_
  rintro e w1b ⟨v2,rfl,ho2,hb2⟩;obtain⟨A2,c2,rfl⟩:=ho2.form;have hbw1:=hbw1'.trans (hb2.mono hbw1'.size);have hW1:=hW1'.below hb2 hW1'.lt;clear hb2 ho2 hW1' hbw1' a_0 a_1
  go_wp2_with fail
  refine(vP _ cs F.length _ (hc.below hbw1) hfl).mono ?_
  rw[HL.out];rintro e w' ⟨rfl,rfl⟩;obtain⟨a_0,a_1⟩:=hW1.c2
  go_wp2_with fail
  refine(HSD.out _ (hn.below hbw1) (hl.below hbw1)).mono ?_
  rintro e w2 ⟨v2,rfl,ho2,hb2⟩;have hbw2:=hbw1.trans (hb2.mono hbw1.size);have hW2:=hW1.below hb2 hW1.lt;have hs2:=ho2.reads;clear hb2 ho2 hW1 hbw1 a_0 a_1;obtain⟨As,cS,rfl,hcs,hms,hcells⟩:=hs2.form;rw[HSL.out] at hcells⊢;clear hs2 hcs hms;obtain⟨a_0,a_1⟩:=hW2.c2;go_wp2
  go_loopw [6] (fun x wr=>∃k:Nat,k≤ls.length∧x= .int .i64 k∧Hid (jE ns ls cs ls.length 0=jE ns ls cs (ls.length -k) k)∧Below w2.heap.size w2 wr) (fun x _=>ls.length -(intOf x).toNat)
  case atStart=>exact⟨0,Nat.zero_le _,rfl,Lib.hid rfl,Below.refl _ _⟩
  case round=>
   clear a_0 a_1;obtain⟨k,hk,rfl,HK,hbl⟩:=hrel;have hWr:=hW2.below hbl hW2.lt;obtain⟨a_0,a_1⟩:=hWr.c2;have hWl:=hWr.lt
   by_cases hlt:k<ls.length
   ·obtain⟨p,q,hp,hq,hpl,hql,hcp⟩:=HAT.out k hlt
    obtain⟨b,off,rfl,hb,hcl2⟩:=hcells (by omega);obtain⟨b3,off3,rfl,hb3,hcl3⟩:=hcell (by omega);have hx0:=(hbl.cell (p:=⟨b,off+2*k,none⟩) hb).trans (hcl2 (2*k) (by omega));have hx1:=(hbl.cell (p:=⟨b,off+(2*k+1),none⟩) hb).trans (hcl2 (2*k+1) (by omega));rw[hp] at hx0;rw[hq] at hx1;have hbb:=hbw2.trans (hbl.mono hbw2.size);have hy0:=(hbb.cell (p:=⟨b3,off3+p,none⟩) hb3).trans (hcl3 p hpl);have hy1:=(hbb.cell (p:=⟨b3,off3+q,none⟩) hb3).trans (hcl3 q hql);have hbz:=Nat.lt_of_lt_of_le hb hbl.size;have hbz3:=Nat.lt_of_lt_of_le hb3 hbb.size;have hw0:IntKind.i64.wrap (2*(k:Int))=((2*k:Nat):Int):=by rw[show 2*(k:Int)=((2*k:Nat):Int) by omega];exact IntWalk.i64_in _ (by omega)
    have hw1:IntKind.i64.wrap (((2*k:Nat):Int)+1)=((2*k+1:Nat):Int):=by rw[show((2*k:Nat):Int)+1=((2*k+1:Nat):Int) by omega];exact IntWalk.i64_in _ (by omega)
    have i0:(0:Int)≤((2*k:Nat):Int):=by omega
    have i1:((2*k:Nat):Int)<((2*ls.length:Nat):Int):=by omega
    have i2:(0:Int)≤((2*k+1:Nat):Int):=by omega
    have i3:((2*k+1:Nat):Int)<((2*ls.length:Nat):Int):=by omega
    have i4:(0:Int)≤(p:Int):=by omega
    have i5:(p:Int)<(cs.length:Int):=by omega
    have i6:(0:Int)≤(q:Int):=by omega
    have i7:(q:Int)<(cs.length:Int):=by omega
    have ik:(k:Int)<(ls.length:Int):=by omega
    have HY1:=Lib.hid (fun h=>HY.out (ls.length -(k+1)) k h);have HN1:=Lib.hid (fun h=>HNo.out (ls.length -(k+1)) k h);rw[show ls.length -(k+1)+1=ls.length -k by omega] at HY1 HN1;rw[hcp] at HY1 HN1;clear hcl2 hcl3 hcells hcell hp hq hcp;generalize cs.getD p 0=cp at*;generalize cs.getD q 0=cq at*
    by_cases hpq:p=q
    ·have e1:((p:Int)==(q:Int))=true:=beq_iff_eq.2 (by omega)
     have e2:((p:Int) != (q:Int))=false:=by rw[bne,e1];rfl
     have HX:=Lib.hid (HN1.out (by rw[decide_eq_false (by simp[hpq])];rfl));clear hpq
     go_wp2_with fail
     (refine z9 (by kernel_rfl) (by kernel_rfl) (fun hG=>?_))
     repeat (go_big_quiet_step (fail))
     refine wpQuiet_nil ?_
     clear hG;rintro w5 ⟨⟨_,hs5⟩,rfl⟩;have hbl6:=hbl.trans (hs5.mono hbl.size);clear hx0 hx1 hy0 hy1 hw0 hw1 a_0 a_1 hs5 hbl hbb;go_wp2;go_roundw
     case rel=>exact⟨k+1,by omega,by go_num,Lib.hid (by rw[HK.out,HX.out]),hbl6⟩
     case measure=>simp[intOf];omega
    ·have e1:((p:Int)==(q:Int))=false:=beq_eq_false_iff_ne.2 (by omega)
     have e2:((p:Int) != (q:Int))=true:=by rw[bne,e1];rfl
     by_cases hcq:cp=cq
     ·have e3:(cp==cq)=true:=beq_iff_eq.2 hcq
      have HX:=Lib.hid (HY1.out (by rw[decide_eq_true hpq,decide_eq_true hcq];rfl));clear hpq hcq
      go_wp2_with fail
      (refine z9 (by kernel_rfl) (by kernel_rfl) (fun hG=>?_))
      repeat (go_big_quiet_step (fail))
      refine wpQuiet_nil ?_
      clear hG;rintro w5 ⟨⟨_,hs5⟩,rfl⟩;have hbl6:=hbl.trans (hs5.mono hbl.size);clear hx0 hx1 hy0 hy1 hw0 hw1 a_0 a_1 hs5 hbl hbb;go_wp2;go_ret
      exact⟨ze (by rw[HR.out,HK.out,HX.out]),hbw2.trans (hbl6.mono hbw2.size)⟩
     ·have e3:(cp==cq)=false:=beq_eq_false_iff_ne.2 hcq
      have HX:=Lib.hid (HN1.out (by rw[decide_eq_false hcq];simp));clear hpq hcq
      go_wp2_with fail
      (refine z9 (by kernel_rfl) (by kernel_rfl) (fun hG=>?_))
      repeat (go_big_quiet_step (fail))
      refine wpQuiet_nil ?_
      clear hG;rintro w5 ⟨⟨_,hs5⟩,rfl⟩;have hbl6:=hbl.trans (hs5.mono hbl.size);clear hx0 hx1 hy0 hy1 hw0 hw1 a_0 a_1 hs5 hbl hbb;go_wp2;go_roundw
      case rel=>exact⟨k+1,by omega,by go_num,Lib.hid (by rw[HK.out,HX.out]),hbl6⟩
      case measure=>simp[intOf];omega
   ·have hkk:k=ls.length:=by omega
    have HE:=Lib.hid (HK.out);subst hkk;rw[Nat.sub_self,HZ.out] at HE;have hbb:=hbw2.trans (hbl.mono hbw2.size);clear hcells hcell;go_wp2;go_ret
    exact⟨ze (by rw[HR.out,HE.out]),hbb⟩
theorem z3q (vn vl vc:Value) (ns ls:List Pr) (cs:List Int) (x:Int) (w:World) (hn:RP w vn ns) (hl:RP w vl ls) (hc:RI w vc cs) (hx:jD ns ls cs=x):
  Calls Tryz.prog 122 #[.agg #[vn,vl],vc] w fun e w'=>e= .returned (.int .i64 x)∧Below w.heap.size w w':=by
 subst hx;exact z1l vn vl vc ns ls cs w hn hl hc
theorem z38 (vn vl vc:Value) (ns ls:List Pr) (cs:List Int) (x:Int) (w:World) (hn:RP w vn ns) (hl:RP w vl ls) (hc:RI w vc cs) (hx:jD ns ls cs=x):
  Calls Tryz.prog 83 #[.agg #[vn,vl],vc] w fun e w'=>e= .returned (.int .i64 x)∧Below w.heap.size w w':=by
 subst hx;exact z1n vn vl vc ns ls cs w hn hl hc
theorem z0R (vn vl vc:Value) (ns ls:List Pr) (cs:List Int) (w:World) (hn:RP w vn ns) (hl:RP w vl ls) (hc:RI w vc cs):
  Calls Tryz.prog 21 #[.agg #[vn,vl],vc] w fun e w'=>e= .returned (.bool (qL ns ls cs))∧Below w.heap.size w w':=by
 have hb0:Below w.heap.size w (w.alloc (.cells #[vn,vl] 27)):=by exact bel_
 have hW0:Blk (w.alloc (.cells #[vn,vl] 27)) w.heap.size 27 #[vn,vl]:=Blk.newAt rfl;obtain⟨x,hx⟩:∃x,jD ns ls cs=x:=⟨_,rfl⟩;have HX:=Lib.hid hx
 cases hw:ql ns ls cs
 ·have HR:Hid (qL ns ls cs=false):=Lib.hid (by unfold qL;rw[hw];rfl)
  go_enter Tryz.func21,Tryz.ntmps21
  go_wp2_with fail
  refine(vN _ _ _ ns ls cs _ _ (hn.below hb0) (hl.below hb0) (hc.below hb0) hw).mono ?_
  rintro e w1 ⟨rfl,hb1⟩;have hbw1:=hb0.trans (hb1.mono hb0.size);go_wp2;go_ret
  exact⟨za HR.out.symm,hbw1⟩
 ·have HR:Hid (qL ns ls cs=decide (x<0)):=Lib.hid (by unfold qL;rw[hw,hx];rfl)
  clear hx
  go_enter Tryz.func21,Tryz.ntmps21
  go_wp2_with fail
  refine(vN _ _ _ ns ls cs _ _ (hn.below hb0) (hl.below hb0) (hc.below hb0) hw).mono ?_
  rintro e w1 ⟨rfl,hb1⟩;have hbw1:=hb0.trans (hb1.mono hb0.size);have hW1:=hW0.below hb1 hW0.lt;clear hb1;obtain⟨a_0,a_1⟩:=hW1.c2
  go_wp2_with fail
  refine(z38 _ _ _ ns ls cs x _ (hn.below hbw1) (hl.below hbw1) (hc.below hbw1) HX.out).mono ?_
  rintro e w2 ⟨rfl,hb2⟩;have hbw2:=hbw1.trans (hb2.mono hbw1.size);go_wp2;go_ret
  exact⟨za HR.out.symm,hbw2⟩
theorem z0o (vn vl vc:Value) (ns ls:List Pr) (cs:List Int) (w:World) (hn:RP w vn ns) (hl:RP w vl ls) (hc:RI w vc cs):
  Calls Tryz.prog 46 #[.agg #[vn,vl],vc] w fun e w'=>e= .returned (.bool (qL ns ls cs))∧Below w.heap.size w w':=by
 have hb0:Below w.heap.size w (w.alloc (.cells #[vn,vl] 27)):=by exact bel_
 have hW0:Blk (w.alloc (.cells #[vn,vl] 27)) w.heap.size 27 #[vn,vl]:=Blk.newAt rfl;obtain⟨x,hx⟩:∃x,jD ns ls cs=x:=⟨_,rfl⟩;have HX:=Lib.hid hx
 cases hw:zm ns ls
 ·have HR:Hid (qL ns ls cs=false):=Lib.hid (by unfold qL ql;rw[hw];rfl)
  go_enter Tryz.func46,Tryz.ntmps46
  go_wp2_with fail
  refine(ju _ _ ns ls _ _ (hn.below hb0) (hl.below hb0) hw).mono ?_
  rintro e w1 ⟨rfl,hb1⟩;have hbw1:=hb0.trans (hb1.mono hb0.size);go_wp2;go_ret
  exact⟨za HR.out.symm,hbw1⟩
 ·have hfl:=zL ns ls
  have HFA:=Lib.hid (fun (v:World) (h1:RP v vn ns) (h2:RP v vl ls)=>jF vn vl ns ls v h1 h2);obtain⟨bl,hbl⟩:∃b,(decide (cs.length=(zb ns ls).length)&&yH cs 0 5)=b:=⟨_,rfl⟩;have HR:Hid (qL ns ls cs=(bl&&decide (x<0))):=Lib.hid (by unfold qL ql;rw[hw,hx,hbl];rfl);have HL:=Lib.hid hbl;clear hbl hx;generalize zb ns ls=F at*
  go_enter Tryz.func46,Tryz.ntmps46
  go_wp2_with fail
  refine(ju _ _ ns ls _ _ (hn.below hb0) (hl.below hb0) hw).mono ?_
  rintro e w1 ⟨rfl,hb1⟩;have hbw1:=hb0.trans (hb1.mono hb0.size);have hW1:=hW0.below hb1 hW0.lt;clear hb1;obtain⟨a_0,a_1⟩:=hW1.c2
  go_wp2_with fail
  refine(HFA.out _ (hn.below hbw1) (hl.below hbw1)).mono ?_
  rintro e w2 ⟨v2,rfl,ho2,hb2⟩;obtain⟨A2,c2,rfl⟩:=ho2.form;have hbw2:=hbw1.trans (hb2.mono hbw1.size);have hW2:=hW1.below hb2 hW1.lt;clear hb2 ho2 hW1 hbw1 a_0 a_1
  go_wp2_with fail
  refine(vP _ cs F.length _ (hc.below hbw2) hfl).mono ?_
  rw[HL.out];rintro e w' ⟨rfl,rfl⟩;obtain⟨a_0,a_1⟩:=hW2.c2
  cases bl
  ·go_wp2
   go_ret
   exact⟨za HR.out.symm,hbw2⟩
  ·go_wp2_with fail
   refine(z3q _ _ _ ns ls cs x _ (hn.below hbw2) (hl.below hbw2) (hc.below hbw2) HX.out).mono ?_
   rintro e w3 ⟨rfl,hb3⟩;have hbw3:=hbw2.trans (hb3.mono hbw2.size);go_wp2;go_ret
   exact⟨za HR.out.symm,hbw3⟩
theorem z1B (vn vl vc:Value) (ns ls:List Pr) (cs:List Int) (b:Bool) (w:World) (hn:RP w vn ns) (hl:RP w vl ls) (hc:RI w vc cs) (hb:qL ns ls cs=b):
  Calls Tryz.prog 46 #[.agg #[vn,vl],vc] w fun e w'=>e= .returned (.bool b)∧Below w.heap.size w w':=by
 subst hb;exact z0o vn vl vc ns ls cs w hn hl hc
theorem z1e (vn vl vc:Value) (ns ls:List Pr) (cs:List Int) (b:Bool) (w:World) (hn:RP w vn ns) (hl:RP w vl ls) (hc:RI w vc cs) (hb:qL ns ls cs=b):
  Calls Tryz.prog 21 #[.agg #[vn,vl],vc] w fun e w'=>e= .returned (.bool b)∧Below w.heap.size w w':=by
 subst hb;exact z0R vn vl vc ns ls cs w hn hl hc
end Go.Proofs.YtnjcpljhmhdhkaaGreat
