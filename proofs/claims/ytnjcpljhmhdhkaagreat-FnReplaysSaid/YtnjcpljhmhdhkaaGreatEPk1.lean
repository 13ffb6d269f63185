/- part 1 -/
import Derived.Test.YtnjcpljhmhdhkaaGreatEPk0
import Derived.Deep.DeepCutAuto
import Derived.Test.YtnjcpljhmhdhkaaGreatProg
import Derived.Lib.Small
import Derived.Lib.Walk
import Derived.Lib.BitFns
import Derived.Lib.Strings
import Derived.Deep.AppendSrc
import Derived.Deep.AppendLies
import Derived.Deep.RegionHeld3
import Derived.BigRegion
import Derived.Outline
import Derived.Deep.QuietTactic
import Derived.BigQuiet
set_option linter.unusedSimpArgs false
set_option linter.unusedVariables false
set_option maxRecDepth 100000
set_option maxHeartbeats 4000000
namespace Go.Proofs.YtnjcpljhmhdhkaaGreat
open Go.RowKit
def OwnW (base:Nat) (w:World) (vn vl:Value) (ns ls:List (Int×Int)):Prop:=
 OwnP 106 base w vn ns/\OwnP 108 base w vl ls/\∀k,vn.ownBlock=some k->vl.ownBlock=some k->False
theorem OwnW.kept {base:Nat} {w w':World} {vn vl:Value} {ns ls:List (Int×Int)} (h:OwnW base w vn vl ns ls) (hb:Below w.heap.size w w'):OwnW base w' vn vl ns ls:=⟨h.1.kept hb,h.2.1.kept hb,h.2.2⟩
theorem OwnW.mono {base base':Nat} {w:World} {vn vl:Value} {ns ls:List (Int×Int)} (h:OwnW base w vn vl ns ls) (hb:base'<=base):OwnW base' w vn vl ns ls:=⟨h.1.mono hb,h.2.1.mono hb,h.2.2⟩
def RetW (ns ls:List (Int×Int)) (w:World) (e:Ending) (w':World):Prop:=∃An cn Al cl,e= .returned (.agg #[.slice An ns.length cn,.slice Al ls.length cl])/\OwnW w.heap.size w' (.slice An ns.length cn) (.slice Al ls.length cl) ns ls/\Below w.heap.size w w'
attribute [local go_sem ↓] zr Qg zt Ql
theorem zaq (v u:Value) (zs ys:List (Int×Int)) (w:World) (hv:RP w v zs) (hu:RP w u ys):
  CB_ 159 #[v,u] w (.bool (decide (zs=ys))):=by
 obtain⟨A,c,rfl,hc,hm,hcell⟩:=hv.form;obtain⟨A',c',rfl,Yn,rY,Fi⟩:=hu.form;unfold maxLen at hm rY
 by_cases Hj:zs.length=ys.length
 ·have e1:((zs.length:Int) != (ys.length:Int))=false:=by simp[Hj]
  have GV:=h_ Hj
  go_enter Tryz.func159,Tryz.ntmps159
  go_wp2
  go_loopw [13] (fun i wr=>∃k:Nat,k<=zs.length/\i= .int .i64 k/\Hid (zs.take k=ys.take k)/\Below w.heap.size w wr) (fun i _=>zs.length -(intOf i).toNat)
  case atStart=>exact⟨0,aab _,rfl,h_ (by simp),aaj _ _⟩
  case round=>
   obtain⟨k,hk,rfl,HT,Hb⟩:=hrel
   by_cases Hf:k<zs.length
   ·obtain⟨b,off,rfl,hb,Hy⟩:=hcell o_
    have Fj:k<ys.length:=by rw[<-GV.out];exact Hf
    obtain⟨b',off',rfl,gS,FY⟩:=Fi o_;obtain⟨k0,k1⟩:=Hy k Hf;obtain⟨j0,j1⟩:=FY k Fj;have q0:=(Hb.cell (p:=⟨b,off+k*2,none⟩) hb).trans k0;have q1:=(Hb.cell (p:=⟨b,off+k*2+1,none⟩) hb).trans k1;have p0:=(Hb.cell (p:=⟨b',off'+k*2,none⟩) gS).trans j0;have p1:=(Hb.cell (p:=⟨b',off'+k*2+1,none⟩) gS).trans j1;have ct:(0:Int)<=(k:Int):=o_
    have Cq:(k:Int)<(zs.length:Int):=o_
    have Mq:(k:Int)<(ys.length:Int):=o_
    cases fu:prB zs[k].1 zs[k].2 ys[k].1 ys[k].2
    ·have HE:Hid (¬zs[k]=ys[k]):=h_ (fun h=>by rw[h,kZ] at fu;cases fu)
     go_wp2
     go_quiet (fail)
     go_wp2;go_ret
     refine⟨z8 ?_,by exact bel_⟩
     symm
     rw[aaJ];intro Fz;exact HE.out (by simp[Fz])
    ·have HE:Hid (zs[k]=ys[k]):=h_ (vX.1 fu)
     go_wp2
     go_quiet (fail)
     go_wp2;go_roundw
     case rel=>exact⟨k+1,by omega,by go_num,h_ (vj HT.out Hf Fj HE.out),by exact bel_⟩
     case measure=>simp[intOf];omega
   ·have gi:zs.length<=k:=o_
    have m7:zs=ys:=by
     have h:=HT.out;rw[aaK gi,aaK (by rw[<-GV.out];exact gi)] at h;exact h
    have HE:=h_ m7;go_wp2;go_ret
    exact⟨z8 (by symm;simpa using HE.out),Hb⟩
 ·have e1:((zs.length:Int) != (ys.length:Int))=true:=by simp;omega
  have HE:Hid (¬zs=ys):=h_ (fun h=>Hj (by rw[h]))
  go_enter Tryz.func159,Tryz.ntmps159
  go_wp2;go_ret
  exact⟨z8 (by symm;simpa using HE.out),aaj _ _⟩
theorem zap (v u:Value) (zs ys:List (Int×Int)) (w:World) (hv:RP w v zs) (hu:RP w u ys):
  CB_ 160 #[v,u] w (.bool (decide (zs=ys))):=by
 obtain⟨A,c,rfl,hc,hm,hcell⟩:=hv.form;obtain⟨A',c',rfl,Yn,rY,Fi⟩:=hu.form;unfold maxLen at hm rY
 by_cases Hj:zs.length=ys.length
 ·have e1:((zs.length:Int) != (ys.length:Int))=false:=by simp[Hj]
  have GV:=h_ Hj
  go_enter Tryz.func160,Tryz.ntmps160
  go_wp2
  go_loopw [13] (fun i wr=>∃k:Nat,k<=zs.length/\i= .int .i64 k/\Hid (zs.take k=ys.take k)/\Below w.heap.size w wr) (fun i _=>zs.length -(intOf i).toNat)
  case atStart=>exact⟨0,aab _,rfl,h_ (by simp),aaj _ _⟩
  case round=>
   obtain⟨k,hk,rfl,HT,Hb⟩:=hrel
   by_cases Hf:k<zs.length
   ·obtain⟨b,off,rfl,hb,Hy⟩:=hcell o_
    have Fj:k<ys.length:=by rw[<-GV.out];exact Hf
    obtain⟨b',off',rfl,gS,FY⟩:=Fi o_;obtain⟨k0,k1⟩:=Hy k Hf;obtain⟨j0,j1⟩:=FY k Fj;have q0:=(Hb.cell (p:=⟨b,off+k*2,none⟩) hb).trans k0;have q1:=(Hb.cell (p:=⟨b,off+k*2+1,none⟩) hb).trans k1;have p0:=(Hb.cell (p:=⟨b',off'+k*2,none⟩) gS).trans j0;have p1:=(Hb.cell (p:=⟨b',off'+k*2+1,none⟩) gS).trans j1;have ct:(0:Int)<=(k:Int):=o_
    have Cq:(k:Int)<(zs.length:Int):=o_
    have Mq:(k:Int)<(ys.length:Int):=o_
    cases fu:prB zs[k].1 zs[k].2 ys[k].1 ys[k].2
    ·have HE:Hid (¬zs[k]=ys[k]):=h_ (fun h=>by rw[h,kZ] at fu;cases fu)
     go_wp2
     go_quiet (fail)
     go_wp2;go_ret
     refine⟨z8 ?_,by exact bel_⟩
     symm
     rw[aaJ];intro Fz;exact HE.out (by simp[Fz])
    ·have HE:Hid (zs[k]=ys[k]):=h_ (vX.1 fu)
     go_wp2
     go_quiet (fail)
     go_wp2;go_roundw
     case rel=>exact⟨k+1,by omega,by go_num,h_ (vj HT.out Hf Fj HE.out),by exact bel_⟩
     case measure=>simp[intOf];omega
   ·have gi:zs.length<=k:=o_
    have m7:zs=ys:=by
     have h:=HT.out;rw[aaK gi,aaK (by rw[<-GV.out];exact gi)] at h;exact h
    have HE:=h_ m7;go_wp2;go_ret
    exact⟨z8 (by symm;simpa using HE.out),Hb⟩
 ·have e1:((zs.length:Int) != (ys.length:Int))=true:=by simp;omega
  have HE:Hid (¬zs=ys):=h_ (fun h=>Hj (by rw[h]))
  go_enter Tryz.func160,Tryz.ntmps160
  go_wp2;go_ret
  exact⟨z8 (by symm;simpa using HE.out),aaj _ _⟩
def qO (ns ls ns' ls':List (Int×Int)):Bool:=decide (ns=ns')&&decide (ls=ls')
theorem vG (v u:Value) (zs ys:List (Int×Int)) (b:Bool) (w:World) (hv:RP w v zs) (hu:RP w u ys) (hx:Hid (decide (zs=ys)=b)):
  CB_ 159 #[v,u] w (.bool b):=
 (zaq v u zs ys w hv hu).mono fun e w' ⟨he,hw⟩=>⟨he.trans (z8 hx.out),hw⟩
theorem J1 (vn vl un ul:Value) (ns ls ns' ls':List (Int×Int)) (w:World) (hn:RP w vn ns) (hl:RP w vl ls) (Bi:RP w un ns') (Gm:RP w ul ls'):
  CB_ 88 #[.agg #[vn,vl],.agg #[un,ul]] w (.bool (qO ns ls ns' ls')):=by
 cases h1:decide (ns=ns')
 ·have HF:Hid (qO ns ls ns' ls'=false):=h_ (by simp[qO,h1])
  have H1:=h_ h1
  go_enter Tryz.func88,Tryz.ntmps88
  go_wp2_with fail
  refine(vG _ _ ns ns' _ _ (hn.below bel_) (Bi.below bel_) H1).mono ?_
  rintro e w1 ⟨rfl,h9⟩;go_wp2;go_ret
  exact⟨z8 HF.out.symm,by exact bel_⟩
 ·have HF:Hid (qO ns ls ns' ls'=decide (ls=ls')):=h_ (by simp[qO,h1])
  have H1:=h_ h1
  go_enter Tryz.func88,Tryz.ntmps88
  go_wp2_with fail
  refine(vG _ _ ns ns' _ _ (hn.below bel_) (Bi.below bel_) H1).mono ?_
  rintro e w1 ⟨rfl,h9⟩;(have gc:=bcC h9);have Ht:=h9.size;(try simp at Ht)
  have h8:Below w.heap.size w w1:=bel_
  go_wp2_with fail
  refine(zap _ _ ls ls' _ (hl.below h8) (Gm.below h8)).mono ?_
  rintro e w2 ⟨rfl,Hd⟩;rw[<-HF.out];go_wp2;go_ret
  exact⟨rfl,by exact bel_⟩
attribute [local go_sem ↓] zr zt zR zQ
def j9 (ax ay bx by':Int):Int:=if by'>ay∨(by'=ay/\bx>ax) then 0 else 1
def befB (ax ay bx by' cx cy:Int):Bool:=
 zh ax ay&&zh bx by'&&zh cx cy&&(if j9 ax ay bx by'=j9 ax ay cx cy then decide (0<q7 ax ay bx by' cx cy) else decide (j9 ax ay bx by'<j9 ax ay cx cy))
theorem Zj (ax ay bx by':Int) (w:World):
  CB_ 276 #[.agg #[.int .i64 ax,.int .i64 ay],.agg #[.int .i64 bx,.int .i64 by']] w (.int .i64 (j9 ax ay bx by')):=by
 go_enter Tryz.func276,Tryz.ntmps276
 go_wp2
 all_goals go_ret
 all_goals refine⟨zo ?_,by exact bel_⟩
 all_goals unfold j9
 all_goals first|(rw[aao o_];done)|(rw[aaq o_];done)|(simp_all;done)|(simp_all;omega)
theorem Jh {ax ay bx by' cx cy:Int} (h:¬(zh ax ay=true/\zh bx by'=true/\zh cx cy=true)):befB ax ay bx by' cx cy=false:=by
 unfold befB
 cases h1:zh ax ay<;>cases h2:zh bx by'<;>cases h3:zh cx cy<;>simp_all
theorem z1L (ax ay bx by' cx cy:Int) (w:World):
  Calls Tryz.prog 272 #[.agg #[.int .i64 ax,.int .i64 ay],.agg #[.int .i64 bx,.int .i64 by'],.agg #[.int .i64 cx,.int .i64 cy]] w
   fun e w'=>e= .returned (.bool (befB ax ay bx by' cx cy))/\Below w.heap.size w w':=by
 cases h1:zh ax ay
 ·have HR:=h_ (Jh (ax:=ax) (ay:=ay) (bx:=bx) (by':=by') (cx:=cx) (cy:=cy) (by rw[h1];simp))
  go_enter Tryz.func272,Tryz.ntmps272
  go_wp2_with fail
  refine(zO _ _ _ _ h1).mono ?_
  rintro e w1 ⟨rfl,h9⟩;go_wp2;go_ret
  exact⟨z8 HR.out.symm,by exact bel_⟩
 cases h2:zh bx by'
 ·have HR:=h_ (Jh (ax:=ax) (ay:=ay) (bx:=bx) (by':=by') (cx:=cx) (cy:=cy) (by rw[h2];simp))
  go_enter Tryz.func272,Tryz.ntmps272
  go_wp2_with fail
  refine(zO _ _ _ _ h1).mono ?_
  rintro e w1 ⟨rfl,h9⟩;(have gc:=bcC h9);have Ht:=h9.size;(try simp at Ht)
  go_wp2_with fail
  refine(zO _ _ _ _ h2).mono ?_
  rintro e w2 ⟨rfl,Hd⟩;go_wp2;go_ret
  exact⟨z8 HR.out.symm,by exact bel_⟩
 cases h3:zh cx cy
 ·have HR:=h_ (Jh (ax:=ax) (ay:=ay) (bx:=bx) (by':=by') (cx:=cx) (cy:=cy) (by rw[h3];simp))
  go_enter Tryz.func272,Tryz.ntmps272
  go_wp2_with fail
  refine(zO _ _ _ _ h1).mono ?_
  rintro e w1 ⟨rfl,h9⟩;(have gc:=bcC h9);have Ht:=h9.size;(try simp at Ht);(try have fi:=p2_ w w1)
  go_wp2_with fail
  refine(zO _ _ _ _ h2).mono ?_
  rintro e w2 ⟨rfl,Hd⟩;(have gE:=bcC Hd);have Gh:=Hd.size;(try simp at Gh);(try have gI:=p0_ w w2);(try have gJ:=p1_ w w2);(try have GS:=p2_ w w2)
  go_wp2_with fail
  refine(zO _ _ _ _ h3).mono ?_
  rintro e w3 ⟨rfl,He⟩;go_wp2;go_ret
  exact⟨z8 HR.out.symm,by exact bel_⟩
 ·have HR:Hid (befB ax ay bx by' cx cy=(if j9 ax ay bx by'=j9 ax ay cx cy then decide (0<q7 ax ay bx by' cx cy) else decide (j9 ax ay bx by'<j9 ax ay cx cy))):=h_ (by unfold befB;rw[h1,h2,h3];rfl)
  by_cases Nf:j9 ax ay bx by'=j9 ax ay cx cy
  ·have e1:(j9 ax ay bx by' != j9 ax ay cx cy)=false:=by simp[Nf]
   rw[aao Nf] at HR;clear Nf
   go_enter Tryz.func272,Tryz.ntmps272
   go_wp2_with fail
   refine(zO _ _ _ _ h1).mono ?_
   rintro e w1 ⟨rfl,h9⟩;(have gc:=bcC h9);have Ht:=h9.size;(try simp at Ht);(try have gF:=p0_ w w1);(try have Ge:=p1_ w w1);(try have fi:=p2_ w w1)
   go_wp2_with fail
   refine(zO _ _ _ _ h2).mono ?_
   rintro e w2 ⟨rfl,Hd⟩;(have gE:=bcC Hd);have Gh:=Hd.size;(try simp at Gh);(try have gI:=p0_ w w2);(try have gJ:=p1_ w w2);(try have GS:=p2_ w w2)
   go_wp2_with fail
   refine(zO _ _ _ _ h3).mono ?_
   rintro e w3 ⟨rfl,He⟩;(have Gy:=bcC He);have G5:=He.size;(try simp at G5);(try have Fw:=p0_ w w3);(try have Fy:=p1_ w w3);(try have ml:=p2_ w w3)
   go_wp2_with fail
   (refine z7 k_ k_ (fun hG=>?_))
   repeat (go_big_quiet_step ((go_at_call 276;exact zI (Zj _ _ _ _ _))))
   (refine wpQuiet_nil ?_);(clear hG);(rintro w4 ⟨⟨_,Hw⟩,rfl⟩);(try dsimp only);(have FG:=bcC Hw);have bv:=Hw.size;(try simp at bv);(try have rg:=p0_ w w4);(try have rh:=p1_ w w4);(try have ri:=p2_ w w4)
   go_wp2_with fail
   refine(xX _ _ _ _ _ _ _ h1 h2 h3).mono ?_
   rintro e w5 ⟨rfl,H0⟩;go_wp2;go_ret
   exact⟨z8 HR.out.symm,by exact bel_⟩
  ·have e1:(j9 ax ay bx by' != j9 ax ay cx cy)=true:=by simp[Nf]
   rw[aaq Nf] at HR;clear Nf
   go_enter Tryz.func272,Tryz.ntmps272
   go_wp2_with fail
   refine(zO _ _ _ _ h1).mono ?_
   rintro e w1 ⟨rfl,h9⟩;(have gc:=bcC h9);have Ht:=h9.size;(try simp at Ht);(try have gF:=p0_ w w1);(try have Ge:=p1_ w w1);(try have fi:=p2_ w w1)
   go_wp2_with fail
   refine(zO _ _ _ _ h2).mono ?_
   rintro e w2 ⟨rfl,Hd⟩;(have gE:=bcC Hd);have Gh:=Hd.size;(try simp at Gh);(try have gI:=p0_ w w2);(try have gJ:=p1_ w w2);(try have GS:=p2_ w w2)
   go_wp2_with fail
   refine(zO _ _ _ _ h3).mono ?_
   rintro e w3 ⟨rfl,He⟩;(have Gy:=bcC He);have G5:=He.size;(try simp at G5);(try have Fw:=p0_ w w3);(try have Fy:=p1_ w w3);(try have ml:=p2_ w w3)
   go_wp2_with fail
   (refine z7 k_ k_ (fun hG=>?_))
   repeat (go_big_quiet_step ((go_at_call 276;exact zI (Zj _ _ _ _ _))))
   (refine wpQuiet_nil ?_);(clear hG);(rintro w4 ⟨⟨_,Hw⟩,rfl⟩);(try dsimp only);(have FG:=bcC Hw);have bv:=Hw.size;(try simp at bv);(try have rg:=p0_ w w4);(try have rh:=p1_ w w4);(try have ri:=p2_ w w4)
   go_wp2_with fail
   (refine z7 k_ k_ (fun hG=>?_))
   repeat (go_big_quiet_step ((go_at_call 276;exact zI (Zj _ _ _ _ _))))
   (refine wpQuiet_nil ?_);(clear hG);(rintro w5 ⟨⟨_,H0⟩,rfl⟩);(try dsimp only)
   go_wp2;go_ret
   exact⟨z8 HR.out.symm,by exact bel_⟩
def zc (ls:List Pr) (d:Nat):Int:=if d%2=1 then(ndI ls (d/2:Nat)).2 else(ndI ls (d/2:Nat)).1
def dTo (ls:List Pr) (d:Nat):Int:=if d%2=1 then(ndI ls (d/2:Nat)).1 else(ndI ls (d/2:Nat)).2
theorem tdiv2 (d:Nat):Int.tdiv (d:Int) 2=((d/2:Nat):Int):=by
 rw[Int.tdiv_eq_ediv_of_nonneg o_];omega
theorem tmod2 (d:Nat):Int.tmod (d:Int) 2=((d%2:Nat):Int):=by
 rw[Int.tmod_eq_emod_of_nonneg o_];omega
theorem kf (vn vl:Value) (ls:List Pr) (d:Nat) (w:World) (hl:RP w vl ls) (hd:d<2*ls.length):
  CB_ 192 #[.agg #[vn,vl],.int .i64 d] w (.tuple #[.int .i64 (zc ls d),.int .i64 (dTo ls d)]):=by
 obtain⟨A,c,rfl,hc,hm,hcell⟩:=hl.formI;unfold maxLen at hm;clear hl;obtain⟨b,off,rfl,hb,Hy⟩:=hcell o_;obtain⟨k0,k1⟩:=Hy (d/2) o_;have t1:=tdiv2 d;have t2:=tmod2 d;have HF:Hid (zc ls d=if d%2=1 then(ndI ls (d/2:Nat)).2 else(ndI ls (d/2:Nat)).1):=h_ rfl;have HG:Hid (dTo ls d=if d%2=1 then(ndI ls (d/2:Nat)).1 else(ndI ls (d/2:Nat)).2):=h_ rfl;have hq:d/2<ls.length:=o_
 have nE:((d/2:Nat):Int)<(ls.length:Int):=o_
 have rj:(0:Int)<=((d/2:Nat):Int):=o_
 have hr:d%2=0∨d%2=1:=o_
 generalize d/2=q at*;generalize ndI ls (q:Int)=L at*;obtain⟨l1,l2⟩:=L;simp only at k0 k1 HF HG
 clear Hy hcell
 rcases hr with hr|hr
 ·rw[hr] at HF HG t2
  have e1:((0:Nat):Int)=0:=rfl
  go_enter Tryz.func192,Tryz.ntmps192
  go_wp2
  go_quiet (fail)
  go_wp2;exact bodyPost_ret (v:= .tuple #[.int .i64 l1,.int .i64 l2]) (by simp[results,Tryz.results192,go_sem]) rfl ⟨by rw[HF.out,HG.out];rfl,by exact bel_⟩
 ·rw[hr] at HF HG t2
  have e1:((1:Nat):Int)=1:=rfl
  go_enter Tryz.func192,Tryz.ntmps192
  go_wp2
  go_quiet (fail)
  go_wp2;exact bodyPost_ret (v:= .tuple #[.int .i64 l2,.int .i64 l1]) (by simp[results,Tryz.results192,go_sem]) rfl ⟨by rw[HF.out,HG.out];rfl,by exact bel_⟩
attribute [local go_sem ↓] zr Qg zt Ql
def idxP (l:List Pr) (p:Pr):Int:=if p∈l then(l.idxOf p:Int) else -1
theorem z8o {l:List Pr} {p:Pr} (h:p∉l):idxP l p= -1:=by simp[idxP,h]
theorem z88 {l:List Pr} {p:Pr} {k:Nat} (hk:k<l.length) (h:p∉l.take k) (hp:ndI l k=p):idxP l p=k:=by
 rw[qd l k hk] at hp
 have e:l=l.take k++p::l.drop (k+1):=by
  rw[<-hp,<-aas hk,abo]
 have hm:p∈l:=by rw[e];simp
 unfold idxP;rw[aao hm]
 have:l.idxOf p=k:=by
  rw[e,List.idxOf_append,aaq h,List.idxOf_cons_self];simp;omega
 rw[this]
theorem z2u {l:List Pr} {p:Pr}:(0<=idxP l p)↔p∈l:=by
 unfold idxP
 by_cases h:p∈l
 ·rw[aao h];exact⟨fun _=>h,fun _=>by omega⟩
 ·rw[aaq h];exact⟨fun h'=>absurd h' o_,fun h'=>absurd h' h⟩
theorem RP.take {w:World} {A:Option Addr} {n c:Nat} {l:List (Int×Int)} (h:RP w (.slice A n c) l) (k:Nat) (hk:k<=l.length):RP w (.slice A k c) (l.take k):=by
 obtain⟨h0,A',c',hv,h1,h2,h3⟩:=h
 cases hv
 have Hj:(l.take k).length =k:=by simp;omega
 refine⟨qm prc 2 (fun _=>rfl) _,A,c,by rw[Hj],by omega,by omega,fun hn=>?_⟩
 obtain⟨b,off,e1,e2,e3⟩:=h3 o_;refine⟨b,off,e1,e2,fun j u hu=>e3 j u ?_⟩
 have hj:=(List.getElem?_eq_some_iff.1 hu).1;rw[qm prc 2 (fun _=>rfl),Hj] at hj;have g1:=yw prc 2 (fun _=>rfl) (l.take k) (j/2) (j%2) o_ o_;have g2:=yw prc 2 (fun _=>rfl) l (j/2) (j%2) o_ o_;rw[show j/2*2+j%2=j by omega] at g1 g2;rw[g2,<-hu,g1];simp
theorem zbo (v:Value) (l:List Pr) (x y:Int) (w:World) (h:RP w v l):
  CB_ 212 #[v,.agg #[.int .i64 x,.int .i64 y]] w (.int .i64 (idxP l (x,y))):=by
 obtain⟨A,c,rfl,hc,hm,hcell⟩:=h.formI;unfold maxLen at hm;clear h
 go_enter Tryz.func212,Tryz.ntmps212
 go_wp2
 go_loopw [8] (fun i wr=>∃k:Nat,k<=l.length/\i= .int .i64 k/\Hid ((x,y)∉l.take k)/\Blk wr w.heap.size 106 #[.int .i64 x,.int .i64 y]/\Below w.heap.size w wr) (fun i _=>l.length -(intOf i).toNat)
 case atStart=>exact⟨0,aab _,rfl,h_ (by simp),Blk.newAt rfl,by exact bel_⟩
 case round=>
  obtain⟨k,hk,rfl,HT,hB,Hb⟩:=hrel
  by_cases Hf:k<l.length
  ·obtain⟨b,off,rfl,hb,Hy⟩:=hcell o_
   obtain⟨k0,k1⟩:=Hy k Hf;have q0:=(Hb.cell (p:=⟨b,off+k*2,none⟩) hb).trans k0;have q1:=(Hb.cell (p:=⟨b,off+k*2+1,none⟩) hb).trans k1;have ct:(0:Int)<=(k:Int):=o_
   have Cq:(k:Int)<(l.length:Int):=o_
   obtain⟨a_0,a_1⟩:=hB.c2;clear k0 k1 Hy hcell
   cases fu:prB x y (ndI l k).1 (ndI l k).2
   ·have HX:Hid ((x,y)∉l.take (k+1)):=h_ (by
     rw[aax Hf,aaI,aa9,<-qd l k Hf];rintro(h|h)
     ·exact HT.out h
     ·rw[<-h] at fu
      simp[kZ] at fu)
    go_wp2
    go_quiet (fail)
    go_wp2;go_roundw
    case rel=>exact⟨k+1,by omega,by go_num,HX,hB,by exact bel_⟩
    case measure=>simp[intOf];omega
   ·have HX:Hid (idxP l (x,y)=k):=h_ (z88 Hf HT.out (vX.1 fu).symm)
    go_wp2
    go_quiet (fail)
    go_wp2;go_ret
    exact⟨zo HX.out.symm,by exact bel_⟩
  ·have gi:l.length<=k:=o_
   have h:=HT.out;rw[aaK gi] at h;have HX:Hid (idxP l (x,y)= -1):=h_ (z8o h);clear h hcell;go_wp2;go_ret
   exact⟨zo HX.out.symm,Hb⟩
theorem Qw (v:Value) (l:List Pr) (x y:Int) (b:Bool) (w:World) (h:RP w v l) (hb:decide ((x,y)∈l)=b):
  CB_ 155 #[v,.agg #[.int .i64 x,.int .i64 y]] w (.bool b):=by
 obtain⟨z,hz⟩:∃z,idxP l (x,y)=z:=⟨_,rfl⟩;have HZ:Hid (decide (0<=z)=b):=h_ (by rw[<-hz,<-hb];simp[z2u])
 go_enter Tryz.func155,Tryz.ntmps155
 go_wp2_with fail
 refine(zbo _ l _ _ _ (h.below bel_)).mono ?_
 rw[hz];rintro e w1 ⟨rfl,h9⟩;go_wp2;go_ret
 exact⟨z8 HZ.out,by exact bel_⟩
theorem yP {a b:Nat} (ha:a<2^63) (hb:b<2^63):bits .or .i64 (a:Int) (b:Int)=((a ||| b:Nat):Int):=by
 have e:bits .or .i64 (a:Int) (b:Int)=IntKind.i64.wrap ((BitVec.ofInt 64 (a:Int) ||| BitVec.ofInt 64 (b:Int)).toNat :Int):=rfl;have h:a ||| b<2^63:=Nat.or_lt_two_pow ha hb
 rw[e,BitVec.ofInt_natCast,BitVec.ofInt_natCast,BitVec.toNat_or,BitVec.toNat_ofNat,BitVec.toNat_ofNat,abu o_,abu o_];exact aaP _ o_
theorem QB {a b:Nat} (ha:a<2^63) (hb:b<2^63):bits .and .i64 (a:Int) (b:Int)=((a &&& b:Nat):Int):=by
 have e:bits .and .i64 (a:Int) (b:Int)=IntKind.i64.wrap ((BitVec.ofInt 64 (a:Int) &&& BitVec.ofInt 64 (b:Int)).toNat :Int):=rfl;have h:a &&& b<=a:=Nat.and_le_left;rw[e,BitVec.ofInt_natCast,BitVec.ofInt_natCast,BitVec.toNat_and,BitVec.toNat_ofNat,BitVec.toNat_ofNat,abu o_,abu o_];exact aaP _ o_
theorem kz {a b:Nat} (ha:a<2^63) (hb:b<2^63):bits .xor .i64 (a:Int) (b:Int)=((a^^^b:Nat):Int):=by
 have e:bits .xor .i64 (a:Int) (b:Int)=IntKind.i64.wrap ((BitVec.ofInt 64 (a:Int)^^^BitVec.ofInt 64 (b:Int)).toNat :Int):=rfl;have h:a^^^b<2^63:=Nat.xor_lt_two_pow ha hb;rw[e,BitVec.ofInt_natCast,BitVec.ofInt_natCast,BitVec.toNat_xor,BitVec.toNat_ofNat,BitVec.toNat_ofNat,abu o_,abu o_];exact aaP _ o_
theorem QS {s k:Nat} (hs:s<2^62):bits .and .i64 ((s:Int)/2^k) 1=if s.testBit k then 1 else 0:=by
 have e:((s:Int)/2^k)=((s/2^k:Nat):Int):=by rw[Int.natCast_ediv];rfl
 have hle:s/2^k<=s:=Nat.div_le_self _ _;have h:=QB (a:=s/2^k) (b:=1) o_ o_;rw[e,show(1:Int)=((1:Nat):Int) from rfl,h,Nat.and_one_is_mod,Nat.testBit_eq_decide_div_mod_eq];have h2:s/2^k%2=0∨s/2^k%2=1:=o_
 rcases h2 with h2|h2<;>simp[h2]
theorem z83 {k:Nat} (hk:k<62):IntKind.i64.wrap (1*2^k)=((2^k:Nat):Int):=by
 have h:(2:Nat)^k<2^62:=aa3 o_ hk;have e:(1*2^k:Int)=((2^k:Nat):Int):=by rw[Int.one_mul,Int.natCast_pow];rfl
 rw[e];clear e;generalize (2:Nat)^k=z at*;exact aaP _ o_
def memS (s m:Nat):List Nat:=(List.range m).filter (s.testBit ·)
theorem qP {s m:Nat} (h:s.testBit m=true):memS s (m+1)=memS s m++[m]:=by simp[memS,abe,abf,h]
theorem jv {s m:Nat} (h:s.testBit m=false):memS s (m+1)=memS s m:=by simp[memS,abe,abf,h]
theorem z0g (s m:Nat):(memS s m).length <=m:=by
 have:=List.length_filter_le (s.testBit ·) (List.range m)
 simpa[memS] using this
theorem z5Q {s m:Nat}:(memS s m).length =m↔∀i,i<m->s.testBit i=true:=by
 constructor
 ·intro h i hi
  have h2:(List.range m).filter (s.testBit ·)=List.range m:=List.length_filter_eq_length_iff.1 (by simpa[memS] using h) |> fun h3=>List.filter_eq_self.2 h3
  have:=List.filter_eq_self.1 h2 i (List.mem_range.2 hi);exact this
 ·intro h
  have h2:(List.range m).filter (s.testBit ·)=List.range m:=List.filter_eq_self.2 (fun i hi=>h i (List.mem_range.1 hi));simp[memS,h2]
theorem Xa {s m:Nat} (h:s<2^m):∀j,memS s (m+j)=memS s m
 |0=>rfl
 |j+1=>by
  rw[show m+(j+1)=(m+j)+1 by omega,jv (Nat.testBit_lt_two_pow (aaD h (aaE o_ o_)))];exact Xa h j
theorem z5v (x:Int) (w:World) (h0:0<=x) (h:x<=12):
  Calls Tryz.prog 285 #[.int .u64 x] w fun e w'=>(∃k:Int,e= .returned (.int .i64 k))/\w=w':=by
 go_enter Tryz.func285,Tryz.ntmps285
 go_wp2
 all_goals go_ret
 all_goals exact⟨⟨_,rfl⟩,rfl⟩
theorem z4j (x:Int) (w:World) (h0:0<=x) (h:x<=12):
  Calls Tryz.prog 274 #[.int .u64 x] w fun e w'=>(∃k:Int,e= .returned (.int .i64 k))/\w=w':=by
 go_enter Tryz.func274,Tryz.ntmps274
 go_wp2_with (go_at_call 285;refine(z5v _ _ h0 h).mono ?_;rintro e w' ⟨⟨k,rfl⟩,rfl⟩)
 all_goals go_ret
 all_goals exact⟨⟨_,rfl⟩,rfl⟩
section
variable {P:Program} {md:Region.Mode} {ops:Array Oper} {Q:Exit->Act->World->Prop} {S:World->Prop}
def anyE (P:Program) (md:Region.Mode) (ops:Array Oper) (Q:Exit->Act->World->Prop) (S:World->Prop) (n:Nat):Nat->Array Bool->Act->World->Prop
 |0,listed,a,w=>Region.ready md ops listed=[]/\Q .normal a w
 |fuel+1,listed,a,w=>
  (Region.ready md ops listed=[]->Q .normal a w)/\
  ∀i∈Region.ready md ops listed,wpOp P ops Q i (fun a' w'=>((listed.setIfInBounds i true).getD n true=false->S w')/\anyE P md ops Q S n fuel (listed.setIfInBounds i true) a' w') a w
theorem z2D {n:Nat}:∀(fuel:Nat) (listed:Array Bool) (a:Act) (w:World),anyE P md ops Q S n fuel listed a w->wpAny P md ops Q fuel listed a w
 |0,_,_,_,h=>h
 |fuel+1,_,_,_,h=>⟨h.1,fun i hi=>wpOp_mono (fun a' w' h'=>z2D fuel _ a' w' h'.2) (h.2 i hi)⟩
theorem z7s {n i:Nat} {oi on:Oper} {v:Value} (hi:ops[i]? =some oi) (cU:ops[n]? =some on) (fD:∃e∈on.after,Region.binds md e=true/\e.on=i) (bo:∀(j:Nat) (o:Oper) cs b,ops[j]? =some o->o.op≠ .select cs b)
  (hQ:∀c a w,Q (.panic c) (a.put oi.dst v) w->Q (.panic c) a w):
  ∀(fuel:Nat) (listed:Array Bool) (a:Act) (w:World),
   (∀j oj,ops[j]? =some oj->j≠i->listed.getD j true=false->(∀e∈oj.after,Region.binds md e=true->e.on≠i)->oi.apart ops oj=true)->
   i∈Region.ready md ops listed->listed.getD n true=false->YieldsIf P ops S oi v a->S w->
   anyE P md ops Q S n fuel (listed.setIfInBounds i true) (a.put oi.dst v) w->anyE P md ops Q S n (fuel+1) listed a w:=by
 intro fuel
 induction fuel with
 |zero=>
  intro listed a w _ hr hn hy hS H;refine⟨fun h=>(by rw[h] at hr;cases hr),fun j hj=>?_⟩
  by_cases FT:j=i
  ·subst FT
   exact hy.wpOp hi hS ⟨fun _=>hS,H⟩
  ·have:=ready_mono hj FT
   rw[H.1] at this
   cases this
 |succ fuel ih=>
  intro listed a w FU hr hn hy hS H;refine⟨fun h=>(by rw[h] at hr;cases hr),fun j hj=>?_⟩
  by_cases FT:j=i
  ·subst FT
   exact hy.wpOp hi hS ⟨fun _=>hS,H⟩
  ·have h1:=H.2 j (ready_mono hj FT)
   obtain⟨br,oj,BA,GJ⟩:=mem_ready.1 hj
   have BC:∀e∈oj.after,Region.binds md e=true->e.on≠i:=fun e he hb Fz=>by
    have g1:=GJ e he hb;have g0:=(mem_ready.1 hr).1;rw[Fz] at g1
    rcases abj i listed.size with h'|h'
    ·simp[h'] at g0 g1;rw[g0] at g1;cases g1
    ·simp[abw h'] at g1
   have Ur:j≠n:=by
    rintro rfl;rw[cU] at BA
    cases BA
    obtain⟨e,he,hb,Fz⟩:=fD;exact BC e he hb Fz
   have Gi:i≠n:=by
    rintro rfl;rw[cU] at hi
    cases hi
    obtain⟨e,he,hb,Fz⟩:=fD;obtain⟨h0,o',FA,US⟩:=mem_ready.1 hr;rw[cU] at FA
    cases FA
    have g1:=US e he hb;rw[Fz] at g1
    rcases abj i listed.size with h'|h'
    ·simp[h'] at h0 g1;rw[h0] at g1;cases g1
    ·simp[abw h'] at g1
   have h2:=wpOp_putIf BA (FU j oj BA FT br BC) (fun cs b=>bo i oi cs b hi) (fun cs b=>bo j oj cs b BA) hQ hy h1
   have cr:∀k ok,ops[k]? =some ok->k≠i->(listed.setIfInBounds j true).getD k true=false->
     (∀e∈ok.after,Region.binds md e=true->e.on≠i)->oi.apart ops ok=true:=fun k ok hk rX GK G6=>by
    refine FU k ok hk rX ?_ G6
    by_cases FH:j=k
    ·subst FH;exact br
    ·rw[getD_set_ne true FH] at GK;exact GK
   have hnf:((listed.setIfInBounds i true).setIfInBounds j true).getD n true=false:=by rw[getD_set_ne true Ur,getD_set_ne true Gi];exact hn
   refine wpOp_mono (fun a' w' h3=>⟨fun _=>h3.2.1 hnf,ih (listed.setIfInBounds j true) a' w' cr (ready_mono hr (Ne.symm FT)) (by rw[getD_set_ne true Ur];exact hn) h3.1 (h3.2.1 hnf) ?_⟩) h2
   rw[Array.setIfInBounds_comm _ _ FT];exact h3.2.2
theorem z6f {n i:Nat} {oi:Oper} {v:Value} (hi:ops[i]? =some oi) (Gi:i≠n) (bo:∀(j:Nat) (o:Oper) cs b,ops[j]? =some o->o.op≠ .select cs b)
  (hQ:∀c a w,Q (.panic c) (a.put oi.dst v) w->Q (.panic c) a w):
  ∀(fuel:Nat) (listed:Array Bool) (a:Act) (w:World),
   (∀j oj,ops[j]? =some oj->j≠i->listed.getD j true=false->(∀e∈oj.after,Region.binds md e=true->e.on≠i)->oi.apart ops oj=true)->
   i∈Region.ready md ops listed->YieldsIf P ops (fun _=>True) oi v a->(listed.getD n true=false->S w)->
   anyE P md ops Q S n fuel (listed.setIfInBounds i true) (a.put oi.dst v) w->anyE P md ops Q S n (fuel+1) listed a w:=by
 intro fuel
 induction fuel with
 |zero=>
  intro listed a w _ hr hy hS H;refine⟨fun h=>(by rw[h] at hr;cases hr),fun j hj=>?_⟩
  by_cases FT:j=i
  ·subst FT
   exact hy.wpOp hi trivial ⟨fun h=>hS (by rw[getD_set_ne true Gi] at h;exact h),H⟩
  ·have:=ready_mono hj FT
   rw[H.1] at this
   cases this
 |succ fuel ih=>
  intro listed a w FU hr hy hS H;refine⟨fun h=>(by rw[h] at hr;cases hr),fun j hj=>?_⟩
  by_cases FT:j=i
  ·subst FT
   exact hy.wpOp hi trivial ⟨fun h=>hS (by rw[getD_set_ne true Gi] at h;exact h),H⟩
  ·have h1:=H.2 j (ready_mono hj FT)
   obtain⟨br,oj,BA,GJ⟩:=mem_ready.1 hj
   have BC:∀e∈oj.after,Region.binds md e=true->e.on≠i:=fun e he hb Fz=>by
    have g1:=GJ e he hb;have g0:=(mem_ready.1 hr).1;rw[Fz] at g1
    rcases abj i listed.size with h'|h'
    ·simp[h'] at g0 g1;rw[g0] at g1;cases g1
    ·simp[abw h'] at g1
   have h2:=wpOp_putIf BA (FU j oj BA FT br BC) (fun cs b=>bo i oi cs b hi) (fun cs b=>bo j oj cs b BA) hQ hy h1
   have cr:∀k ok,ops[k]? =some ok->k≠i->(listed.setIfInBounds j true).getD k true=false->
     (∀e∈ok.after,Region.binds md e=true->e.on≠i)->oi.apart ops ok=true:=fun k ok hk rX GK G6=>by
    refine FU k ok hk rX ?_ G6
    by_cases FH:j=k
    ·subst FH;exact br
    ·rw[getD_set_ne true FH] at GK;exact GK
   have rk:((listed.setIfInBounds i true).setIfInBounds j true)=((listed.setIfInBounds j true).setIfInBounds i true):=Array.setIfInBounds_comm _ _ (Ne.symm FT);refine wpOp_mono (fun a' w' h3=>?_) h2
   have hs:(listed.setIfInBounds j true).getD n true=false->S w':=fun hf=>h3.2.1 (by rw[rk,getD_set_ne true Gi];exact hf)
   refine⟨hs,ih (listed.setIfInBounds j true) a' w' cr (ready_mono hr (Ne.symm FT)) h3.1 hs ?_⟩
   rw[<-rk];exact h3.2.2
theorem z98 {n i:Nat} {oi on:Oper} {v:Value} {fuel:Nat} {listed:Array Bool} {a:Act} {w:World} (Fs:(ops.toList.drop i).head? =some oi) (Mp:(ops.toList.drop n).head? =some on) (fD:(on.after.any fun e=>Region.binds md e&&e.on==i)=true)
  (hs:Region.noSelect ops=true) (hf:Region.free md ops listed i=true) (hr:(Region.ready md ops listed).contains i=true) (hn:listed.getD n true=false)
  (hQ:∀c a w,Q (.panic c) (a.put oi.dst v) w->Q (.panic c) a w) (hy:YieldsIf P ops S oi v a) (hS:S w)
  (h:anyE P md ops Q S n fuel (listed.setIfInBounds i true) (a.put oi.dst v) w):anyE P md ops Q S n (fuel+1) listed a w:=by
 have hi:=ql Fs;have cU:=ql Mp;refine z7s hi cU ?_ (Region.noSelect_spec hs) hQ fuel listed a w (Region.free_spec hi hf) (by simpa using hr) hn hy hS h
 rw[Array.any_eq_true] at fD;obtain⟨k,hk,h⟩:=fD;rw[aaG] at h;exact⟨on.after[k],Array.getElem_mem hk,h.1,by simpa using h.2⟩
theorem z7r {n i:Nat} {oi:Oper} {v:Value} {fuel:Nat} {listed:Array Bool} {a:Act} {w:World} (Fs:(ops.toList.drop i).head? =some oi) (Gi:i≠n)
  (hs:Region.noSelect ops=true) (hf:Region.free md ops listed i=true) (hr:(Region.ready md ops listed).contains i=true)
  (hQ:∀c a w,Q (.panic c) (a.put oi.dst v) w->Q (.panic c) a w) (hy:YieldsIf P ops (fun _=>True) oi v a) (hS:S w)
  (h:anyE P md ops Q S n fuel (listed.setIfInBounds i true) (a.put oi.dst v) w):anyE P md ops Q S n (fuel+1) listed a w:=
 z6f (ql Fs) Gi (Region.noSelect_spec hs) hQ fuel listed a w (Region.free_spec (ql Fs) hf) (by simpa using hr) hy (fun _=>hS) h
theorem tE_ {n:Nat} {oi on:Oper} {v:Value} {fuel:Nat} {listed:Array Bool} {a:Act} {w:World} (i:Nat) (Fs:(ops.toList.drop i).head? =some oi) (Mp:(ops.toList.drop n).head? =some on) (h:anyE P md ops Q S n fuel (listed.setIfInBounds i true) (a.put oi.dst v) w)
  (fD:(on.after.any fun e=>Region.binds md e&&e.on==i)=true:=by kernel_rfl) (hs:Region.noSelect ops=true:=by kernel_rfl) (hf:Region.free md ops listed i=true:=by kernel_rfl) (hr:(Region.ready md ops listed).contains i=true:=by kernel_rfl) (hn:listed.getD n true=false:=by kernel_rfl)
  (hQ:∀c a w,Q (.panic c) (a.put oi.dst v) w->Q (.panic c) a w:=by exact fun _ _ _ h=>h) (hy:YieldsIf P ops S oi v a:=by(refine Or.inl ⟨by rfl,?_⟩);intro w' gh;(try dsimp only at gh);go_simp;(try with_reducible rfl)) (hS:S w:=by assumption):anyE P md ops Q S n (fuel+1) listed a w:=
 z98 Fs Mp fD hs hf hr hn hQ hy hS h
theorem tF_ {n:Nat} {oi:Oper} {v:Value} {fuel:Nat} {listed:Array Bool} {a:Act} {w:World} (i:Nat) (Fs:(ops.toList.drop i).head? =some oi) (h:anyE P md ops Q S n fuel (listed.setIfInBounds i true) (a.put oi.dst v) w) (Gi:i≠n:=by decide)
  (hs:Region.noSelect ops=true:=by kernel_rfl) (hf:Region.free md ops listed i=true:=by kernel_rfl) (hr:(Region.ready md ops listed).contains i=true:=by kernel_rfl)
  (hQ:∀c a w,Q (.panic c) (a.put oi.dst v) w->Q (.panic c) a w:=by exact fun _ _ _ h=>h) (hy:YieldsIf P ops (fun _=>True) oi v a:=by(refine Or.inl ⟨by rfl,?_⟩);intro w' gh;(try dsimp only at gh);go_simp;(try with_reducible rfl)) (hS:S w:=by assumption):anyE P md ops Q S n (fuel+1) listed a w:=
 z7r Fs Gi hs hf hr hQ hy hS h
theorem zL {n i:Nat} {o:Oper} {fuel:Nat} {listed:Array Bool} {a:Act} {w:World} (FA:(ops.toList.drop i).head? =some o) (hr:Region.ready md ops listed=[i])
  (h:∀K':Act->World->Prop,(∀a w,((listed.setIfInBounds i true).getD n true=false->S w)->(((listed.setIfInBounds i true).getD n true=false->S w)->anyE P md ops Q S n fuel (listed.setIfInBounds i true) a w)->K' a w)->if Region.wanted o (yielded ops a.tmps)=true then Oper.wp P o a w K' Q else K' (a.put o.dst undef) w):
  anyE P md ops Q S n (fuel+1) listed a w:=by
 have ho:=ql FA;refine⟨fun h0=>(by rw[hr] at h0;cases h0),fun j hj=>?_⟩
 rw[hr,aa9] at hj;subst hj;exact wpOp_step ho (fun K' hK=>h K' (fun a w hS hW=>hK a w ⟨hS,hW hS⟩))
theorem yv {n:Nat} {listed:Array Bool} {a:Act} {w:World} (hr:Region.ready md ops listed=[]) (h:Q .normal a w):∀fuel,anyE P md ops Q S n fuel listed a w
 |0=>⟨hr,h⟩
 |_+1=>⟨fun _=>h,by rw[hr];simp⟩
theorem jm {id n:Nat} {a:Act} {w:World} (hm:P.follows .mixedOrders =true) (hS:S w.drew)
  (h:S w.drew->anyE P .any ops Q S n ops.size (Array.replicate ops.size false) a w.drew):(Code.region id ops true).wp P Q a w:=
 wp_region_any hm (z2D _ _ _ _ (h hS))
end
def tk (L:Array Bool) (j:Nat):Bool:=L.getD j true
theorem z0S (L:Array Bool) (i:Nat):tk (L.setIfInBounds i true) i=true:=by
 unfold tk
 rcases abj i L.size with h|h
 ·simp[h]
 ·simp[h]
theorem jX {L:Array Bool} {i j:Nat} (h:i≠j):tk (L.setIfInBounds i true) j=tk L j:=getD_set_ne true h
theorem ZP {L:Array Bool} {j:Nat} (h:tk L j=false):j<L.size:=by
 unfold tk at h
 rcases abj j L.size with h'|h'
 ·exact h'
 ·simp[h'] at h
theorem z82 {L:Array Bool} {j:Nat} (h:L.getD j false=true):tk L j=true:=by
 unfold tk
 rcases abj j L.size with h'|h'
 ·simp[h'] at h⊢;exact h
 ·simp[h'] at h
theorem preS {L:Array Bool} {i:Nat} {l:List Nat} (h:∀j∈l,tk L j=true):∀j∈l,tk (L.setIfInBounds i true) j=true:=by
 intro j hj
 by_cases m5:i=j
 ·subst m5;exact z0S L i
 ·rw[jX m5];exact h j hj
def Aft (L:Array Bool) (j:Nat) (p:Prop):Prop:=tk L j=true->p
theorem Aft.keep {L:Array Bool} {i j:Nat} {p:Prop} (h:Aft L j p) (gd:i≠j):Aft (L.setIfInBounds i true) j p:=fun ht=>h (by rw[jX gd] at ht;exact ht)
theorem Aft.new {L:Array Bool} {j:Nat} {p:Prop} (h:p):Aft L j p:=fun _=>h
theorem Aft.no {L:Array Bool} {j:Nat} {p:Prop} (h:tk L j=false):Aft L j p:=fun ht=>by rw[h] at ht;cases ht
def zav (base:Nat) (t:TypeId) (cs:Array Value) (v:Value) (w:World):Prop:=∃g,v= .pointer (some ⟨g,0,none⟩)/\base<=g/\Blk w g t cs
theorem zav.below {base:Nat} {t:TypeId} {cs:Array Value} {v:Value} {w w':World} (h:zav base t cs v w) (hb:Below w.heap.size w w'):zav base t cs v w':=by
 obtain⟨g,h1,h2,h3⟩:=h;exact⟨g,h1,h2,h3.below hb h3.lt⟩
theorem zav.ne {base:Nat} {t:TypeId} {cs:Array Value} {v:Value} {w:World} (h:zav base t cs v w):v≠ .pointer (some ⟨w.heap.size,0,none⟩):=by
 obtain⟨g,h1,h2,h3⟩:=h;have:=h3.lt;rintro rfl
 injection h1 with h1
 injection h1 with h1
 injection h1 with h1
 omega
theorem zav.far {base:Nat} {t:TypeId} {cs:Array Value} {v:Value} {w:World} (h:zav base t cs v w) {g i:Nat} (gd:v≠ .pointer (some ⟨g,0,none⟩)) (x:Value):zav base t cs v (w.setCell ⟨g,i,none⟩ x):=by
 obtain⟨g',h1,h2,h3⟩:=h;exact⟨g',h1,h2,h3.far (p:=⟨g,i,none⟩) (fun e=>gd (by rw[h1,show g'=g from e])) x⟩
structure One (L:Array Bool) (i s base:Nat) (t:TypeId) (z f:Array Value) (v:Value) (w:World):Prop where
 ord:tk L s=true->tk L i=true
 zero:tk L i=true->tk L s=false->zav base t z v w
 full:tk L s=true->zav base t f v w
theorem One.start {L:Array Bool} {i s base:Nat} {t:TypeId} {z f:Array Value} {v:Value} {w:World} (hi:tk L i=false) (hs:tk L s=false):One L i s base t z f v w:=
 ⟨fun h=>by(rw[hs] at h;cases h),fun h=>by(rw[hi] at h;cases h),fun h=>by(rw[hs] at h;cases h)⟩
theorem One.step {L:Array Bool} {i s base k:Nat} {t:TypeId} {z f:Array Value} {v:Value} {w w':World} (h:One L i s base t z f v w) (h1:k≠i) (h2:k≠s) (hb:Below w.heap.size w w'):One (L.setIfInBounds k true) i s base t z f v w':=
 ⟨by rw[jX h1,jX h2];exact h.ord,by rw[jX h1,jX h2];exact fun a b=>(h.zero a b).below hb,by rw[jX h2];exact fun a=>(h.full a).below hb⟩
theorem One.far {L:Array Bool} {i s base k g:Nat} {t:TypeId} {z f:Array Value} {v:Value} {w:World} (h:One L i s base t z f v w) (h1:k≠i) (h2:k≠s) (gd:tk L i=true->v≠ .pointer (some ⟨g,0,none⟩)) (a b:Nat) (x y:Value):
  One (L.setIfInBounds k true) i s base t z f v ((w.setCell ⟨g,a,none⟩ x).setCell ⟨g,b,none⟩ y):=
 ⟨by rw[jX h1,jX h2];exact h.ord,by rw[jX h1,jX h2];exact fun p q=>((h.zero p q).far (gd p) x).far (gd p) y,by rw[jX h2];exact fun p=>((h.full p).far (gd (h.ord p)) x).far (gd (h.ord p)) y⟩
theorem One.lay {L:Array Bool} {i s base:Nat} {t:TypeId} {z f:Array Value} {v:Value} {w:World} (h:One L i s base t z f v w) (GK:tk L i=false) (Yo:i≠s) (hb:base<=w.heap.size):One (L.setIfInBounds i true) i s base t z f (.pointer (some ⟨w.heap.size,0,none⟩)) (w.alloc (.cells z t)):=by
 have hs:tk L s=false:=by
  cases hc:tk L s
  ·rfl
  ·have:=h.ord hc
   rw[GK] at this;cases this
 exact⟨(by rw[jX Yo,hs];exact(fun h=>by cases h)),fun _ _=>⟨_,rfl,hb,Blk.new w t z⟩,(by rw[jX Yo,hs];exact(fun h=>by cases h))⟩
theorem One.fill {L:Array Bool} {i s base:Nat} {t:TypeId} {x y p q:Value} {v:Value} {w:World} {g:Nat} (h:One L i s base t #[x,y] #[p,q] v w) (hi:tk L i=true) (hs:tk L s=false) (hv:v= .pointer (some ⟨g,0,none⟩)) (Yo:s≠i):
  One (L.setIfInBounds s true) i s base t #[x,y] #[p,q] v ((w.setCell ⟨g,0,none⟩ p).setCell ⟨g,1,none⟩ q):=by
 obtain⟨g',h1,h2,h3⟩:=h.zero hi hs;rw[hv] at h1
 injection h1 with h1
 injection h1 with h1
 injection h1 with h1
 subst h1;refine⟨fun _=>by rw[jX Yo];exact hi,fun _ hc=>(by rw[z0S] at hc;cases hc),fun _=>⟨g,hv,h2,?_⟩⟩
 have:=(h3.set_ 0 p).set_ 1 q
 simpa using this
def Apart2 (L:Array Bool) (i j:Nat) (v u:Value):Prop:=tk L i=true->tk L j=true->v≠u
theorem Apart2.start {L:Array Bool} {i j:Nat} {v u:Value} (h:tk L i=false):Apart2 L i j v u:=fun h1=>by rw[h] at h1;cases h1
theorem Apart2.step {L:Array Bool} {i j k:Nat} {v u:Value} (h:Apart2 L i j v u) (h1:k≠i) (h2:k≠j):Apart2 (L.setIfInBounds k true) i j v u:=by
 unfold Apart2;rw[jX h1,jX h2];exact h
theorem One.old {L:Array Bool} {i s base:Nat} {t:TypeId} {z f:Array Value} {v:Value} {w:World} (h:One L i s base t z f v w) (hi:tk L i=true):v≠ .pointer (some ⟨w.heap.size,0,none⟩):=by
 cases hs:tk L s
 ·exact(h.zero hi hs).ne
 ·exact(h.full hs).ne
theorem Apart2.newR {L:Array Bool} {i j s base:Nat} {t:TypeId} {z f:Array Value} {v:Value} {w:World} (h:One L i s base t z f v w) (h1:j≠i):Apart2 (L.setIfInBounds j true) i j v (.pointer (some ⟨w.heap.size,0,none⟩)):=by
 unfold Apart2;rw[jX h1];exact fun hi _=>h.old hi
theorem Apart2.newL {L:Array Bool} {i j s base:Nat} {t:TypeId} {z f:Array Value} {v:Value} {w:World} (h:One L j s base t z f v w) (h1:i≠j):Apart2 (L.setIfInBounds i true) i j (.pointer (some ⟨w.heap.size,0,none⟩)) v:=by
 unfold Apart2;rw[jX h1];exact fun _ hj=>(h.old hj).symm
section
variable {P:Program} {md:Region.Mode} {ops:Array Oper} {Q:Exit->Act->World->Prop} {S:World->Prop}
theorem V0 {i:Nat} {L:Array Bool} (h:i∈Region.ready md ops L):tk L i=false:=(mem_ready.1 h).1
theorem qX {i j:Nat} {o:Oper} {L:Array Bool} (h:i∈Region.ready md ops L) (ho:(ops.toList.drop i).head? =some o) (hw:(o.after.any fun e=>Region.binds md e&&e.on==j)=true):tk L j=true:=by
 obtain⟨_,o',FA,GJ⟩:=mem_ready.1 h;rw[ql ho] at FA
 cases FA
 rw[Array.any_eq_true] at hw;obtain⟨k,hk,h2⟩:=hw;rw[aaG] at h2;have:=GJ o.after[k] (Array.getElem_mem hk) h2.1;rw[show o.after[k].on =j by simpa using h2.2] at this;exact z82 this
def z6V (md:Region.Mode) (ops:Array Oper):Bool:=(List.range ops.size).all fun i=>((ops[i]?).map (·.after.all fun e=> !Region.binds md e||decide (e.on<i))).getD true
def z5B (md:Region.Mode) (ops:Array Oper) (n:Nat):Bool:=
 ((ops[n]?).map fun o=>(List.range n).all fun j=>o.after.any fun e=>Region.binds md e&&e.on==j).getD false&&
 (List.range ops.size).all fun i=>decide (i<=n)||((ops[i]?).map fun o=>o.after.any fun e=>Region.binds md e&&e.on==n).getD true
theorem qF {i:Nat} {o:Oper} {K:Act->World->Prop} {a:Act} {w:World} (ho:(ops.toList.drop i).head? =some o)
  (h:∀K':Act->World->Prop,(∀a w,K a w->K' a w)->if Region.wanted o (yielded ops a.tmps)=true then Oper.wp P o a w K' Q else K' (a.put o.dst undef) w):wpOp P ops Q i K a w:=
 wpOp_step (ql ho) h
theorem z3n (hb:z6V md ops=true) {L:Array Bool} (hs:L.size=ops.size) {k:Nat} (hk:tk L k=false):Region.ready md ops L≠ []:=by
 intro hr
 have Yp:∀m,m<=ops.size->∀j,j<m->tk L j=true:=by
  intro m
  induction m with
  |zero=>intro _ j hj;omega
  |succ m ih=>
   intro hm j hj
   rcases Nat.lt_succ_iff_lt_or_eq.1 hj with h|h
   ·exact ih o_ j h
   ·subst h
    apply abk
    intro hc;have Yn:tk L j=false:=by simpa using hc
    have hj2:j<ops.size:=o_
    have:j∈Region.ready md ops L:=by
     rw[mem_ready];refine⟨Yn,ops[j],by simp[hj2],fun e he fE=>?_⟩
     unfold z6V at hb;rw[aaL] at hb;have h1:=hb j (List.mem_range.2 hj2);simp only[abn hj2,aaw,Option.getD_some,Array.all_eq_true_iff_forall_mem] at h1
     have h2:=h1 e he;rw[fE] at h2;have h3:e.on<j:=by simpa using h2
     have h4:=ih o_ e.on h3;unfold tk at h4;have h5:e.on<L.size:=o_
     simp[h5] at h4⊢
     exact h4
    rw[hr] at this
    cases this
 have gG:=ZP hk;have:=Yp ops.size (aaa _) k o_;rw[this] at hk
 cases hk
def XQ (N:Nat) (L:Array Bool):Nat:=(List.range N).countP fun j=> !tk L j
theorem z4t {N i:Nat} {L:Array Bool} (hi:i<N) (h:tk L i=false):XQ N (L.setIfInBounds i true)+1=XQ N L:=by
 unfold XQ
 induction N with
 |zero=>omega
 |succ N ih=>
  rw[abe,List.countP_append,List.countP_append]
  by_cases he:i=N
  ·subst he
   have e:(List.range i).countP (fun j=> !tk (L.setIfInBounds i true) j)=(List.range i).countP (fun j=> !tk L j):=by
    apply List.countP_congr
    intro j hj;have:=List.mem_range.1 hj;rw[jX (show i≠j by omega)]
   rw[e];simp[List.countP_cons,z0S,h]
  ·have:=ih o_
   have e: [N].countP (fun j=> !tk (L.setIfInBounds i true) j)=[N].countP (fun j=> !tk L j):=by
    simp[List.countP_cons,jX he]
   rw[e];omega
def zas (n N:Nat):Array Bool:=Array.replicate n true++Array.replicate (N -n) false
theorem z7F {n:Nat} {L:Array Bool} (h1:∀j,j<n->tk L j=true) (h2:∀j,n<=j->j<L.size->tk L j=false) (hn:n<=L.size):L=zas n L.size:=by
 apply Array.ext
 ·simp[zas];omega
 ·intro j hj Bj
  have e:tk L j=L[j]:=by unfold tk;simp[hj]
  rcases abj j n with h|h
  ·rw[<-e,h1 j h]
   simp[zas,Array.getElem_append,h]
  ·rw[<-e,h2 j h hj]
   simp[zas,Array.getElem_append,show ¬j<n by omega]
theorem z3J {n:Nat} {Inv:Array Bool->Act->World->Prop} (hn:n<ops.size) (hb:z6V md ops=true) (hl:z5B md ops n=true)
  (UT:∀L a w,Inv L a w->∀i,i<n->i∈Region.ready md ops L->wpOp P ops Q i (fun a' w'=>S w'/\Inv (L.setIfInBounds i true) a' w') a w)
  (hend:∀a w,Inv (zas n ops.size) a w->anyE P md ops Q S n (ops.size -n) (zas n ops.size) a w):
  ∀(fuel:Nat) (L:Array Bool) (a:Act) (w:World),L.size=ops.size->(∀j,n<=j->j<ops.size->tk L j=false)->XQ ops.size L=fuel->Inv L a w->anyE P md ops Q S n fuel L a w:=by
 intro fuel
 induction fuel with
 |zero=>
  intro L a w hs GK hc _
  exfalso
  have h0:=GK n (aaa _) hn;unfold XQ at hc;rw[List.countP_eq_zero] at hc;have:=hc n (List.mem_range.2 hn);rw[h0] at this;exact this rfl
 |succ fuel ih=>
  intro L a w hs GK hc hI
  by_cases nF:n∈Region.ready md ops L
  ·have GJ:∀j,j<n->tk L j=true:=by
    intro j hj;unfold z5B at hl;rw[aaG] at hl;have h1:=hl.1;rw[abn hn,aaw,Option.getD_some,aaL] at h1;exact qX (o:=ops[n]) nF (by rw[List.head?_drop,Array.getElem?_toList,abn hn]) (h1 j (List.mem_range.2 hj))
   have hL:=z7F GJ (fun j h1 h2=>GK j h1 o_) o_;rw[hs] at hL
   have hcnt:fuel+1=ops.size -n:=by
    rw[<-hc,hL];unfold XQ
    have e:∀N,n<=N->(List.range N).countP (fun j=> !tk (zas n N) j)=N -n:=by
     intro N hN
     have g:∀m,m<=N->(List.range m).countP (fun j=> !tk (zas n N) j)=m -n:=by
      intro m
      induction m with
      |zero=>intro _;simp
      |succ m ihm=>
       intro hm;rw[abe,List.countP_append,ihm o_]
       have hv:tk (zas n N) m=decide (m<n):=by
        unfold tk zas
        by_cases h:m<n
        ·simp[Array.getElem?_append,h]
        ·simp[Array.getElem?_append,h,show m -n<N -n by omega]
       by_cases h:m<n
       ·simp[List.countP_cons,hv,h];omega
       ·simp[List.countP_cons,hv,h];omega
     exact g N (aaa _)
    exact e ops.size o_
   rw[hcnt,hL];exact hend a w (by rw[hL] at hI;exact hI)
  ·refine⟨fun h0=>absurd h0 (z3n hb hs (GK n (aaa _) hn)),fun i hi=>?_⟩
   have hun_i:=V0 hi;have cf:i<ops.size:=by have:=ZP hun_i;omega
   have Gi:i<n:=by
    apply abk
    intro Nd
    rcases Nat.lt_or_eq_of_le (Nat.le_of_not_lt Nd) with h|h
    ·unfold z5B at hl
     rw[aaG] at hl;have h1:=List.all_eq_true.1 hl.2 i (List.mem_range.2 cf);rw[abn cf,aaw,Option.getD_some] at h1
     have h2:(ops[i].after.any fun e=>Region.binds md e&&e.on==n)=true:=by
      rcases Bool.or_eq_true_iff.1 h1 with h3|h3
      ·simp at h3;omega
      ·exact h3
     have:=qX (o:=ops[i]) hi (by rw[List.head?_drop,Array.getElem?_toList,abn cf]) h2;rw[GK n (aaa _) hn] at this
     cases this
    ·subst h;exact nF hi
   refine wpOp_mono (fun a' w' h'=>⟨fun _=>h'.1,ih (L.setIfInBounds i true) a' w' (by simpa using hs) (fun j h1 h2=>by rw[jX o_];exact GK j h1 h2) ?_ h'.2⟩) (UT L a w hI i Gi hi)
   have:=z4t (N:=ops.size) cf hun_i;omega
end
theorem VL (l:List (Int×Int)):∀u∈l.flatMap prc,u.oneCell'=true:=by
 intro u hu;rw[List.mem_flatMap] at hu;obtain⟨p,_,hp⟩:=hu;simp only[prc,List.mem_cons,List.mem_nil_iff,or_false] at hp
 rcases hp with rfl|rfl<;>rfl
theorem yY {P:Program} {w:World} {t ty e:TypeId} {i:TypeInfo} (ht:P.underlying t=some (.slice e)) (hi:P.info? e=some i) (A:Option Addr) (n cp c:Nat) (h:n<=cp):
  (Builtin.append_ #[t,t] ty #[.slice A n cp,.slice none 0 c]).run P w= .ok (.slice A n cp) w:=by
 simp[Builtin.append_,run_underlying ht,sizeOf,typeInfo,hi,Builtin.lenOf,h,Builtin.firstCells]
 cases A
 ·simp
 ·simp[storeCells]
theorem ki (b off j:Nat):(⟨b,off,none⟩:Addr).add j=⟨b,off+j,none⟩:=by
 unfold Addr.add
 split<;>simp_all
theorem ks {P:Program} {w:World} {t ty e:TypeId} {i:TypeInfo} {base:Nat} (ht:P.underlying t=some (.slice e)) (hi:P.info? e=some i) (hz:i.zero=some (.agg #[.int .i64 0,.int .i64 0])) (Hs:i.size=2) (GN:i.bytes=16)
  {v u:Value} {xs l:List (Int×Int)} (hown:OwnP e base w v xs) (hr:RP w u l) (Hj:xs.length+l.length<=1048576+1048576) (Hu:base<=w.heap.size):
  ∃A c w',(Builtin.append_ #[t,t] ty #[v,u]).run P w= .ok (.slice A (xs++l).length c) w'/\OwnP e base w' (.slice A (xs++l).length c) (xs++l)/\w.grownBy w' v.ownBlock/\
   ((Value.slice A (xs++l).length c).ownBlock =v.ownBlock∨(Value.slice A (xs++l).length c).ownBlock =some w.heap.size):=by
 obtain⟨A,c,rfl,hc,hm,hcell⟩:=hr.form
 cases A with
 |none=>
  have hl:l=[]:=by
   rcases abv l.length with h|h
   ·exact abx h
   ·obtain⟨b,off,h1,_⟩:=hcell h
    cases h1
  subst hl;obtain⟨A,cp,rfl⟩:=hown.form
  have nG:xs.length<=cp:=by
   obtain⟨A',c',e1,e2,_⟩:=hown.reads.form
   cases e1;exact e2
  refine⟨A,cp,w,?_,by rw[List.append_nil];exact hown,World.grownBy.refl _ _,by rw[List.append_nil];exact .inl rfl⟩
  rw[List.append_nil];exact yY ht hi A _ cp c nG
 |some a=>
  have hn:∀(j:Nat) (x:Value),(l.flatMap prc)[j]? =some x->w.cell? (a.add j)=some x:=by
   intro j x hx;have hj:=(List.getElem?_eq_some_iff.1 hx).1;rw[qm prc 2 (fun _=>rfl)] at hj;obtain⟨_,A',c',e1,_,_,e4⟩:=hr
   cases e1
   obtain⟨b,off,e5,_,e6⟩:=e4 o_
   cases e5
   rw[ki];exact e6 j x hx
  have ho:w.ownsRow base e 2 v xs.length (xs.flatMap prc):=hown;obtain⟨v',w',h1,h2,h3,_,h5⟩:=run_append_own_at (P:=P) w base t ty e i _ 2 16 ht hi hz Hs GN rfl (by decide) v xs.length (xs.flatMap prc) ho a l.length c (l.flatMap prc) (qm prc 2 (fun _=>rfl) l) hn (VL l) (by unfold maxLen;omega) o_ Hu
  have rm:OwnP e base w' v' (xs++l):=by
   unfold OwnP;rw[aaW,aaX];exact h2
  obtain⟨A',c',rfl⟩:=rm.form;exact⟨A',c',w',h1,rm,h3,h5⟩
theorem zk {P:Program} {w:World} {ops:Array Oper} {o:Oper} {a:Act} {K:Act->World->Prop} {Q:Exit->Act->World->Prop} {E:Prop} (fY:o.guard=none) (s x:Operand) (t:TypeId)
  (ho:o.op= .call { callee:= .builtin .append,args:= #[s,x],argTypes:= #[t,t] })
  (base:Nat) (e:TypeId) (i:TypeInfo) (ht:P.underlying t=some (.slice e)) (hi:P.info? e=some i) (hz:i.zero=some (.agg #[.int .i64 0,.int .i64 0])) (Hs:i.size=2) (GN:i.bytes=16)
  (v u:Value) (xs l:List (Int×Int)) (hs:a.eval s=v) (hx:a.eval x=u) (hown:OwnP e base w v xs) (hr:RP w u l) (Hj:xs.length+l.length<=1048576+1048576) (Hu:base<=w.heap.size)
  (h:∀A c w',OwnP e base w' (.slice A (xs++l).length c) (xs++l)->w.grownBy w' v.ownBlock->((Value.slice A (xs++l).length c).ownBlock =v.ownBlock∨(Value.slice A (xs++l).length c).ownBlock =some w.heap.size)->K (a.put o.dst (.slice A (xs++l).length c)) w'):
  if Region.wanted o (yielded ops a.tmps)=true then Oper.wp P o a w K Q else E:=by
 have hw:Region.wanted o (yielded ops a.tmps)=true:=by simp[Region.wanted,fY]
 rw[aao hw];obtain⟨A,c,w',GC,h2,h3,h4⟩:=ks (ty:=o.type) ht hi hz Hs GN hown hr Hj Hu;unfold Oper.wp execOp;simp only[ho,resolve,invoke,builtin,Sem.run_bind,Sem.run_pure,aaY,List.map_toArray,aaS,aaT,hs,hx,GC]
 exact h A c w' h2 h3 h4
theorem zj {P:Program} {w:World} {ops:Array Oper} {rest:List Oper} {o:Oper} {a:Act} {Q:Exit->Act->World->Prop} (fY:o.guard=none) (s x:Operand) (t:TypeId)
  (ho:o.op= .call { callee:= .builtin .append,args:= #[s,x],argTypes:= #[t,t] })
  (base:Nat) (e:TypeId) (i:TypeInfo) (ht:P.underlying t=some (.slice e)) (hi:P.info? e=some i) (hz:i.zero=some (.agg #[.int .i64 0,.int .i64 0])) (Hs:i.size=2) (GN:i.bytes=16)
  (v u:Value) (xs l:List (Int×Int)) (hs:a.eval s=v) (hx:a.eval x=u) (hown:OwnP e base w v xs) (hr:RP w u l) (Hj:xs.length+l.length<=1048576+1048576) (Hu:base<=w.heap.size)
  (h:∀A c w',OwnP e base w' (.slice A (xs++l).length c) (xs++l)->w.grownBy w' v.ownBlock->((Value.slice A (xs++l).length c).ownBlock =v.ownBlock∨(Value.slice A (xs++l).length c).ownBlock =some w.heap.size)->wpList P ops Q rest (a.put o.dst (.slice A (xs++l).length c)) w'):
  wpList P ops Q (o::rest) a w:=
 wpList_plain fY fun K hK=>by
  obtain⟨A,c,w',GC,h2,h3,h4⟩:=ks (ty:=o.type) ht hi hz Hs GN hown hr Hj Hu;unfold Oper.wp execOp;simp only[ho,resolve,invoke,builtin,Sem.run_bind,Sem.run_pure,aaY,List.map_toArray,aaS,aaT,hs,hx,GC]
  exact hK _ _ (h A c w' h2 h3 h4)
theorem OwnP.made {t:TypeId} {base:Nat} {w:World} {g:Nat} (hg:g=w.heap.size) (hb:base<=w.heap.size):OwnP t base (w.alloc (.cells #[] t)) (.slice (some ⟨g,0,none⟩) 0 0) []:=by
 subst hg;exact World.ownsRow_made _ _ _ hb (by simp) (by simp[maxLen])
theorem kc {w w':World} (h:w.grownBy w' (Value.slice none 0 0).ownBlock):Below w.heap.size w w':=(aaj _ _).grown h (aaa _) (by intro k hk;cases hk)
theorem qn (vn vl:Value) (ns ls:List (Int×Int)) (w:World) (hn:RP w vn ns) (hl:RP w vl ls) (h1:ns.length<=1048576) (h2:ls.length<=1048576):
  Calls Tryz.prog 81 #[.agg #[vn,vl]] w (RetW ns ls w):=by
 obtain⟨i0,hi,iz0,iz1,iz2⟩:=info_parts ko;obtain⟨j0,hj,jz0,jz1,jz2⟩:=info_parts jb;have cB:w.heap.size<w.heap.size+1+1:=o_
 go_enter Tryz.func81,Tryz.ntmps81
 go_wp2_with fail
 go_region_held3 (fun w'=>w'.cell? ⟨w.heap.size,0,none⟩=some vn/\w'.cell? ⟨w.heap.size,1,none⟩=some vl)
  (go_keep)
  (first|(refine zk rfl _ _ _ rfl (w.heap.size+1+1) 106 i0 Tryz.underlying24 hi iz0 iz1 iz2 (.slice none 0 0) vn [] ns rfl rfl (OwnP.nil _ _ _) (RP.below hn bel_) (by simp;omega) sz_ ?_;intro A1 c1 w1 Hi gD m8;(have h9:=kc gD);(have mm:=h_ m8);(have mn:=h_ Hi);clear gD m8 Hi;(first|(with_reducible have gc:=bdC h9)|have gc:=bcC h9);(first|(with_reducible have Bk:=bdF h9)|have Bk:=bcF h9);have Ht:=h9.size;(try simp at Ht);(try have gF:=p0_ w w1);(try have Ge:=p1_ w w1);(try have fi:=p2_ w w1);(try have mo:=p3_ w w1))|(refine zk rfl _ _ _ rfl (w.heap.size+1+1) 108 j0 Tryz.underlying25 hj jz0 jz1 jz2 (.slice none 0 0) vl [] ls rfl rfl (OwnP.nil _ _ _) (RP.below hl bel_) (by simp;omega) sz_ ?_;intro A2 c2 w2 Hk gm CS;(have Hd:=kc gm);(have UU:=h_ CS);(have FJ:=h_ Hk);clear gm CS Hk;(first|(with_reducible have gE:=bdC Hd)|have gE:=bcC Hd);(first|(with_reducible have BD:=bdF Hd)|have BD:=bcF Hd);have Gh:=Hd.size;(try simp at Gh);(try have gI:=p0_ w w2);(try have gJ:=p1_ w w2);(try have GS:=p2_ w w2);(try have Cs:=p3_ w w2)))
 have Hi:OwnP 106 (w.heap.size+1+1) w1 (.slice A1 ns.length c1) ns:=mn.out;have Hk:OwnP 108 (w.heap.size+1+1) w2 (.slice A2 ls.length c2) ls:=FJ.out
 have bz:Hid (∀k,(Value.slice A1 ns.length c1).ownBlock =some k->(Value.slice A2 ls.length c2).ownBlock =some k->False):=h_ (fun k h1 h2=>by
  have h3:=(Hi.lt k h1).2
  rcases UU.out with h|h
  ·have h':(Value.slice A2 ls.length c2).ownBlock =none:=h
   rw[h'] at h2;cases h2
  ·have h':(Value.slice A2 ls.length c2).ownBlock =some w1.heap.size:=h
   rw[h'] at h2;cases h2;omega)
 have H7:=Hi.kept Hd;have o1:=h_ (((H7.setLow (p:=⟨w.heap.size+1,0,none⟩) sz_ (.slice A1 ns.length c1)).setLow (p:=⟨w.heap.size+1,1,none⟩) sz_ (.slice A2 ls.length c2)).mono (show w.heap.size<=_ by omega));have o2:=h_ (((Hk.setLow (p:=⟨w.heap.size+1,0,none⟩) sz_ (.slice A1 ns.length c1)).setLow (p:=⟨w.heap.size+1,1,none⟩) sz_ (.slice A2 ls.length c2)).mono (show w.heap.size<=_ by omega));go_wp2;exact bodyPost_ret (v:= .agg #[.slice A1 ns.length c1,.slice A2 ls.length c2]) (by simp[results,Tryz.results81,go_sem,gF,Ge,gI,gJ,gE,gc]) rfl ⟨_,_,_,_,rfl,⟨o1.out,o2.out,bz.out⟩,by exact bel_⟩
theorem jM {w w':World} {g B:Nat} (h:w.grownBy w' (some g)) (hB:B<=w.heap.size) (hg:B<=g):Below B w w':=(aaj _ _).grown h hB (fun k hk=>by cases hk;exact hg)
theorem zU (vn vl:Value) (ns ls:List (Int×Int)) (w:World) (hn:RP w vn ns) (hl:RP w vl ls) (h1:ns.length<=1048576) (h2:ls.length<=1048576):
  Calls Tryz.prog 110 #[.agg #[vn,vl]] w (RetW ns ls w):=by
 obtain⟨i0,hi,iz0,iz1,iz2⟩:=info_parts ko;obtain⟨j0,hj,jz0,jz1,jz2⟩:=info_parts jb;have cB:w.heap.size<w.heap.size+1+1:=o_
 have go:w.heap.size<w.heap.size+1+1+1:=o_
 go_enter Tryz.func110,Tryz.ntmps110
 go_wp2_with fail
 go_region_held3 (fun w'=>w'.cell? ⟨w.heap.size,0,none⟩=some vn/\w'.cell? ⟨w.heap.size,1,none⟩=some vl)
  (go_keep)
  (first|(refine zk rfl _ _ _ rfl (w.heap.size+1+1) 106 i0 Tryz.underlying24 hi iz0 iz1 iz2 (.slice (some ⟨w.heap.size+1+1,0,none⟩) 0 0) vn [] ns rfl rfl (OwnP.drew (OwnP.made (by simp) sz_)) (RP.below hn bel_) (by simp;omega) sz_ ?_;intro A1 c1 w1 Hi gD m8;(have h9:=jM (B:=w.heap.size+1+1) gD sz_ sz_);(have gc:=fun (b o:Nat) (h:b<w.heap.size+1+1)=>h9.cell (p:=⟨b,o,none⟩) h);(have Bk:=fun (b o:Nat) (h:b<w.heap.size+1+1)=>h9.frozen (p:=⟨b,o,none⟩) h);(have Ht:=gD.size);(try simp at Ht);(have gF:w.heap.size<w1.heap.size:=by omega);(have Ge:w.heap.size+1<w1.heap.size:=by omega);(have h8:Below w.heap.size w w1:=by refine Below.trans ?_ (h9.mono ?_)<;>first|(exact bel_)|omega);(have mm:=h_ m8);(have mn:=h_ Hi);(have HG1:=h_ gD);clear gD m8 Hi)|((refine zk rfl _ _ _ rfl (w.heap.size+1+1) 106 i0 Tryz.underlying24 hi iz0 iz1 iz2 (.slice (some ⟨w.heap.size+1+1,0,none⟩) 0 0) vn [] ns rfl rfl (OwnP.drew (OwnP.alloc (OwnP.made (by simp) sz_) _)) (RP.below hn bel_) (by simp;omega) sz_ ?_);intro A1 c1 w1 Hi gD m8;(have h9:=jM (B:=w.heap.size+1+1) gD sz_ sz_);(have gc:=fun (b o:Nat) (h:b<w.heap.size+1+1)=>h9.cell (p:=⟨b,o,none⟩) h);(have Bk:=fun (b o:Nat) (h:b<w.heap.size+1+1)=>h9.frozen (p:=⟨b,o,none⟩) h);(have Ht:=gD.size);(try simp at Ht);(have gF:w.heap.size<w1.heap.size:=by omega);(have Ge:w.heap.size+1<w1.heap.size:=by omega);(have h8:Below w.heap.size w w1:=by refine Below.trans ?_ (h9.mono ?_)<;>first|(exact bel_)|omega);(have mm:=h_ m8);(have mn:=h_ Hi);(have rZ:=h_ ((OwnP.drew (OwnP.made (t:=108) (base:=w.heap.size+1+1) (g:=w.heap.size+1+1+1) (by simp) sz_)).apart gD (by intro k h h';simp[Value.ownBlock] at h h';omega)));clear gD m8 Hi)|((refine zk rfl _ _ _ rfl (w.heap.size+1+1) 106 i0 Tryz.underlying24 hi iz0 iz1 iz2 (.slice (some ⟨w.heap.size+1+1+1,0,none⟩) 0 0) vn [] ns rfl rfl (OwnP.drew (OwnP.made (by simp) sz_)) (RP.below hn bel_) (by simp;omega) sz_ ?_);intro A1 c1 w1 Hi gD m8;(have h9:=jM (B:=w.heap.size+1+1) gD sz_ sz_);(have gc:=fun (b o:Nat) (h:b<w.heap.size+1+1)=>h9.cell (p:=⟨b,o,none⟩) h);(have Bk:=fun (b o:Nat) (h:b<w.heap.size+1+1)=>h9.frozen (p:=⟨b,o,none⟩) h);(have Ht:=gD.size);(try simp at Ht);(have gF:w.heap.size<w1.heap.size:=by omega);(have Ge:w.heap.size+1<w1.heap.size:=by omega);(have h8:Below w.heap.size w w1:=by refine Below.trans ?_ (h9.mono ?_)<;>first|(exact bel_)|omega);(have mm:=h_ m8);(have mn:=h_ Hi);(have rZ:=h_ ((OwnP.drew (OwnP.alloc (OwnP.made (t:=108) (base:=w.heap.size+1+1) (g:=w.heap.size+1+1) (by simp) sz_) _)).apart gD (by intro k h h';simp[Value.ownBlock] at h h';omega)));clear gD m8 Hi)|(refine zk rfl _ _ _ rfl (w.heap.size+1+1) 108 j0 Tryz.underlying25 hj jz0 jz1 jz2 (.slice (some ⟨w.heap.size+1+1+1,0,none⟩) 0 0) vl [] ls rfl rfl rZ.out (RP.below hl bel_) (by simp;omega) sz_ ?_;intro A2 c2 w2 Hk gm CS;(have Hd:=jM (B:=w.heap.size+1+1) gm sz_ sz_);(have gE:=fun (b o:Nat) (h:b<w.heap.size+1+1)=>Hd.cell (p:=⟨b,o,none⟩) h);(have BD:=fun (b o:Nat) (h:b<w.heap.size+1+1)=>Hd.frozen (p:=⟨b,o,none⟩) h);(have Gh:=gm.size);(try simp at Gh);(have gI:w.heap.size<w2.heap.size:=by omega);(have gJ:w.heap.size+1<w2.heap.size:=by omega);(have Ha:Below w.heap.size w w2:=by refine Below.trans ?_ (Hd.mono ?_)<;>first|(exact bel_)|omega);(have UU:=h_ CS);(have FJ:=h_ Hk);(have Us:=h_ gm);clear gm CS Hk)|(refine zk rfl _ _ _ rfl (w.heap.size+1+1) 108 j0 Tryz.underlying25 hj jz0 jz1 jz2 (.slice (some ⟨w.heap.size+1+1,0,none⟩) 0 0) vl [] ls rfl rfl rZ.out (RP.below hl bel_) (by simp;omega) sz_ ?_;intro A2 c2 w2 Hk gm CS;(have Hd:=jM (B:=w.heap.size+1+1) gm sz_ sz_);(have gE:=fun (b o:Nat) (h:b<w.heap.size+1+1)=>Hd.cell (p:=⟨b,o,none⟩) h);(have BD:=fun (b o:Nat) (h:b<w.heap.size+1+1)=>Hd.frozen (p:=⟨b,o,none⟩) h);(have Gh:=gm.size);(try simp at Gh);(have gI:w.heap.size<w2.heap.size:=by omega);(have gJ:w.heap.size+1<w2.heap.size:=by omega);(have Ha:Below w.heap.size w w2:=by refine Below.trans ?_ (Hd.mono ?_)<;>first|(exact bel_)|omega);(have UU:=h_ CS);(have FJ:=h_ Hk);(have Us:=h_ gm);clear gm CS Hk)|(refine zk rfl _ _ _ rfl (w.heap.size+1+1) 108 j0 Tryz.underlying25 hj jz0 jz1 jz2 (.slice (some ⟨w1.heap.size,0,none⟩) 0 0) vl [] ls rfl rfl (OwnP.made rfl sz_) (RP.below hl bel_) (by simp;omega) sz_ ?_;intro A2 c2 w2 Hk gm CS;(have Hd:=jM (B:=w.heap.size+1+1) gm sz_ sz_);(have gE:=fun (b o:Nat) (h:b<w.heap.size+1+1)=>Hd.cell (p:=⟨b,o,none⟩) h);(have BD:=fun (b o:Nat) (h:b<w.heap.size+1+1)=>Hd.frozen (p:=⟨b,o,none⟩) h);(have Gh:=gm.size);(try simp at Gh);(have gI:w.heap.size<w2.heap.size:=by omega);(have gJ:w.heap.size+1<w2.heap.size:=by omega);(have Ha:Below w.heap.size w w2:=by refine Below.trans ?_ (Hd.mono ?_)<;>first|(exact bel_)|omega);(have UU:=h_ CS);(have FJ:=h_ Hk);(have Us:=h_ gm);clear gm CS Hk))
 all_goals
  have Hi:OwnP 106 (w.heap.size+1+1) w1 (.slice A1 ns.length c1) ns:=mn.out;have Hk:OwnP 108 (w.heap.size+1+1) w2 (.slice A2 ls.length c2) ls:=FJ.out
  have bz:Hid (∀k,(Value.slice A1 ns.length c1).ownBlock =some k->(Value.slice A2 ls.length c2).ownBlock =some k->False):=h_ (fun k e1 e2=>by
   have hk:=(Hi.lt k e1).2
   rcases mm.out with a|a<;>rcases UU.out with b|b
   all_goals
    have a':=e1.symm.trans a;have b':=e2.symm.trans b;simp[Value.ownBlock] at a' b'
    omega)
  have H7:OwnP 106 (w.heap.size+1+1) w2 (.slice A1 ns.length c1) ns:=by
   first
    |(refine OwnP.apart Hi Us.out ?_
      intro k e1 e2;have hk:=(Hi.lt k e1).2
      rcases mm.out with a|a
      all_goals
       have a':=e1.symm.trans a;simp[Value.ownBlock] at a' e2
       omega)
    |(refine OwnP.apart (Hi.alloc _) Us.out ?_
      intro k e1 e2;have hk:=(Hi.lt k e1).2
      rcases mm.out with a|a
      all_goals
       have a':=e1.symm.trans a;simp[Value.ownBlock] at a' e2
       omega)
  have o1:=h_ (((H7.setLow (p:=⟨w.heap.size+1,0,none⟩) sz_ (.slice A1 ns.length c1)).setLow (p:=⟨w.heap.size+1,1,none⟩) sz_ (.slice A2 ls.length c2)).mono (show w.heap.size<=_ by omega));have o2:=h_ (((Hk.setLow (p:=⟨w.heap.size+1,0,none⟩) sz_ (.slice A1 ns.length c1)).setLow (p:=⟨w.heap.size+1,1,none⟩) sz_ (.slice A2 ls.length c2)).mono (show w.heap.size<=_ by omega));have HB:Hid (Below w.heap.size w ((w2.setCell ⟨w.heap.size+1,0,none⟩ (.slice A1 ns.length c1)).setCell ⟨w.heap.size+1,1,none⟩ (.slice A2 ls.length c2))):=h_ ((Ha.setCell sz_ _).setCell sz_ _);go_wp2;exact bodyPost_ret (v:= .agg #[.slice A1 ns.length c1,.slice A2 ls.length c2]) (by simp[results,Tryz.results110,go_sem,gF,Ge,gI,gJ,gE,gc]) rfl ⟨_,_,_,_,rfl,⟨o1.out,o2.out,bz.out⟩,HB.out⟩
structure Turns (S:Nat->Prop) (w w':World):Prop where
 os:w'.os=w.os
 tape:w'.tape=w.tape
 output:w'.output=w.output
 size:w.heap.size<=w'.heap.size
 block:∀i,i<w.heap.size->¬S i->w'.heap[i]? =w.heap[i]?
theorem Turns.ofGrown {w w':World} {row:Option Nat} {S:Nat->Prop} (h:w.grownBy w' row) (hs:∀k,row=some k->S k):Turns S w w':=
 ⟨h.os,h.tape,h.output,h.size,fun i hi hn=>h.block i hi (fun e=>hn (hs i e.symm))⟩
theorem Turns.ofBelow {w w':World} {S:Nat->Prop} (h:Below w.heap.size w w'):Turns S w w':=⟨h.os,h.tape,h.output,h.size,fun i hi _=>h.block i hi⟩
theorem Turns.trans {a b c:World} {S:Nat->Prop} (h:Turns S a b) (k:Turns S b c):Turns S a c:=
 ⟨k.os.trans h.os,k.tape.trans h.tape,k.output.trans h.output,aai h.size k.size,fun i hi hn=>(k.block i (aaD hi h.size) hn).trans (h.block i hi hn)⟩
theorem Turns.below {a b:World} {S:Nat->Prop} {B:Nat} (h:Turns S a b) (hs:∀k,S k->B<=k) (hB:B<=a.heap.size):Below B a b:=
 ⟨h.os,h.tape,h.output,h.size,fun i hi=>h.block i o_ (fun e=>by have:=hs i e;omega)⟩
theorem Turns.refl (S:Nat->Prop) (w:World):Turns S w w:=⟨rfl,rfl,rfl,aaa _,fun _ _ _=>rfl⟩
theorem yE {base:Nat} {w w':World} {e:TypeId} {size:Nat} {v:Value} {n:Nat} {xs:List Value} {S:Nat->Prop} (h:w.ownsRow base e size v n xs) (hb:Turns S w w') (hs:∀k,v.ownBlock=some k->¬S k):
  w'.ownsRow base e size v n xs:=by
 obtain⟨h1,h2⟩:=h;refine⟨h1,?_⟩
 rcases h2 with ⟨rfl,hn⟩|⟨g,cap,cur,rfl,e1,hh,r⟩
 ·exact .inl ⟨rfl,hn⟩
 ·refine .inr ⟨g,cap,cur,rfl,e1,?_,r⟩
  have Hf:g<w.heap.size:=by
   rcases abj g w.heap.size with Hf|Nd
   ·exact Hf
   ·rw[abw Nd] at hh;cases hh
  rw[hb.block g Hf (hs g rfl)];exact hh
theorem OwnP.turned {t:TypeId} {base:Nat} {w w':World} {v:Value} {l:List (Int×Int)} {S:Nat->Prop} (h:OwnP t base w v l) (hb:Turns S w w') (hs:∀k,v.ownBlock=some k->¬S k):OwnP t base w' v l:=yE h hb hs
theorem Blk.turned {w w':World} {g:Nat} {t:TypeId} {cs:Array Value} {S:Nat->Prop} (h:Blk w g t cs) (hb:Turns S w w') (hn:¬S g):Blk w' g t cs:=(hb.block g h.lt hn).trans h
def zi (vn vl:Value) (k:Nat):Prop:=vn.ownBlock=some k∨vl.ownBlock=some k
theorem OwnW.turned {base:Nat} {w w':World} {vn vl:Value} {ns ls:List (Int×Int)} {S:Nat->Prop} (h:OwnW base w vn vl ns ls) (hb:Turns S w w') (hs:∀k,zi vn vl k->¬S k):OwnW base w' vn vl ns ls:=
 ⟨h.1.turned hb (fun k hk=>hs k (.inl hk)),h.2.1.turned hb (fun k hk=>hs k (.inr hk)),h.2.2⟩
theorem OwnW.lt {base:Nat} {w:World} {vn vl:Value} {ns ls:List (Int×Int)} (h:OwnW base w vn vl ns ls) (k:Nat) (hk:zi vn vl k):base<=k/\k<w.heap.size:=by
 rcases hk with hk|hk
 ·exact h.1.lt k hk
 ·exact h.2.1.lt k hk
def RB (w:World) (v:Value) (zs:List Int):Prop:=RS w 1 v zs.length (zs.map (Value.int .u8))/\∀z∈zs,0<=z/\z<=255
theorem RB.below {w w':World} {v:Value} {zs:List Int} (h:RB w v zs) (hb:Below w.heap.size w w'):RB w' v zs:=⟨RS.below h.1 hb,h.2⟩
theorem RB.form {w:World} {v:Value} {zs:List Int} (h:RB w v zs):∃A c,v= .slice A zs.length c/\zs.length<=c/\zs.length<=maxLen/\
  (0<zs.length->∃b off,A=some ⟨b,off,none⟩/\b<w.heap.size/\∀k,k<zs.length->∃z:Int,w.cell? ⟨b,off+k,none⟩=some (.int .u8 z)/\0<=z/\z<=255):=by
 obtain⟨⟨_,A,c,hv,h1,h2,h3⟩,hz⟩:=h;refine⟨A,c,hv,h1,h2,fun hn=>?_⟩
 obtain⟨b,off,hA,Hf,hc⟩:=h3 hn;refine⟨b,off,hA,Hf,fun k hk=>⟨zs[k],hc k _ ?_,hz _ (abg hk)⟩⟩
 rw[aau,aac hk];rfl
def zx (W0:World) (v:Value) (g:Nat) (w:World):Prop:=
 W0.heap.size<=g/\Below W0.heap.size W0 w/\∃i h:Int,0<=i/\Blk w g 142 #[v,.int .i64 i,.int .i64 h]
def Drawn (W0:World) (v:Value) (g:Nat) (w:World) (n:Int) (e:Ending) (w':World):Prop:=
 ∃x:Int,e= .returned (.int .i64 x)/\0<=x/\x<n/\zx W0 v g w'/\w.grownBy w' (some g)
theorem Jd (a:Int):0<=bits .and .i64 a 255/\bits .and .i64 a 255<256:=by
 have e:bits .and .i64 a 255=IntKind.i64.wrap ((BitVec.ofInt 64 a &&& BitVec.ofInt 64 255).toNat :Int):=rfl
 have h:(BitVec.ofInt 64 a &&& BitVec.ofInt 64 255).toNat <=255:=by
  rw[BitVec.toNat_and];exact Nat.and_le_right
 rw[e,IntKind.wrap_i64];omega
theorem z7x (v:Value) (zs:List Int) (w:World) (h:RB w v zs) (hle:zs.length<=1048576):
  Calls Tryz.prog 64 #[v] w fun e w'=>e= .returned (.pointer (some ⟨w.heap.size,0,none⟩))/\zx w v w.heap.size w':=by
 obtain⟨A,c,rfl,hc,hm,hcell⟩:=h.form;clear h hm
 go_enter Tryz.func64,Tryz.ntmps64
 go_wp2
 go_loop [3,4] (fun x i=>∃k:Nat,∃h:Int,k<=zs.length/\i= .int .i64 k/\x= .int .i64 h) (fun _ i=>zs.length -(intOf i).toNat)
 case atStart=>exact⟨0,_,aab _,rfl,rfl⟩
 case round=>
  obtain⟨k,h,hk,rfl,rfl⟩:=hrel
  by_cases Hf:k<zs.length
  ·by_cases h4:k<4000
   ·obtain⟨b,off,rfl,hb,Hy⟩:=hcell o_
    obtain⟨z,hz,hz0,Ht⟩:=Hy k Hf;clear Hy hcell;go_wp2;go_round
    case rel=>exact⟨k+1,_,by omega,by go_num,rfl⟩
    case measure=>simp[intOf];omega
   ·clear hcell
    go_wp2;go_ret
    exact⟨rfl,aaa _,(aaj _ _).alloc (aaa _) _,0,h,by omega,Blk.new _ _ _⟩
  ·have gi:k=zs.length:=o_
   subst gi;clear hcell;go_wp2;go_ret
   exact⟨rfl,aaa _,(aaj _ _).alloc (aaa _) _,0,h,by omega,Blk.new _ _ _⟩
theorem QT {W0 w w1:World} {v:Value} {g:Nat} {n x:Int} (h0:0<=x) (h1:x<n) (hc:zx W0 v g w1) (hg:w.grownBy w1 (some g)):Drawn W0 v g w n (.returned (.int .i64 x)) w1:=⟨x,rfl,h0,h1,hc,hg⟩
theorem zx.set1 {W0 w:World} {v:Value} {g:Nat} (h:zx W0 v g w) {x:Int} (hx:0<=x):zx W0 v g (w.setCell ⟨g,1,none⟩ (.int .i64 x)):=by
 obtain⟨hg,Hb,i,s,hi,hB⟩:=h;exact⟨hg,Hb.setCell (p:=⟨g,1,none⟩) hg _,x,s,hx,hB.set_ 1 _⟩
theorem zx.set2 {W0 w:World} {v:Value} {g:Nat} (h:zx W0 v g w) (x:Int):zx W0 v g (w.setCell ⟨g,2,none⟩ (.int .i64 x)):=by
 obtain⟨hg,Hb,i,s,hi,hB⟩:=h;exact⟨hg,Hb.setCell (p:=⟨g,2,none⟩) hg _,i,x,hi,hB.set_ 2 _⟩
theorem zx.drewN {W0 w:World} {v:Value} {g:Nat} (h:zx W0 v g w) (n:Nat):zx W0 v g (w.drewN n):=by
 obtain⟨hg,Hb,i,s,hi,hB⟩:=h;exact⟨hg,vV Hb n,i,s,hi,hB.drewN n⟩
theorem x8 (W0:World) (v:Value) (zs:List Int) (g:Nat) (w:World) (h:RB W0 v zs) (hle:zs.length<=1048576) (hc:zx W0 v g w):
  Calls Tryz.prog 201 #[.pointer (some ⟨g,0,none⟩)] w (Drawn W0 v g w 256):=by
 have HC:=h_ hc;obtain⟨hg,Hb,i,s,hi,hB⟩:=hc;obtain⟨A,c,rfl,Gj,hm,hcell⟩:=h.form;clear h hm;have c0:=hB.cell 0;have c1:=hB.cell 1;have c2:=hB.cell 2;have f1:=hB.frozen 1;have f2:=hB.frozen 2;simp only[abd,aah,aag] at c0 c1 c2
 clear hB
 by_cases Hf:i<zs.length
 ·obtain⟨k,rfl⟩:=Int.eq_ofNat_of_zero_le hi
  obtain⟨b,off,rfl,hb,Hy⟩:=hcell o_;obtain⟨z,hz,hz0,Ht⟩:=Hy k o_;have hzw:=(Hb.cell (p:=⟨b,off+k,none⟩) hb).trans hz;clear Hy hcell hz Hb
  go_enter Tryz.func201,Tryz.ntmps201
  go_wp2
  go_quiet (fail)
  go_wp2
  go_quiet (fail)
  go_wp2
  go_quiet (fail)
  go_wp2;go_ret
  exact QT (Jd _).1 (Jd _).2 (((HC.out.set2 _).drewN _).set1 o_) (vS (Qr (vS (World.grownBy.refl _ _) _ _) _) _ _)
 ·clear hcell Hb
  go_enter Tryz.func201,Tryz.ntmps201
  go_wp2
  go_quiet (fail)
  go_wp2
  go_quiet (fail)
  go_wp2;go_ret
  exact QT (Jd _).1 (Jd _).2 (((HC.out.set2 _).drewN _).drewN _) (Qr (Qr (vS (World.grownBy.refl _ _) _ _) _) _)
theorem zp (W0:World) (v:Value) (zs:List Int) (g:Nat) (n:Int) (w:World) (h:RB W0 v zs) (hle:zs.length<=1048576) (hn:0<n) (hc:zx W0 v g w):
  Calls Tryz.prog 125 #[.pointer (some ⟨g,0,none⟩),.int .i64 n] w (Drawn W0 v g w n):=by
 by_cases h2:n<=256
 ·go_enter Tryz.func125,Tryz.ntmps125
  go_wp2_with fail
  refine(x8 W0 v zs g _ h hle hc).mono ?_
  rintro e w1 ⟨x,rfl,x0,x1,gc,gD⟩;have gd:¬n=0:=o_
  go_wp2;go_ret
  exact QT (Int.emod_nonneg _ o_) (Int.emod_lt_of_pos _ hn) gc gD
 ·go_enter Tryz.func125,Tryz.ntmps125
  go_wp2_with fail
  refine(x8 W0 v zs g _ h hle hc).mono ?_
  rintro e w1 ⟨x,rfl,x0,x1,gc,gD⟩
  go_wp2_with fail
  refine(x8 W0 v zs g _ h hle gc).mono ?_
  rintro e w2 ⟨y,rfl,y0,y1,gE,gm⟩
  go_wp2_with fail
  refine(x8 W0 v zs g _ h hle gE).mono ?_
  rintro e w3 ⟨z,rfl,z0,z1,Gy,gn⟩
  go_wp2_with fail
  refine(x8 W0 v zs g _ h hle Gy).mono ?_
  rintro e w4 ⟨u,rfl,u0,u1,FG,Gc⟩;have gd:¬n=0:=o_
  go_wp2;go_ret
  exact QT (Int.emod_nonneg _ o_) (Int.emod_lt_of_pos _ hn) FG (zb (zb (zb gD gm) gn) Gc)
end Go.Proofs.YtnjcpljhmhdhkaaGreat
