/- part 4 -/
import Derived.Test.YtnjcpljhmhdhkaaGreatTPk3
import Derived.Deep.DeepCutAuto
import Derived.Test.YtnjcpljhmhdhkaaGreatProg
import Derived.Lib.Small
import Derived.Lib.Walk
import Derived.Lib.BitFns
import Derived.Lib.Strings
import Derived.OrdersHeld
import Derived.Deep.RegionHeld3
import Derived.StillTail
import Derived.Deep.AppendSrc
import Derived.Deep.AppendLies
import Derived.Test.YtnjcpljhmhdhkaaGreatRows
import Derived.ProofKit
import Derived.OpenShut
import Derived.Lib.SmallJoins
import Derived.Carry
import Derived.BigRegion
import Derived.Outline
import Derived.Deep.QuietTactic
import Derived.BigQuiet
import Derived.Deep.RegionWith
set_option linter.unusedSimpArgs false
set_option linter.unusedVariables false
set_option maxRecDepth 100000
set_option maxHeartbeats 4000000
namespace Go.Proofs.YtnjcpljhmhdhkaaGreat
open Go.RowKit
def OwnW (base:Nat) (w:World) (vn vl:Value) (ns ls:List (Int×Int)):Prop:=
 OwnP 106 base w vn ns/\OwnP 108 base w vl ls/\∀k,vn.ownBlock=some k->vl.ownBlock=some k->False
theorem OwnW.kept {base:Nat} {w w':World} {vn vl:Value} {ns ls:List (Int×Int)} (h:OwnW base w vn vl ns ls) (hb:Below w.heap.size w w'):OwnW base w' vn vl ns ls:=⟨h.1.kept hb,h.2.1.kept hb,h.2.2⟩
theorem OwnW.mono {base base':Nat} {w:World} {vn vl:Value} {ns ls:List (Int×Int)} (h:OwnW base w vn vl ns ls) (hb:base'<=base):OwnW base' w vn vl ns ls:=⟨h.1.mono hb,h.2.1.mono hb,h.2.2⟩
def RetW (ns ls:List (Int×Int)) (w:World) (e:Ending) (w':World):Prop:=∃An cn Al cl,e= .returned (.agg #[.slice An ns.length cn,.slice Al ls.length cl])/\OwnW w.heap.size w' (.slice An ns.length cn) (.slice Al ls.length cl) ns ls/\Below w.heap.size w w'
attribute [local go_sem ↓] zr Qx zq QB
theorem Qo (v u:Value) (zs ys:List (Int×Int)) (w:World) (hv:RP w v zs) (hu:RP w u ys):
  CB_ 159 #[v,u] w (.bool (decide (zs=ys))):=by
 obtain⟨A,c,rfl,hc,hm,hcell⟩:=hv.form;obtain⟨A',c',rfl,R8,R9,cE⟩:=hu.form;unfold maxLen at hm R9
 by_cases Hm:zs.length=ys.length
 ·have e1:((zs.length:Int) != (ys.length:Int))=false:=by simp[Hm]
  have fN:=h_ Hm
  go_enter Tryz.func159,Tryz.ntmps159
  go_wp2
  go_loopw [13] (fun i wr=>∃k:Nat,k<=zs.length/\i= .int .i64 k/\Hid (zs.take k=ys.take k)/\Below w.heap.size w wr) (fun i _=>zs.length -(intOf i).toNat)
  case atStart=>exact⟨0,aab _,rfl,h_ (by simp),aaj _ _⟩
  case round=>
   obtain⟨k,hk,rfl,HT,Hd⟩:=hrel
   by_cases Hf:k<zs.length
   ·obtain⟨b,off,rfl,hb,Hz⟩:=hcell o_
    have Cy:k<ys.length:=by rw[<-fN.out];exact Hf
    obtain⟨b',off',rfl,gH,Cd⟩:=cE o_;obtain⟨k0,k1⟩:=Hz k Hf;obtain⟨j0,j1⟩:=Cd k Cy;have q0:=(Hd.cell (p:=⟨b,off+k*2,none⟩) hb).trans k0;have q1:=(Hd.cell (p:=⟨b,off+k*2+1,none⟩) hb).trans k1;have p0:=(Hd.cell (p:=⟨b',off'+k*2,none⟩) gH).trans j0;have p1:=(Hd.cell (p:=⟨b',off'+k*2+1,none⟩) gH).trans j1;have Cz:(0:Int)<=(k:Int):=o_
    have CS:(k:Int)<(zs.length:Int):=o_
    have NO:(k:Int)<(ys.length:Int):=o_
    cases Fz:prB zs[k].1 zs[k].2 ys[k].1 ys[k].2
    ·have HE:Hid (¬zs[k]=ys[k]):=h_ (fun h=>by rw[h,Q0] at Fz;cases Fz)
     go_wp2
     go_quiet (fail)
     go_wp2;go_ret
     refine⟨z8 ?_,by exact bel_⟩
     symm
     rw[aaJ];intro cF;exact HE.out (by simp[cF])
    ·have HE:Hid (zs[k]=ys[k]):=h_ (kl.1 Fz)
     go_wp2
     go_quiet (fail)
     go_wp2;go_roundw
     case rel=>exact⟨k+1,by omega,by go_num,h_ (vB HT.out Hf Cy HE.out),by exact bel_⟩
     case measure=>simp[intOf];omega
   ·have gn:zs.length<=k:=o_
    have rm:zs=ys:=by
     have h:=HT.out;rw[aaK gn,aaK (by rw[<-fN.out];exact gn)] at h;exact h
    have HE:=h_ rm;go_wp2;go_ret
    exact⟨z8 (by symm;simpa using HE.out),Hd⟩
 ·have e1:((zs.length:Int) != (ys.length:Int))=true:=by simp;omega
  have HE:Hid (¬zs=ys):=h_ (fun h=>Hm (by rw[h]))
  go_enter Tryz.func159,Tryz.ntmps159
  go_wp2;go_ret
  exact⟨z8 (by symm;simpa using HE.out),aaj _ _⟩
theorem Qn (v u:Value) (zs ys:List (Int×Int)) (w:World) (hv:RP w v zs) (hu:RP w u ys):
  CB_ 160 #[v,u] w (.bool (decide (zs=ys))):=by
 obtain⟨A,c,rfl,hc,hm,hcell⟩:=hv.form;obtain⟨A',c',rfl,R8,R9,cE⟩:=hu.form;unfold maxLen at hm R9
 by_cases Hm:zs.length=ys.length
 ·have e1:((zs.length:Int) != (ys.length:Int))=false:=by simp[Hm]
  have fN:=h_ Hm
  go_enter Tryz.func160,Tryz.ntmps160
  go_wp2
  go_loopw [13] (fun i wr=>∃k:Nat,k<=zs.length/\i= .int .i64 k/\Hid (zs.take k=ys.take k)/\Below w.heap.size w wr) (fun i _=>zs.length -(intOf i).toNat)
  case atStart=>exact⟨0,aab _,rfl,h_ (by simp),aaj _ _⟩
  case round=>
   obtain⟨k,hk,rfl,HT,Hd⟩:=hrel
   by_cases Hf:k<zs.length
   ·obtain⟨b,off,rfl,hb,Hz⟩:=hcell o_
    have Cy:k<ys.length:=by rw[<-fN.out];exact Hf
    obtain⟨b',off',rfl,gH,Cd⟩:=cE o_;obtain⟨k0,k1⟩:=Hz k Hf;obtain⟨j0,j1⟩:=Cd k Cy;have q0:=(Hd.cell (p:=⟨b,off+k*2,none⟩) hb).trans k0;have q1:=(Hd.cell (p:=⟨b,off+k*2+1,none⟩) hb).trans k1;have p0:=(Hd.cell (p:=⟨b',off'+k*2,none⟩) gH).trans j0;have p1:=(Hd.cell (p:=⟨b',off'+k*2+1,none⟩) gH).trans j1;have Cz:(0:Int)<=(k:Int):=o_
    have CS:(k:Int)<(zs.length:Int):=o_
    have NO:(k:Int)<(ys.length:Int):=o_
    cases Fz:prB zs[k].1 zs[k].2 ys[k].1 ys[k].2
    ·have HE:Hid (¬zs[k]=ys[k]):=h_ (fun h=>by rw[h,Q0] at Fz;cases Fz)
     go_wp2
     go_quiet (fail)
     go_wp2;go_ret
     refine⟨z8 ?_,by exact bel_⟩
     symm
     rw[aaJ];intro cF;exact HE.out (by simp[cF])
    ·have HE:Hid (zs[k]=ys[k]):=h_ (kl.1 Fz)
     go_wp2
     go_quiet (fail)
     go_wp2;go_roundw
     case rel=>exact⟨k+1,by omega,by go_num,h_ (vB HT.out Hf Cy HE.out),by exact bel_⟩
     case measure=>simp[intOf];omega
   ·have gn:zs.length<=k:=o_
    have rm:zs=ys:=by
     have h:=HT.out;rw[aaK gn,aaK (by rw[<-fN.out];exact gn)] at h;exact h
    have HE:=h_ rm;go_wp2;go_ret
    exact⟨z8 (by symm;simpa using HE.out),Hd⟩
 ·have e1:((zs.length:Int) != (ys.length:Int))=true:=by simp;omega
  have HE:Hid (¬zs=ys):=h_ (fun h=>Hm (by rw[h]))
  go_enter Tryz.func160,Tryz.ntmps160
  go_wp2;go_ret
  exact⟨z8 (by symm;simpa using HE.out),aaj _ _⟩
def qN (ns ls ns' ls':List (Int×Int)):Bool:=decide (ns=ns')&&decide (ls=ls')
theorem vK (v u:Value) (zs ys:List (Int×Int)) (b:Bool) (w:World) (hv:RP w v zs) (hu:RP w u ys) (hx:Hid (decide (zs=ys)=b)):
  CB_ 159 #[v,u] w (.bool b):=
 (Qo v u zs ys w hv hu).mono fun e w' ⟨he,hw⟩=>⟨he.trans (z8 hx.out),hw⟩
theorem Jk (vn vl un ul:Value) (ns ls ns' ls':List (Int×Int)) (w:World) (hn:RP w vn ns) (hl:RP w vl ls) (bQ:RP w un ns') (Gq:RP w ul ls'):
  CB_ 88 #[.agg #[vn,vl],.agg #[un,ul]] w (.bool (qN ns ls ns' ls')):=by
 cases h1:decide (ns=ns')
 ·have HF:Hid (qN ns ls ns' ls'=false):=h_ (by simp[qN,h1])
  have H1:=h_ h1
  go_enter Tryz.func88,Tryz.ntmps88
  go_wp2_with fail
  refine(vK _ _ ns ns' _ _ (hn.below bel_) (bQ.below bel_) H1).mono ?_
  rintro e w1 ⟨rfl,Hb⟩;go_wp2;go_ret
  exact⟨z8 HF.out.symm,by exact bel_⟩
 ·have HF:Hid (qN ns ls ns' ls'=decide (ls=ls')):=h_ (by simp[qN,h1])
  have H1:=h_ h1
  go_enter Tryz.func88,Tryz.ntmps88
  go_wp2_with fail
  refine(vK _ _ ns ns' _ _ (hn.below bel_) (bQ.below bel_) H1).mono ?_
  rintro e w1 ⟨rfl,Hb⟩;(have gl:=bcC Hb);have H7:=Hb.size;(try simp at H7)
  have Ha:Below w.heap.size w w1:=bel_
  go_wp2_with fail
  refine(Qn _ _ ls ls' _ (hl.below Ha) (Gq.below Ha)).mono ?_
  rintro e w2 ⟨rfl,Hh⟩;rw[<-HF.out];go_wp2;go_ret
  exact⟨rfl,by exact bel_⟩
attribute [local go_sem ↓] zr zq zU zT
def ja (ax ay bx by':Int):Int:=if by'>ay∨(by'=ay/\bx>ax) then 0 else 1
def befB (ax ay bx by' cx cy:Int):Bool:=
 zh ax ay&&zh bx by'&&zh cx cy&&(if ja ax ay bx by'=ja ax ay cx cy then decide (0<q8 ax ay bx by' cx cy) else decide (ja ax ay bx by'<ja ax ay cx cy))
theorem ZJ (ax ay bx by':Int) (w:World):
  CB_ 276 #[.agg #[.int .i64 ax,.int .i64 ay],.agg #[.int .i64 bx,.int .i64 by']] w (.int .i64 (ja ax ay bx by')):=by
 go_enter Tryz.func276,Tryz.ntmps276
 go_wp2
 all_goals go_ret
 all_goals refine⟨zi ?_,by exact bel_⟩
 all_goals unfold ja
 all_goals first|(rw[aao o_];done)|(rw[aaq o_];done)|(simp_all;done)|(simp_all;omega)
theorem Jw {ax ay bx by' cx cy:Int} (h:¬(zh ax ay=true/\zh bx by'=true/\zh cx cy=true)):befB ax ay bx by' cx cy=false:=by
 unfold befB
 cases h1:zh ax ay<;>cases h2:zh bx by'<;>cases h3:zh cx cy<;>simp_all
theorem z31 (ax ay bx by' cx cy:Int) (w:World):
  Calls Tryz.prog 272 #[.agg #[.int .i64 ax,.int .i64 ay],.agg #[.int .i64 bx,.int .i64 by'],.agg #[.int .i64 cx,.int .i64 cy]] w
   fun e w'=>e= .returned (.bool (befB ax ay bx by' cx cy))/\Below w.heap.size w w':=by
 cases h1:zh ax ay
 ·have HR:=h_ (Jw (ax:=ax) (ay:=ay) (bx:=bx) (by':=by') (cx:=cx) (cy:=cy) (by rw[h1];simp))
  go_enter Tryz.func272,Tryz.ntmps272
  go_wp2_with fail
  refine(zO _ _ _ _ h1).mono ?_
  rintro e w1 ⟨rfl,Hb⟩;go_wp2;go_ret
  exact⟨z8 HR.out.symm,by exact bel_⟩
 cases h2:zh bx by'
 ·have HR:=h_ (Jw (ax:=ax) (ay:=ay) (bx:=bx) (by':=by') (cx:=cx) (cy:=cy) (by rw[h2];simp))
  go_enter Tryz.func272,Tryz.ntmps272
  go_wp2_with fail
  refine(zO _ _ _ _ h1).mono ?_
  rintro e w1 ⟨rfl,Hb⟩;(have gl:=bcC Hb);have H7:=Hb.size;(try simp at H7)
  go_wp2_with fail
  refine(zO _ _ _ _ h2).mono ?_
  rintro e w2 ⟨rfl,Hh⟩;go_wp2;go_ret
  exact⟨z8 HR.out.symm,by exact bel_⟩
 cases h3:zh cx cy
 ·have HR:=h_ (Jw (ax:=ax) (ay:=ay) (bx:=bx) (by':=by') (cx:=cx) (cy:=cy) (by rw[h3];simp))
  go_enter Tryz.func272,Tryz.ntmps272
  go_wp2_with fail
  refine(zO _ _ _ _ h1).mono ?_
  rintro e w1 ⟨rfl,Hb⟩;(have gl:=bcC Hb);have H7:=Hb.size;(try simp at H7);(try have Fr:=p2_ w w1)
  go_wp2_with fail
  refine(zO _ _ _ _ h2).mono ?_
  rintro e w2 ⟨rfl,Hh⟩;(have gV:=bcC Hh);have Gp:=Hh.size;(try simp at Gp);(try have Gc:=p0_ w w2);(try have Gd:=p1_ w w2);(try have fu:=p2_ w w2)
  go_wp2_with fail
  refine(zO _ _ _ _ h3).mono ?_
  rintro e w3 ⟨rfl,Hg⟩;go_wp2;go_ret
  exact⟨z8 HR.out.symm,by exact bel_⟩
 ·have HR:Hid (befB ax ay bx by' cx cy=(if ja ax ay bx by'=ja ax ay cx cy then decide (0<q8 ax ay bx by' cx cy) else decide (ja ax ay bx by'<ja ax ay cx cy))):=h_ (by unfold befB;rw[h1,h2,h3];rfl)
  by_cases rq:ja ax ay bx by'=ja ax ay cx cy
  ·have e1:(ja ax ay bx by' != ja ax ay cx cy)=false:=by simp[rq]
   rw[aao rq] at HR;clear rq
   go_enter Tryz.func272,Tryz.ntmps272
   go_wp2_with fail
   refine(zO _ _ _ _ h1).mono ?_
   rintro e w1 ⟨rfl,Hb⟩;(have gl:=bcC Hb);have H7:=Hb.size;(try simp at H7);(try have gY:=p0_ w w1);(try have Gv:=p1_ w w1);(try have Fr:=p2_ w w1)
   go_wp2_with fail
   refine(zO _ _ _ _ h2).mono ?_
   rintro e w2 ⟨rfl,Hh⟩;(have gV:=bcC Hh);have Gp:=Hh.size;(try simp at Gp);(try have Gc:=p0_ w w2);(try have Gd:=p1_ w w2);(try have fu:=p2_ w w2)
   go_wp2_with fail
   refine(zO _ _ _ _ h3).mono ?_
   rintro e w3 ⟨rfl,Hg⟩;(have GK:=bcC Hg);have fC:=Hg.size;(try simp at fC);(try have F1:=p0_ w w3);(try have F2:=p1_ w w3);(try have Me:=p2_ w w3)
   go_wp2_with fail
   (refine z7 k_ k_ (fun hG=>?_))
   repeat (go_big_quiet_step ((go_at_call 276;exact zE (ZJ _ _ _ _ _))))
   (refine wpQuiet_nil ?_);(clear hG);(rintro w4 ⟨⟨_,H5⟩,rfl⟩);(try dsimp only);(have cf:=bcC H5);have BA:=H5.size;(try simp at BA);(try have Rn:=p0_ w w4);(try have Ro:=p1_ w w4);(try have Rp:=p2_ w w4)
   go_wp2_with fail
   refine(Qe _ _ _ _ _ _ _ h1 h2 h3).mono ?_
   rintro e w5 ⟨rfl,gk⟩;go_wp2;go_ret
   exact⟨z8 HR.out.symm,by exact bel_⟩
  ·have e1:(ja ax ay bx by' != ja ax ay cx cy)=true:=by simp[rq]
   rw[aaq rq] at HR;clear rq
   go_enter Tryz.func272,Tryz.ntmps272
   go_wp2_with fail
   refine(zO _ _ _ _ h1).mono ?_
   rintro e w1 ⟨rfl,Hb⟩;(have gl:=bcC Hb);have H7:=Hb.size;(try simp at H7);(try have gY:=p0_ w w1);(try have Gv:=p1_ w w1);(try have Fr:=p2_ w w1)
   go_wp2_with fail
   refine(zO _ _ _ _ h2).mono ?_
   rintro e w2 ⟨rfl,Hh⟩;(have gV:=bcC Hh);have Gp:=Hh.size;(try simp at Gp);(try have Gc:=p0_ w w2);(try have Gd:=p1_ w w2);(try have fu:=p2_ w w2)
   go_wp2_with fail
   refine(zO _ _ _ _ h3).mono ?_
   rintro e w3 ⟨rfl,Hg⟩;(have GK:=bcC Hg);have fC:=Hg.size;(try simp at fC);(try have F1:=p0_ w w3);(try have F2:=p1_ w w3);(try have Me:=p2_ w w3)
   go_wp2_with fail
   (refine z7 k_ k_ (fun hG=>?_))
   repeat (go_big_quiet_step ((go_at_call 276;exact zE (ZJ _ _ _ _ _))))
   (refine wpQuiet_nil ?_);(clear hG);(rintro w4 ⟨⟨_,H5⟩,rfl⟩);(try dsimp only);(have cf:=bcC H5);have BA:=H5.size;(try simp at BA);(try have Rn:=p0_ w w4);(try have Ro:=p1_ w w4);(try have Rp:=p2_ w w4)
   go_wp2_with fail
   (refine z7 k_ k_ (fun hG=>?_))
   repeat (go_big_quiet_step ((go_at_call 276;exact zE (ZJ _ _ _ _ _))))
   (refine wpQuiet_nil ?_);(clear hG);(rintro w5 ⟨⟨_,gk⟩,rfl⟩);(try dsimp only)
   go_wp2;go_ret
   exact⟨z8 HR.out.symm,by exact bel_⟩
def zd (ls:List Pr) (d:Nat):Int:=if d%2=1 then(ndI ls (d/2:Nat)).2 else(ndI ls (d/2:Nat)).1
def dTo (ls:List Pr) (d:Nat):Int:=if d%2=1 then(ndI ls (d/2:Nat)).1 else(ndI ls (d/2:Nat)).2
theorem tdiv2 (d:Nat):Int.tdiv (d:Int) 2=((d/2:Nat):Int):=by
 rw[Int.tdiv_eq_ediv_of_nonneg o_];omega
theorem tmod2 (d:Nat):Int.tmod (d:Int) 2=((d%2:Nat):Int):=by
 rw[Int.tmod_eq_emod_of_nonneg o_];omega
theorem kA (vn vl:Value) (ls:List Pr) (d:Nat) (w:World) (hl:RP w vl ls) (hd:d<2*ls.length):
  CB_ 192 #[.agg #[vn,vl],.int .i64 d] w (.tuple #[.int .i64 (zd ls d),.int .i64 (dTo ls d)]):=by
 obtain⟨A,c,rfl,hc,hm,hcell⟩:=hl.formI;unfold maxLen at hm;clear hl;obtain⟨b,off,rfl,hb,Hz⟩:=hcell o_;obtain⟨k0,k1⟩:=Hz (d/2) o_;have t1:=tdiv2 d;have t2:=tmod2 d;have HF:Hid (zd ls d=if d%2=1 then(ndI ls (d/2:Nat)).2 else(ndI ls (d/2:Nat)).1):=h_ rfl;have HG:Hid (dTo ls d=if d%2=1 then(ndI ls (d/2:Nat)).1 else(ndI ls (d/2:Nat)).2):=h_ rfl;have hq:d/2<ls.length:=o_
 have rs:((d/2:Nat):Int)<(ls.length:Int):=o_
 have rt:(0:Int)<=((d/2:Nat):Int):=o_
 have hr:d%2=0∨d%2=1:=o_
 generalize d/2=q at*;generalize ndI ls (q:Int)=L at*;obtain⟨l1,l2⟩:=L;simp only at k0 k1 HF HG
 clear Hz hcell
 rcases hr with hr|hr
 ·rw[hr] at HF HG t2
  have e1:((0:Nat):Int)=0:=rfl
  go_enter Tryz.func192,Tryz.ntmps192
  go_wp2
  go_quiet (fail)
  go_wp2;exact bodyPost_ret (v:= .tuple #[.int .i64 l1,.int .i64 l2]) (by simp[results,Tryz.results192,go_sem]) rfl ⟨by rw[HF.out,HG.out];rfl,by exact bel_⟩
 ·rw[hr] at HF HG t2
  have e1:((1:Nat):Int)=1:=rfl
  go_enter Tryz.func192,Tryz.ntmps192
  go_wp2
  go_quiet (fail)
  go_wp2;exact bodyPost_ret (v:= .tuple #[.int .i64 l2,.int .i64 l1]) (by simp[results,Tryz.results192,go_sem]) rfl ⟨by rw[HF.out,HG.out];rfl,by exact bel_⟩
attribute [local go_sem ↓] zr Qx zq QB
def idxP (l:List Pr) (p:Pr):Int:=if p∈l then(l.idxOf p:Int) else -1
theorem z98 {l:List Pr} {p:Pr} (h:p∉l):idxP l p= -1:=by simp[idxP,h]
theorem z8X {l:List Pr} {p:Pr} {k:Nat} (hk:k<l.length) (h:p∉l.take k) (hp:ndI l k=p):idxP l p=k:=by
 rw[qd l k hk] at hp
 have e:l=l.take k++p::l.drop (k+1):=by
  rw[<-hp,<-aas hk,abo]
 have hm:p∈l:=by rw[e];simp
 unfold idxP;rw[aao hm]
 have:l.idxOf p=k:=by
  rw[e,List.idxOf_append,aaq h,List.idxOf_cons_self];simp;omega
 rw[this]
theorem z3q {l:List Pr} {p:Pr}:(0<=idxP l p)↔p∈l:=by
 unfold idxP
 by_cases h:p∈l
 ·rw[aao h];exact⟨fun _=>h,fun _=>by omega⟩
 ·rw[aaq h];exact⟨fun h'=>absurd h' o_,fun h'=>absurd h' h⟩
theorem RP.take {w:World} {A:Option Addr} {n c:Nat} {l:List (Int×Int)} (h:RP w (.slice A n c) l) (k:Nat) (hk:k<=l.length):RP w (.slice A k c) (l.take k):=by
 obtain⟨h0,A',c',hv,h1,h2,h3⟩:=h
 cases hv
 have Hm:(l.take k).length =k:=by simp;omega
 refine⟨qo prc 2 (fun _=>rfl) _,A,c,by rw[Hm],by omega,by omega,fun hn=>?_⟩
 obtain⟨b,off,e1,e2,e3⟩:=h3 o_;refine⟨b,off,e1,e2,fun j u hu=>e3 j u ?_⟩
 have hj:=(List.getElem?_eq_some_iff.1 hu).1;rw[qo prc 2 (fun _=>rfl),Hm] at hj;have g1:=yA prc 2 (fun _=>rfl) (l.take k) (j/2) (j%2) o_ o_;have g2:=yA prc 2 (fun _=>rfl) l (j/2) (j%2) o_ o_;rw[show j/2*2+j%2=j by omega] at g1 g2;rw[g2,<-hu,g1];simp
theorem XE (v:Value) (l:List Pr) (x y:Int) (w:World) (h:RP w v l):
  CB_ 212 #[v,.agg #[.int .i64 x,.int .i64 y]] w (.int .i64 (idxP l (x,y))):=by
 obtain⟨A,c,rfl,hc,hm,hcell⟩:=h.formI;unfold maxLen at hm;clear h
 go_enter Tryz.func212,Tryz.ntmps212
 go_wp2
 go_loopw [8] (fun i wr=>∃k:Nat,k<=l.length/\i= .int .i64 k/\Hid ((x,y)∉l.take k)/\Blk wr w.heap.size 106 #[.int .i64 x,.int .i64 y]/\Below w.heap.size w wr) (fun i _=>l.length -(intOf i).toNat)
 case atStart=>exact⟨0,aab _,rfl,h_ (by simp),Blk.newAt rfl,by exact bel_⟩
 case round=>
  obtain⟨k,hk,rfl,HT,hB,Hd⟩:=hrel
  by_cases Hf:k<l.length
  ·obtain⟨b,off,rfl,hb,Hz⟩:=hcell o_
   obtain⟨k0,k1⟩:=Hz k Hf;have q0:=(Hd.cell (p:=⟨b,off+k*2,none⟩) hb).trans k0;have q1:=(Hd.cell (p:=⟨b,off+k*2+1,none⟩) hb).trans k1;have Cz:(0:Int)<=(k:Int):=o_
   have CS:(k:Int)<(l.length:Int):=o_
   obtain⟨a_0,a_1⟩:=hB.c2;clear k0 k1 Hz hcell
   cases Fz:prB x y (ndI l k).1 (ndI l k).2
   ·have HX:Hid ((x,y)∉l.take (k+1)):=h_ (by
     rw[aax Hf,aaI,aa9,<-qd l k Hf];rintro(h|h)
     ·exact HT.out h
     ·rw[<-h] at Fz
      simp[Q0] at Fz)
    go_wp2
    go_quiet (fail)
    go_wp2;go_roundw
    case rel=>exact⟨k+1,by omega,by go_num,HX,hB,by exact bel_⟩
    case measure=>simp[intOf];omega
   ·have HX:Hid (idxP l (x,y)=k):=h_ (z8X Hf HT.out (kl.1 Fz).symm)
    go_wp2
    go_quiet (fail)
    go_wp2;go_ret
    exact⟨zi HX.out.symm,by exact bel_⟩
  ·have gn:l.length<=k:=o_
   have h:=HT.out;rw[aaK gn] at h;have HX:Hid (idxP l (x,y)= -1):=h_ (z98 h);clear h hcell;go_wp2;go_ret
   exact⟨zi HX.out.symm,Hd⟩
theorem QV (v:Value) (l:List Pr) (x y:Int) (b:Bool) (w:World) (h:RP w v l) (hb:decide ((x,y)∈l)=b):
  CB_ 155 #[v,.agg #[.int .i64 x,.int .i64 y]] w (.bool b):=by
 obtain⟨z,hz⟩:∃z,idxP l (x,y)=z:=⟨_,rfl⟩;have HZ:Hid (decide (0<=z)=b):=h_ (by rw[<-hz,<-hb];simp[z3q])
 go_enter Tryz.func155,Tryz.ntmps155
 go_wp2_with fail
 refine(XE _ l _ _ _ (h.below bel_)).mono ?_
 rw[hz];rintro e w1 ⟨rfl,Hb⟩;go_wp2;go_ret
 exact⟨z8 HZ.out,by exact bel_⟩
theorem z5G (x:Int) (w:World) (h0:0<=x) (h:x<=12):
  Calls Tryz.prog 285 #[.int .u64 x] w fun e w'=>(∃k:Int,e= .returned (.int .i64 k))/\w=w':=by
 go_enter Tryz.func285,Tryz.ntmps285
 go_wp2
 all_goals go_ret
 all_goals exact⟨⟨_,rfl⟩,rfl⟩
theorem z4q (x:Int) (w:World) (h0:0<=x) (h:x<=12):
  Calls Tryz.prog 274 #[.int .u64 x] w fun e w'=>(∃k:Int,e= .returned (.int .i64 k))/\w=w':=by
 go_enter Tryz.func274,Tryz.ntmps274
 go_wp2_with (go_at_call 285;refine(z5G _ _ h0 h).mono ?_;rintro e w' ⟨⟨k,rfl⟩,rfl⟩)
 all_goals go_ret
 all_goals exact⟨⟨_,rfl⟩,rfl⟩
section
variable {P:Program} {md:Region.Mode} {ops:Array Oper} {Q:Exit->Act->World->Prop} {S:World->Prop}
def anyD (P:Program) (md:Region.Mode) (ops:Array Oper) (Q:Exit->Act->World->Prop) (S:World->Prop) (n:Nat):Nat->Array Bool->Act->World->Prop
 |0,listed,a,w=>Region.ready md ops listed=[]/\Q .normal a w
 |fuel+1,listed,a,w=>
  (Region.ready md ops listed=[]->Q .normal a w)/\
  ∀i∈Region.ready md ops listed,wpOp P ops Q i (fun a' w'=>(i≠n->S w')/\anyD P md ops Q S n fuel (listed.setIfInBounds i true) a' w') a w
theorem z1W {n:Nat}:∀(fuel:Nat) (listed:Array Bool) (a:Act) (w:World),anyD P md ops Q S n fuel listed a w->wpAny P md ops Q fuel listed a w
 |0,_,_,_,h=>h
 |fuel+1,_,_,_,h=>⟨h.1,fun i hi=>wpOp_mono (fun a' w' h'=>z1W fuel _ a' w' h'.2) (h.2 i hi)⟩
theorem z8d {n i:Nat} {oi on:Oper} {v:Value} (hi:ops[i]? =some oi) (Ct:ops[n]? =some on) (Ff:∃e∈on.after,Region.binds md e=true/\e.on=i) (BC:∀(j:Nat) (o:Oper) cs b,ops[j]? =some o->o.op≠ .select cs b)
  (hQ:∀c a w,Q (.panic c) (a.put oi.dst v) w->Q (.panic c) a w):
  ∀(fuel:Nat) (listed:Array Bool) (a:Act) (w:World),
   (∀j oj,ops[j]? =some oj->j≠i->listed.getD j true=false->(∀e∈oj.after,Region.binds md e=true->e.on≠i)->oi.apart ops oj=true)->
   i∈Region.ready md ops listed->YieldsIf P ops S oi v a->S w->
   anyD P md ops Q S n fuel (listed.setIfInBounds i true) (a.put oi.dst v) w->anyD P md ops Q S n (fuel+1) listed a w:=by
 intro fuel
 induction fuel with
 |zero=>
  intro listed a w _ hr hy hS H;refine⟨fun h=>(by rw[h] at hr;cases hr),fun j hj=>?_⟩
  by_cases FZ:j=i
  ·subst FZ
   exact hy.wpOp hi hS ⟨fun _=>hS,H⟩
  ·have:=ready_mono hj FZ
   rw[H.1] at this
   cases this
 |succ fuel ih=>
  intro listed a w cY hr hy hS H;refine⟨fun h=>(by rw[h] at hr;cases hr),fun j hj=>?_⟩
  by_cases FZ:j=i
  ·subst FZ
   exact hy.wpOp hi hS ⟨fun _=>hS,H⟩
  ·have h1:=H.2 j (ready_mono hj FZ)
   obtain⟨BD,oj,mA,GU⟩:=mem_ready.1 hj
   have mC:∀e∈oj.after,Region.binds md e=true->e.on≠i:=fun e he hb cF=>by
    have g1:=GU e he hb;have g0:=(mem_ready.1 hr).1;rw[cF] at g1
    rcases abj i listed.size with h'|h'
    ·simp[h'] at g0 g1;rw[g0] at g1;cases g1
    ·simp[abw h'] at g1
   have wY:j≠n:=by
    rintro rfl;rw[Ct] at mA
    cases mA
    obtain⟨e,he,hb,cF⟩:=Ff;exact mC e he hb cF
   have h2:=wpOp_putIf mA (cY j oj mA FZ BD mC) (fun cs b=>BC i oi cs b hi) (fun cs b=>BC j oj cs b mA) hQ hy h1
   have CA:∀k ok,ops[k]? =some ok->k≠i->(listed.setIfInBounds j true).getD k true=false->
     (∀e∈ok.after,Region.binds md e=true->e.on≠i)->oi.apart ops ok=true:=fun k ok hk ua GV fF=>by
    refine cY k ok hk ua ?_ fF
    by_cases cm:j=k
    ·subst cm;exact BD
    ·rw[getD_set_ne true cm] at GV;exact GV
   refine wpOp_mono (fun a' w' h3=>⟨fun _=>h3.2.1 wY,ih (listed.setIfInBounds j true) a' w' CA (ready_mono hr (Ne.symm FZ)) h3.1 (h3.2.1 wY) ?_⟩) h2
   rw[Array.setIfInBounds_comm _ _ FZ];exact h3.2.2
theorem qp {i:Nat} {o:Oper} (h:(ops.toList.drop i).head? =some o):ops[i]? =some o:=by
 rw[List.head?_drop,Array.getElem?_toList] at h;exact h
theorem zv {n i:Nat} {oi on:Oper} {v:Value} {fuel:Nat} {listed:Array Bool} {a:Act} {w:World} (fP:(ops.toList.drop i).head? =some oi) (np:(ops.toList.drop n).head? =some on) (Ff:(on.after.any fun e=>Region.binds md e&&e.on==i)=true)
  (hs:Region.noSelect ops=true) (hf:Region.free md ops listed i=true) (hr:(Region.ready md ops listed).contains i=true)
  (hQ:∀c a w,Q (.panic c) (a.put oi.dst v) w->Q (.panic c) a w) (hy:YieldsIf P ops S oi v a) (hS:S w)
  (h:anyD P md ops Q S n fuel (listed.setIfInBounds i true) (a.put oi.dst v) w):anyD P md ops Q S n (fuel+1) listed a w:=by
 have hi:=qp fP;have Ct:=qp np;refine z8d hi Ct ?_ (Region.noSelect_spec hs) hQ fuel listed a w (Region.free_spec hi hf) (by simpa using hr) hy hS h
 rw[Array.any_eq_true] at Ff;obtain⟨k,hk,h⟩:=Ff;rw[aaG] at h;exact⟨on.after[k],Array.getElem_mem hk,h.1,by simpa using h.2⟩
theorem qP {n i:Nat} {o:Oper} {fuel:Nat} {listed:Array Bool} {a:Act} {w:World} (FF:(ops.toList.drop i).head? =some o) (hr:Region.ready md ops listed=[i])
  (h:∀K':Act->World->Prop,(∀a w,(i≠n->S w)->((i≠n->S w)->anyD P md ops Q S n fuel (listed.setIfInBounds i true) a w)->K' a w)->if Region.wanted o (yielded ops a.tmps)=true then Oper.wp P o a w K' Q else K' (a.put o.dst undef) w):
  anyD P md ops Q S n (fuel+1) listed a w:=by
 have ho:=qp FF;refine⟨fun h0=>(by rw[hr] at h0;cases h0),fun j hj=>?_⟩
 rw[hr,aa9] at hj;subst hj;exact wpOp_step ho (fun K' hK=>h K' (fun a w hS hW=>hK a w ⟨hS,hW hS⟩))
theorem z9e {n i j:Nat} {o1 o2:Oper} {fuel:Nat} {listed:Array Bool} {a:Act} {w:World} (Hj:(ops.toList.drop i).head? =some o1) (Hn:(ops.toList.drop j).head? =some o2) (hr:Region.ready md ops listed=[i,j])
  (h1:∀K':Act->World->Prop,(∀a w,(i≠n->S w)->((i≠n->S w)->anyD P md ops Q S n fuel (listed.setIfInBounds i true) a w)->K' a w)->if Region.wanted o1 (yielded ops a.tmps)=true then Oper.wp P o1 a w K' Q else K' (a.put o1.dst undef) w)
  (h2:∀K':Act->World->Prop,(∀a w,(j≠n->S w)->((j≠n->S w)->anyD P md ops Q S n fuel (listed.setIfInBounds j true) a w)->K' a w)->if Region.wanted o2 (yielded ops a.tmps)=true then Oper.wp P o2 a w K' Q else K' (a.put o2.dst undef) w):
  anyD P md ops Q S n (fuel+1) listed a w:=by
 refine⟨fun h0=>(by rw[hr] at h0;cases h0),fun k hk=>?_⟩
 rw[hr] at hk;simp only[List.mem_cons,List.mem_nil_iff,or_false] at hk
 rcases hk with rfl|rfl
 ·exact wpOp_step (qp Hj) (fun K' hK=>h1 K' (fun a w hS hW=>hK a w ⟨hS,hW hS⟩))
 ·exact wpOp_step (qp Hn) (fun K' hK=>h2 K' (fun a w hS hW=>hK a w ⟨hS,hW hS⟩))
theorem xC {n:Nat} {listed:Array Bool} {a:Act} {w:World} (hr:Region.ready md ops listed=[]) (h:Q .normal a w):∀fuel,anyD P md ops Q S n fuel listed a w
 |0=>⟨hr,h⟩
 |_+1=>⟨fun _=>h,by rw[hr];simp⟩
theorem vO {id n:Nat} {a:Act} {w:World} (hm:P.follows .mixedOrders =true) (hS:S w.drew)
  (h:S w.drew->anyD P .any ops Q S n ops.size (Array.replicate ops.size false) a w.drew):(Code.region id ops true).wp P Q a w:=
 wp_region_any hm (z1W _ _ _ _ (h hS))
end
section
variable {P:Program} {md:Region.Mode} {ops:Array Oper} {Q:Exit->Act->World->Prop} {S:World->Prop}
def anyE (P:Program) (md:Region.Mode) (ops:Array Oper) (Q:Exit->Act->World->Prop) (S:World->Prop) (n:Nat):Nat->Array Bool->Act->World->Prop
 |0,listed,a,w=>Region.ready md ops listed=[]/\Q .normal a w
 |fuel+1,listed,a,w=>
  (Region.ready md ops listed=[]->Q .normal a w)/\
  ∀i∈Region.ready md ops listed,wpOp P ops Q i (fun a' w'=>((listed.setIfInBounds i true).getD n true=false->S w')/\anyE P md ops Q S n fuel (listed.setIfInBounds i true) a' w') a w
theorem z3b {n:Nat}:∀(fuel:Nat) (listed:Array Bool) (a:Act) (w:World),anyE P md ops Q S n fuel listed a w->wpAny P md ops Q fuel listed a w
 |0,_,_,_,h=>h
 |fuel+1,_,_,_,h=>⟨h.1,fun i hi=>wpOp_mono (fun a' w' h'=>z3b fuel _ a' w' h'.2) (h.2 i hi)⟩
theorem z8u {n i:Nat} {oi on:Oper} {v:Value} (hi:ops[i]? =some oi) (Ct:ops[n]? =some on) (Ff:∃e∈on.after,Region.binds md e=true/\e.on=i) (BC:∀(j:Nat) (o:Oper) cs b,ops[j]? =some o->o.op≠ .select cs b)
  (hQ:∀c a w,Q (.panic c) (a.put oi.dst v) w->Q (.panic c) a w):
  ∀(fuel:Nat) (listed:Array Bool) (a:Act) (w:World),
   (∀j oj,ops[j]? =some oj->j≠i->listed.getD j true=false->(∀e∈oj.after,Region.binds md e=true->e.on≠i)->oi.apart ops oj=true)->
   i∈Region.ready md ops listed->listed.getD n true=false->YieldsIf P ops S oi v a->S w->
   anyE P md ops Q S n fuel (listed.setIfInBounds i true) (a.put oi.dst v) w->anyE P md ops Q S n (fuel+1) listed a w:=by
 intro fuel
 induction fuel with
 |zero=>
  intro listed a w _ hr hn hy hS H;refine⟨fun h=>(by rw[h] at hr;cases hr),fun j hj=>?_⟩
  by_cases FZ:j=i
  ·subst FZ
   exact hy.wpOp hi hS ⟨fun _=>hS,H⟩
  ·have:=ready_mono hj FZ
   rw[H.1] at this
   cases this
 |succ fuel ih=>
  intro listed a w cY hr hn hy hS H;refine⟨fun h=>(by rw[h] at hr;cases hr),fun j hj=>?_⟩
  by_cases FZ:j=i
  ·subst FZ
   exact hy.wpOp hi hS ⟨fun _=>hS,H⟩
  ·have h1:=H.2 j (ready_mono hj FZ)
   obtain⟨BD,oj,mA,GU⟩:=mem_ready.1 hj
   have mC:∀e∈oj.after,Region.binds md e=true->e.on≠i:=fun e he hb cF=>by
    have g1:=GU e he hb;have g0:=(mem_ready.1 hr).1;rw[cF] at g1
    rcases abj i listed.size with h'|h'
    ·simp[h'] at g0 g1;rw[g0] at g1;cases g1
    ·simp[abw h'] at g1
   have wY:j≠n:=by
    rintro rfl;rw[Ct] at mA
    cases mA
    obtain⟨e,he,hb,cF⟩:=Ff;exact mC e he hb cF
   have Gg:i≠n:=by
    rintro rfl;rw[Ct] at hi
    cases hi
    obtain⟨e,he,hb,cF⟩:=Ff;obtain⟨h0,o',FF,WH⟩:=mem_ready.1 hr;rw[Ct] at FF
    cases FF
    have g1:=WH e he hb;rw[cF] at g1
    rcases abj i listed.size with h'|h'
    ·simp[h'] at h0 g1;rw[h0] at g1;cases g1
    ·simp[abw h'] at g1
   have h2:=wpOp_putIf mA (cY j oj mA FZ BD mC) (fun cs b=>BC i oi cs b hi) (fun cs b=>BC j oj cs b mA) hQ hy h1
   have CA:∀k ok,ops[k]? =some ok->k≠i->(listed.setIfInBounds j true).getD k true=false->
     (∀e∈ok.after,Region.binds md e=true->e.on≠i)->oi.apart ops ok=true:=fun k ok hk ua GV fF=>by
    refine cY k ok hk ua ?_ fF
    by_cases cm:j=k
    ·subst cm;exact BD
    ·rw[getD_set_ne true cm] at GV;exact GV
   have hnf:((listed.setIfInBounds i true).setIfInBounds j true).getD n true=false:=by rw[getD_set_ne true wY,getD_set_ne true Gg];exact hn
   refine wpOp_mono (fun a' w' h3=>⟨fun _=>h3.2.1 hnf,ih (listed.setIfInBounds j true) a' w' CA (ready_mono hr (Ne.symm FZ)) (by rw[getD_set_ne true wY];exact hn) h3.1 (h3.2.1 hnf) ?_⟩) h2
   rw[Array.setIfInBounds_comm _ _ FZ];exact h3.2.2
theorem z7V {n i:Nat} {oi:Oper} {v:Value} (hi:ops[i]? =some oi) (Gg:i≠n) (BC:∀(j:Nat) (o:Oper) cs b,ops[j]? =some o->o.op≠ .select cs b)
  (hQ:∀c a w,Q (.panic c) (a.put oi.dst v) w->Q (.panic c) a w):
  ∀(fuel:Nat) (listed:Array Bool) (a:Act) (w:World),
   (∀j oj,ops[j]? =some oj->j≠i->listed.getD j true=false->(∀e∈oj.after,Region.binds md e=true->e.on≠i)->oi.apart ops oj=true)->
   i∈Region.ready md ops listed->YieldsIf P ops (fun _=>True) oi v a->(listed.getD n true=false->S w)->
   anyE P md ops Q S n fuel (listed.setIfInBounds i true) (a.put oi.dst v) w->anyE P md ops Q S n (fuel+1) listed a w:=by
 intro fuel
 induction fuel with
 |zero=>
  intro listed a w _ hr hy hS H;refine⟨fun h=>(by rw[h] at hr;cases hr),fun j hj=>?_⟩
  by_cases FZ:j=i
  ·subst FZ
   exact hy.wpOp hi trivial ⟨fun h=>hS (by rw[getD_set_ne true Gg] at h;exact h),H⟩
  ·have:=ready_mono hj FZ
   rw[H.1] at this
   cases this
 |succ fuel ih=>
  intro listed a w cY hr hy hS H;refine⟨fun h=>(by rw[h] at hr;cases hr),fun j hj=>?_⟩
  by_cases FZ:j=i
  ·subst FZ
   exact hy.wpOp hi trivial ⟨fun h=>hS (by rw[getD_set_ne true Gg] at h;exact h),H⟩
  ·have h1:=H.2 j (ready_mono hj FZ)
   obtain⟨BD,oj,mA,GU⟩:=mem_ready.1 hj
   have mC:∀e∈oj.after,Region.binds md e=true->e.on≠i:=fun e he hb cF=>by
    have g1:=GU e he hb;have g0:=(mem_ready.1 hr).1;rw[cF] at g1
    rcases abj i listed.size with h'|h'
    ·simp[h'] at g0 g1;rw[g0] at g1;cases g1
    ·simp[abw h'] at g1
   have h2:=wpOp_putIf mA (cY j oj mA FZ BD mC) (fun cs b=>BC i oi cs b hi) (fun cs b=>BC j oj cs b mA) hQ hy h1
   have CA:∀k ok,ops[k]? =some ok->k≠i->(listed.setIfInBounds j true).getD k true=false->
     (∀e∈ok.after,Region.binds md e=true->e.on≠i)->oi.apart ops ok=true:=fun k ok hk ua GV fF=>by
    refine cY k ok hk ua ?_ fF
    by_cases cm:j=k
    ·subst cm;exact BD
    ·rw[getD_set_ne true cm] at GV;exact GV
   have Rq:((listed.setIfInBounds i true).setIfInBounds j true)=((listed.setIfInBounds j true).setIfInBounds i true):=Array.setIfInBounds_comm _ _ (Ne.symm FZ);refine wpOp_mono (fun a' w' h3=>?_) h2
   have hs:(listed.setIfInBounds j true).getD n true=false->S w':=fun hf=>h3.2.1 (by rw[Rq,getD_set_ne true Gg];exact hf)
   refine⟨hs,ih (listed.setIfInBounds j true) a' w' CA (ready_mono hr (Ne.symm FZ)) h3.1 hs ?_⟩
   rw[<-Rq];exact h3.2.2
theorem z9I {n i:Nat} {oi on:Oper} {v:Value} {fuel:Nat} {listed:Array Bool} {a:Act} {w:World} (fP:(ops.toList.drop i).head? =some oi) (np:(ops.toList.drop n).head? =some on) (Ff:(on.after.any fun e=>Region.binds md e&&e.on==i)=true)
  (hs:Region.noSelect ops=true) (hf:Region.free md ops listed i=true) (hr:(Region.ready md ops listed).contains i=true) (hn:listed.getD n true=false)
  (hQ:∀c a w,Q (.panic c) (a.put oi.dst v) w->Q (.panic c) a w) (hy:YieldsIf P ops S oi v a) (hS:S w)
  (h:anyE P md ops Q S n fuel (listed.setIfInBounds i true) (a.put oi.dst v) w):anyE P md ops Q S n (fuel+1) listed a w:=by
 have hi:=qp fP;have Ct:=qp np;refine z8u hi Ct ?_ (Region.noSelect_spec hs) hQ fuel listed a w (Region.free_spec hi hf) (by simpa using hr) hn hy hS h
 rw[Array.any_eq_true] at Ff;obtain⟨k,hk,h⟩:=Ff;rw[aaG] at h;exact⟨on.after[k],Array.getElem_mem hk,h.1,by simpa using h.2⟩
theorem z8f {n i:Nat} {oi:Oper} {v:Value} {fuel:Nat} {listed:Array Bool} {a:Act} {w:World} (fP:(ops.toList.drop i).head? =some oi) (Gg:i≠n)
  (hs:Region.noSelect ops=true) (hf:Region.free md ops listed i=true) (hr:(Region.ready md ops listed).contains i=true)
  (hQ:∀c a w,Q (.panic c) (a.put oi.dst v) w->Q (.panic c) a w) (hy:YieldsIf P ops (fun _=>True) oi v a) (hS:S w)
  (h:anyE P md ops Q S n fuel (listed.setIfInBounds i true) (a.put oi.dst v) w):anyE P md ops Q S n (fuel+1) listed a w:=
 z7V (qp fP) Gg (Region.noSelect_spec hs) hQ fuel listed a w (Region.free_spec (qp fP) hf) (by simpa using hr) hy (fun _=>hS) h
theorem tE_ {n:Nat} {oi on:Oper} {v:Value} {fuel:Nat} {listed:Array Bool} {a:Act} {w:World} (i:Nat) (fP:(ops.toList.drop i).head? =some oi) (np:(ops.toList.drop n).head? =some on) (h:anyE P md ops Q S n fuel (listed.setIfInBounds i true) (a.put oi.dst v) w)
  (Ff:(on.after.any fun e=>Region.binds md e&&e.on==i)=true:=by kernel_rfl) (hs:Region.noSelect ops=true:=by kernel_rfl) (hf:Region.free md ops listed i=true:=by kernel_rfl) (hr:(Region.ready md ops listed).contains i=true:=by kernel_rfl) (hn:listed.getD n true=false:=by kernel_rfl)
  (hQ:∀c a w,Q (.panic c) (a.put oi.dst v) w->Q (.panic c) a w:=by exact fun _ _ _ h=>h) (hy:YieldsIf P ops S oi v a:=by(refine Or.inl ⟨by rfl,?_⟩);intro w' gm;(try dsimp only at gm);go_simp;(try with_reducible rfl)) (hS:S w:=by assumption):anyE P md ops Q S n (fuel+1) listed a w:=
 z9I fP np Ff hs hf hr hn hQ hy hS h
theorem tF_ {n:Nat} {oi:Oper} {v:Value} {fuel:Nat} {listed:Array Bool} {a:Act} {w:World} (i:Nat) (fP:(ops.toList.drop i).head? =some oi) (h:anyE P md ops Q S n fuel (listed.setIfInBounds i true) (a.put oi.dst v) w) (Gg:i≠n:=by decide)
  (hs:Region.noSelect ops=true:=by kernel_rfl) (hf:Region.free md ops listed i=true:=by kernel_rfl) (hr:(Region.ready md ops listed).contains i=true:=by kernel_rfl)
  (hQ:∀c a w,Q (.panic c) (a.put oi.dst v) w->Q (.panic c) a w:=by exact fun _ _ _ h=>h) (hy:YieldsIf P ops (fun _=>True) oi v a:=by(refine Or.inl ⟨by rfl,?_⟩);intro w' gm;(try dsimp only at gm);go_simp;(try with_reducible rfl)) (hS:S w:=by assumption):anyE P md ops Q S n (fuel+1) listed a w:=
 z8f fP Gg hs hf hr hQ hy hS h
theorem zm {n i:Nat} {o:Oper} {fuel:Nat} {listed:Array Bool} {a:Act} {w:World} (FF:(ops.toList.drop i).head? =some o) (hr:Region.ready md ops listed=[i])
  (h:∀K':Act->World->Prop,(∀a w,((listed.setIfInBounds i true).getD n true=false->S w)->(((listed.setIfInBounds i true).getD n true=false->S w)->anyE P md ops Q S n fuel (listed.setIfInBounds i true) a w)->K' a w)->if Region.wanted o (yielded ops a.tmps)=true then Oper.wp P o a w K' Q else K' (a.put o.dst undef) w):
  anyE P md ops Q S n (fuel+1) listed a w:=by
 have ho:=qp FF;refine⟨fun h0=>(by rw[hr] at h0;cases h0),fun j hj=>?_⟩
 rw[hr,aa9] at hj;subst hj;exact wpOp_step ho (fun K' hK=>h K' (fun a w hS hW=>hK a w ⟨hS,hW hS⟩))
theorem jr {n:Nat} {listed:Array Bool} {a:Act} {w:World} (hr:Region.ready md ops listed=[]) (h:Q .normal a w):∀fuel,anyE P md ops Q S n fuel listed a w
 |0=>⟨hr,h⟩
 |_+1=>⟨fun _=>h,by rw[hr];simp⟩
theorem qD {id n:Nat} {a:Act} {w:World} (hm:P.follows .mixedOrders =true) (hS:S w.drew)
  (h:S w.drew->anyE P .any ops Q S n ops.size (Array.replicate ops.size false) a w.drew):(Code.region id ops true).wp P Q a w:=
 wp_region_any hm (z3b _ _ _ _ (h hS))
end
theorem Vm (l:List (Int×Int)):∀u∈l.flatMap prc,u.oneCell'=true:=by
 intro u hu;rw[List.mem_flatMap] at hu;obtain⟨p,_,hp⟩:=hu;simp only[prc,List.mem_cons,List.mem_nil_iff,or_false] at hp
 rcases hp with rfl|rfl<;>rfl
theorem vu {P:Program} {w:World} {t ty e:TypeId} {i:TypeInfo} (ht:P.underlying t=some (.slice e)) (hi:P.info? e=some i) (A:Option Addr) (n cp c:Nat) (h:n<=cp):
  (Builtin.append_ #[t,t] ty #[.slice A n cp,.slice none 0 c]).run P w= .ok (.slice A n cp) w:=by
 simp[Builtin.append_,run_underlying ht,sizeOf,typeInfo,hi,Builtin.lenOf,h,Builtin.firstCells]
 cases A
 ·simp
 ·simp[storeCells]
theorem kL (b off j:Nat):(⟨b,off,none⟩:Addr).add j=⟨b,off+j,none⟩:=by
 unfold Addr.add
 split<;>simp_all
theorem kz {P:Program} {w:World} {t ty e:TypeId} {i:TypeInfo} {base:Nat} (ht:P.underlying t=some (.slice e)) (hi:P.info? e=some i) (hz:i.zero=some (.agg #[.int .i64 0,.int .i64 0])) (Hy:i.size=2) (gp:i.bytes=16)
  {v u:Value} {xs l:List (Int×Int)} (hown:OwnP e base w v xs) (hr:RP w u l) (Hm:xs.length+l.length<=1048576+1048576) (Hs:base<=w.heap.size):
  ∃A c w',(Builtin.append_ #[t,t] ty #[v,u]).run P w= .ok (.slice A (xs++l).length c) w'/\OwnP e base w' (.slice A (xs++l).length c) (xs++l)/\w.grownBy w' v.ownBlock/\
   ((Value.slice A (xs++l).length c).ownBlock =v.ownBlock∨(Value.slice A (xs++l).length c).ownBlock =some w.heap.size):=by
 obtain⟨A,c,rfl,hc,hm,hcell⟩:=hr.form
 cases A with
 |none=>
  have hl:l=[]:=by
   rcases abv l.length with h|h
   ·exact abx h
   ·obtain⟨b,off,h1,_⟩:=hcell h
    cases h1
  subst hl;obtain⟨A,cp,rfl⟩:=hown.form
  have NQ:xs.length<=cp:=by
   obtain⟨A',c',e1,e2,_⟩:=hown.reads.form
   cases e1;exact e2
  refine⟨A,cp,w,?_,by rw[List.append_nil];exact hown,World.grownBy.refl _ _,by rw[List.append_nil];exact .inl rfl⟩
  rw[List.append_nil];exact vu ht hi A _ cp c NQ
 |some a=>
  have hn:∀(j:Nat) (x:Value),(l.flatMap prc)[j]? =some x->w.cell? (a.add j)=some x:=by
   intro j x hx;have hj:=(List.getElem?_eq_some_iff.1 hx).1;rw[qo prc 2 (fun _=>rfl)] at hj;obtain⟨_,A',c',e1,_,_,e4⟩:=hr
   cases e1
   obtain⟨b,off,e5,_,e6⟩:=e4 o_
   cases e5
   rw[kL];exact e6 j x hx
  have ho:w.ownsRow base e 2 v xs.length (xs.flatMap prc):=hown;obtain⟨v',w',h1,h2,h3,_,h5⟩:=run_append_own_at (P:=P) w base t ty e i _ 2 16 ht hi hz Hy gp rfl (by decide) v xs.length (xs.flatMap prc) ho a l.length c (l.flatMap prc) (qo prc 2 (fun _=>rfl) l) hn (Vm l) (by unfold maxLen;omega) o_ Hs
  have Rl:OwnP e base w' v' (xs++l):=by
   unfold OwnP;rw[aaW,aaX];exact h2
  obtain⟨A',c',rfl⟩:=Rl.form;exact⟨A',c',w',h1,Rl,h3,h5⟩
theorem zk {P:Program} {w:World} {ops:Array Oper} {o:Oper} {a:Act} {K:Act->World->Prop} {Q:Exit->Act->World->Prop} {E:Prop} (Fu:o.guard=none) (s x:Operand) (t:TypeId)
  (ho:o.op= .call { callee:= .builtin .append,args:= #[s,x],argTypes:= #[t,t] })
  (base:Nat) (e:TypeId) (i:TypeInfo) (ht:P.underlying t=some (.slice e)) (hi:P.info? e=some i) (hz:i.zero=some (.agg #[.int .i64 0,.int .i64 0])) (Hy:i.size=2) (gp:i.bytes=16)
  (v u:Value) (xs l:List (Int×Int)) (hs:a.eval s=v) (hx:a.eval x=u) (hown:OwnP e base w v xs) (hr:RP w u l) (Hm:xs.length+l.length<=1048576+1048576) (Hs:base<=w.heap.size)
  (h:∀A c w',OwnP e base w' (.slice A (xs++l).length c) (xs++l)->w.grownBy w' v.ownBlock->((Value.slice A (xs++l).length c).ownBlock =v.ownBlock∨(Value.slice A (xs++l).length c).ownBlock =some w.heap.size)->K (a.put o.dst (.slice A (xs++l).length c)) w'):
  if Region.wanted o (yielded ops a.tmps)=true then Oper.wp P o a w K Q else E:=by
 have hw:Region.wanted o (yielded ops a.tmps)=true:=by simp[Region.wanted,Fu]
 rw[aao hw];obtain⟨A,c,w',fj,h2,h3,h4⟩:=kz (ty:=o.type) ht hi hz Hy gp hown hr Hm Hs;unfold Oper.wp execOp;simp only[ho,resolve,invoke,builtin,Sem.run_bind,Sem.run_pure,aaY,List.map_toArray,aaS,aaT,hs,hx,fj]
 exact h A c w' h2 h3 h4
theorem zj {P:Program} {w:World} {ops:Array Oper} {rest:List Oper} {o:Oper} {a:Act} {Q:Exit->Act->World->Prop} (Fu:o.guard=none) (s x:Operand) (t:TypeId)
  (ho:o.op= .call { callee:= .builtin .append,args:= #[s,x],argTypes:= #[t,t] })
  (base:Nat) (e:TypeId) (i:TypeInfo) (ht:P.underlying t=some (.slice e)) (hi:P.info? e=some i) (hz:i.zero=some (.agg #[.int .i64 0,.int .i64 0])) (Hy:i.size=2) (gp:i.bytes=16)
  (v u:Value) (xs l:List (Int×Int)) (hs:a.eval s=v) (hx:a.eval x=u) (hown:OwnP e base w v xs) (hr:RP w u l) (Hm:xs.length+l.length<=1048576+1048576) (Hs:base<=w.heap.size)
  (h:∀A c w',OwnP e base w' (.slice A (xs++l).length c) (xs++l)->w.grownBy w' v.ownBlock->((Value.slice A (xs++l).length c).ownBlock =v.ownBlock∨(Value.slice A (xs++l).length c).ownBlock =some w.heap.size)->wpList P ops Q rest (a.put o.dst (.slice A (xs++l).length c)) w'):
  wpList P ops Q (o::rest) a w:=
 wpList_plain Fu fun K hK=>by
  obtain⟨A,c,w',fj,h2,h3,h4⟩:=kz (ty:=o.type) ht hi hz Hy gp hown hr Hm Hs;unfold Oper.wp execOp;simp only[ho,resolve,invoke,builtin,Sem.run_bind,Sem.run_pure,aaY,List.map_toArray,aaS,aaT,hs,hx,fj]
  exact hK _ _ (h A c w' h2 h3 h4)
theorem OwnP.made {t:TypeId} {base:Nat} {w:World} {g:Nat} (hg:g=w.heap.size) (hb:base<=w.heap.size):OwnP t base (w.alloc (.cells #[] t)) (.slice (some ⟨g,0,none⟩) 0 0) []:=by
 subst hg;exact World.ownsRow_made _ _ _ hb (by simp) (by simp[maxLen])
theorem kE {w w':World} (h:w.grownBy w' (Value.slice none 0 0).ownBlock):Below w.heap.size w w':=(aaj _ _).grown h (aaa _) (by intro k hk;cases hk)
theorem qt (vn vl:Value) (ns ls:List (Int×Int)) (w:World) (hn:RP w vn ns) (hl:RP w vl ls) (h1:ns.length<=1048576) (h2:ls.length<=1048576):
  Calls Tryz.prog 81 #[.agg #[vn,vl]] w (RetW ns ls w):=by
 obtain⟨i0,hi,iz0,iz1,iz2⟩:=info_parts kB;obtain⟨j0,hj,jz0,jz1,jz2⟩:=info_parts jd;have CB:w.heap.size<w.heap.size+1+1:=o_
 go_enter Tryz.func81,Tryz.ntmps81
 go_wp2_with fail
 go_region_held3 (fun w'=>w'.cell? ⟨w.heap.size,0,none⟩=some vn/\w'.cell? ⟨w.heap.size,1,none⟩=some vl)
  (go_keep)
  (first|(refine zk rfl _ _ _ rfl (w.heap.size+1+1) 106 i0 Tryz.underlying24 hi iz0 iz1 iz2 (.slice none 0 0) vn [] ns rfl rfl (OwnP.nil _ _ _) (RP.below hn bel_) (by simp;omega) sz_ ?_;intro A1 c1 w1 Hj gL MX;(have Hb:=kE gL);(have Mg:=h_ MX);(have mD:=h_ Hj);clear gL MX Hj;(first|(with_reducible have gl:=bdC Hb)|have gl:=bcC Hb);(first|(with_reducible have mE:=bdF Hb)|have mE:=bcF Hb);have H7:=Hb.size;(try simp at H7);(try have gY:=p0_ w w1);(try have Gv:=p1_ w w1);(try have Fr:=p2_ w w1);(try have Rm:=p3_ w w1))|(refine zk rfl _ _ _ rfl (w.heap.size+1+1) 108 j0 Tryz.underlying25 hj jz0 jz1 jz2 (.slice none 0 0) vl [] ls rfl rfl (OwnP.nil _ _ _) (RP.below hl bel_) (by simp;omega) sz_ ?_;intro A2 c2 w2 Hn gu Bf;(have Hh:=kE gu);(have WF:=h_ Bf);(have Cu:=h_ Hn);clear gu Bf Hn;(first|(with_reducible have gV:=bdC Hh)|have gV:=bcC Hh);(first|(with_reducible have Mv:=bdF Hh)|have Mv:=bcF Hh);have Gp:=Hh.size;(try simp at Gp);(try have Gc:=p0_ w w2);(try have Gd:=p1_ w w2);(try have fu:=p2_ w w2);(try have BE:=p3_ w w2)))
 have Hj:OwnP 106 (w.heap.size+1+1) w1 (.slice A1 ns.length c1) ns:=mD.out;have Hn:OwnP 108 (w.heap.size+1+1) w2 (.slice A2 ls.length c2) ls:=Cu.out
 have mF:Hid (∀k,(Value.slice A1 ns.length c1).ownBlock =some k->(Value.slice A2 ls.length c2).ownBlock =some k->False):=h_ (fun k h1 h2=>by
  have h3:=(Hj.lt k h1).2
  rcases WF.out with h|h
  ·have h':(Value.slice A2 ls.length c2).ownBlock =none:=h
   rw[h'] at h2;cases h2
  ·have h':(Value.slice A2 ls.length c2).ownBlock =some w1.heap.size:=h
   rw[h'] at h2;cases h2;omega)
 have gd:=Hj.kept Hh;have o1:=h_ (((gd.setLow (p:=⟨w.heap.size+1,0,none⟩) sz_ (.slice A1 ns.length c1)).setLow (p:=⟨w.heap.size+1,1,none⟩) sz_ (.slice A2 ls.length c2)).mono (show w.heap.size<=_ by omega));have o2:=h_ (((Hn.setLow (p:=⟨w.heap.size+1,0,none⟩) sz_ (.slice A1 ns.length c1)).setLow (p:=⟨w.heap.size+1,1,none⟩) sz_ (.slice A2 ls.length c2)).mono (show w.heap.size<=_ by omega));go_wp2;exact bodyPost_ret (v:= .agg #[.slice A1 ns.length c1,.slice A2 ls.length c2]) (by simp[results,Tryz.results81,go_sem,gY,Gv,Gc,Gd,gV,gl]) rfl ⟨_,_,_,_,rfl,⟨o1.out,o2.out,mF.out⟩,by exact bel_⟩
theorem jT {w w':World} {g B:Nat} (h:w.grownBy w' (some g)) (hB:B<=w.heap.size) (hg:B<=g):Below B w w':=(aaj _ _).grown h hB (fun k hk=>by cases hk;exact hg)
theorem zR (vn vl:Value) (ns ls:List (Int×Int)) (w:World) (hn:RP w vn ns) (hl:RP w vl ls) (h1:ns.length<=1048576) (h2:ls.length<=1048576):
  Calls Tryz.prog 110 #[.agg #[vn,vl]] w (RetW ns ls w):=by
 obtain⟨i0,hi,iz0,iz1,iz2⟩:=info_parts kB;obtain⟨j0,hj,jz0,jz1,jz2⟩:=info_parts jd;have CB:w.heap.size<w.heap.size+1+1:=o_
 have gj:w.heap.size<w.heap.size+1+1+1:=o_
 go_enter Tryz.func110,Tryz.ntmps110
 go_wp2_with fail
 go_region_held3 (fun w'=>w'.cell? ⟨w.heap.size,0,none⟩=some vn/\w'.cell? ⟨w.heap.size,1,none⟩=some vl)
  (go_keep)
  (first|(refine zk rfl _ _ _ rfl (w.heap.size+1+1) 106 i0 Tryz.underlying24 hi iz0 iz1 iz2 (.slice (some ⟨w.heap.size+1+1,0,none⟩) 0 0) vn [] ns rfl rfl (OwnP.drew (OwnP.made (by simp) sz_)) (RP.below hn bel_) (by simp;omega) sz_ ?_;intro A1 c1 w1 Hj gL MX;(have Hb:=jT (B:=w.heap.size+1+1) gL sz_ sz_);(have gl:=fun (b o:Nat) (h:b<w.heap.size+1+1)=>Hb.cell (p:=⟨b,o,none⟩) h);(have mE:=fun (b o:Nat) (h:b<w.heap.size+1+1)=>Hb.frozen (p:=⟨b,o,none⟩) h);(have H7:=gL.size);(try simp at H7);(have gY:w.heap.size<w1.heap.size:=by omega);(have Gv:w.heap.size+1<w1.heap.size:=by omega);(have Ha:Below w.heap.size w w1:=by refine Below.trans ?_ (Hb.mono ?_)<;>first|(exact bel_)|omega);(have Mg:=h_ MX);(have mD:=h_ Hj);(have HG1:=h_ gL);clear gL MX Hj)|((refine zk rfl _ _ _ rfl (w.heap.size+1+1) 106 i0 Tryz.underlying24 hi iz0 iz1 iz2 (.slice (some ⟨w.heap.size+1+1,0,none⟩) 0 0) vn [] ns rfl rfl (OwnP.drew (OwnP.alloc (OwnP.made (by simp) sz_) _)) (RP.below hn bel_) (by simp;omega) sz_ ?_);intro A1 c1 w1 Hj gL MX;(have Hb:=jT (B:=w.heap.size+1+1) gL sz_ sz_);(have gl:=fun (b o:Nat) (h:b<w.heap.size+1+1)=>Hb.cell (p:=⟨b,o,none⟩) h);(have mE:=fun (b o:Nat) (h:b<w.heap.size+1+1)=>Hb.frozen (p:=⟨b,o,none⟩) h);(have H7:=gL.size);(try simp at H7);(have gY:w.heap.size<w1.heap.size:=by omega);(have Gv:w.heap.size+1<w1.heap.size:=by omega);(have Ha:Below w.heap.size w w1:=by refine Below.trans ?_ (Hb.mono ?_)<;>first|(exact bel_)|omega);(have Mg:=h_ MX);(have mD:=h_ Hj);(have ub:=h_ ((OwnP.drew (OwnP.made (t:=108) (base:=w.heap.size+1+1) (g:=w.heap.size+1+1+1) (by simp) sz_)).apart gL (by intro k h h';simp[Value.ownBlock] at h h';omega)));clear gL MX Hj)|((refine zk rfl _ _ _ rfl (w.heap.size+1+1) 106 i0 Tryz.underlying24 hi iz0 iz1 iz2 (.slice (some ⟨w.heap.size+1+1+1,0,none⟩) 0 0) vn [] ns rfl rfl (OwnP.drew (OwnP.made (by simp) sz_)) (RP.below hn bel_) (by simp;omega) sz_ ?_);intro A1 c1 w1 Hj gL MX;(have Hb:=jT (B:=w.heap.size+1+1) gL sz_ sz_);(have gl:=fun (b o:Nat) (h:b<w.heap.size+1+1)=>Hb.cell (p:=⟨b,o,none⟩) h);(have mE:=fun (b o:Nat) (h:b<w.heap.size+1+1)=>Hb.frozen (p:=⟨b,o,none⟩) h);(have H7:=gL.size);(try simp at H7);(have gY:w.heap.size<w1.heap.size:=by omega);(have Gv:w.heap.size+1<w1.heap.size:=by omega);(have Ha:Below w.heap.size w w1:=by refine Below.trans ?_ (Hb.mono ?_)<;>first|(exact bel_)|omega);(have Mg:=h_ MX);(have mD:=h_ Hj);(have ub:=h_ ((OwnP.drew (OwnP.alloc (OwnP.made (t:=108) (base:=w.heap.size+1+1) (g:=w.heap.size+1+1) (by simp) sz_) _)).apart gL (by intro k h h';simp[Value.ownBlock] at h h';omega)));clear gL MX Hj)|(refine zk rfl _ _ _ rfl (w.heap.size+1+1) 108 j0 Tryz.underlying25 hj jz0 jz1 jz2 (.slice (some ⟨w.heap.size+1+1+1,0,none⟩) 0 0) vl [] ls rfl rfl ub.out (RP.below hl bel_) (by simp;omega) sz_ ?_;intro A2 c2 w2 Hn gu Bf;(have Hh:=jT (B:=w.heap.size+1+1) gu sz_ sz_);(have gV:=fun (b o:Nat) (h:b<w.heap.size+1+1)=>Hh.cell (p:=⟨b,o,none⟩) h);(have Mv:=fun (b o:Nat) (h:b<w.heap.size+1+1)=>Hh.frozen (p:=⟨b,o,none⟩) h);(have Gp:=gu.size);(try simp at Gp);(have Gc:w.heap.size<w2.heap.size:=by omega);(have Gd:w.heap.size+1<w2.heap.size:=by omega);(have Hc:Below w.heap.size w w2:=by refine Below.trans ?_ (Hh.mono ?_)<;>first|(exact bel_)|omega);(have WF:=h_ Bf);(have Cu:=h_ Hn);(have wZ:=h_ gu);clear gu Bf Hn)|(refine zk rfl _ _ _ rfl (w.heap.size+1+1) 108 j0 Tryz.underlying25 hj jz0 jz1 jz2 (.slice (some ⟨w.heap.size+1+1,0,none⟩) 0 0) vl [] ls rfl rfl ub.out (RP.below hl bel_) (by simp;omega) sz_ ?_;intro A2 c2 w2 Hn gu Bf;(have Hh:=jT (B:=w.heap.size+1+1) gu sz_ sz_);(have gV:=fun (b o:Nat) (h:b<w.heap.size+1+1)=>Hh.cell (p:=⟨b,o,none⟩) h);(have Mv:=fun (b o:Nat) (h:b<w.heap.size+1+1)=>Hh.frozen (p:=⟨b,o,none⟩) h);(have Gp:=gu.size);(try simp at Gp);(have Gc:w.heap.size<w2.heap.size:=by omega);(have Gd:w.heap.size+1<w2.heap.size:=by omega);(have Hc:Below w.heap.size w w2:=by refine Below.trans ?_ (Hh.mono ?_)<;>first|(exact bel_)|omega);(have WF:=h_ Bf);(have Cu:=h_ Hn);(have wZ:=h_ gu);clear gu Bf Hn)|(refine zk rfl _ _ _ rfl (w.heap.size+1+1) 108 j0 Tryz.underlying25 hj jz0 jz1 jz2 (.slice (some ⟨w1.heap.size,0,none⟩) 0 0) vl [] ls rfl rfl (OwnP.made rfl sz_) (RP.below hl bel_) (by simp;omega) sz_ ?_;intro A2 c2 w2 Hn gu Bf;(have Hh:=jT (B:=w.heap.size+1+1) gu sz_ sz_);(have gV:=fun (b o:Nat) (h:b<w.heap.size+1+1)=>Hh.cell (p:=⟨b,o,none⟩) h);(have Mv:=fun (b o:Nat) (h:b<w.heap.size+1+1)=>Hh.frozen (p:=⟨b,o,none⟩) h);(have Gp:=gu.size);(try simp at Gp);(have Gc:w.heap.size<w2.heap.size:=by omega);(have Gd:w.heap.size+1<w2.heap.size:=by omega);(have Hc:Below w.heap.size w w2:=by refine Below.trans ?_ (Hh.mono ?_)<;>first|(exact bel_)|omega);(have WF:=h_ Bf);(have Cu:=h_ Hn);(have wZ:=h_ gu);clear gu Bf Hn))
 all_goals
  have Hj:OwnP 106 (w.heap.size+1+1) w1 (.slice A1 ns.length c1) ns:=mD.out;have Hn:OwnP 108 (w.heap.size+1+1) w2 (.slice A2 ls.length c2) ls:=Cu.out
  have mF:Hid (∀k,(Value.slice A1 ns.length c1).ownBlock =some k->(Value.slice A2 ls.length c2).ownBlock =some k->False):=h_ (fun k e1 e2=>by
   have hk:=(Hj.lt k e1).2
   rcases Mg.out with a|a<;>rcases WF.out with b|b
   all_goals
    have a':=e1.symm.trans a;have b':=e2.symm.trans b;simp[Value.ownBlock] at a' b'
    omega)
  have gd:OwnP 106 (w.heap.size+1+1) w2 (.slice A1 ns.length c1) ns:=by
   first
    |(refine OwnP.apart Hj wZ.out ?_
      intro k e1 e2;have hk:=(Hj.lt k e1).2
      rcases Mg.out with a|a
      all_goals
       have a':=e1.symm.trans a;simp[Value.ownBlock] at a' e2
       omega)
    |(refine OwnP.apart (Hj.alloc _) wZ.out ?_
      intro k e1 e2;have hk:=(Hj.lt k e1).2
      rcases Mg.out with a|a
      all_goals
       have a':=e1.symm.trans a;simp[Value.ownBlock] at a' e2
       omega)
  have o1:=h_ (((gd.setLow (p:=⟨w.heap.size+1,0,none⟩) sz_ (.slice A1 ns.length c1)).setLow (p:=⟨w.heap.size+1,1,none⟩) sz_ (.slice A2 ls.length c2)).mono (show w.heap.size<=_ by omega));have o2:=h_ (((Hn.setLow (p:=⟨w.heap.size+1,0,none⟩) sz_ (.slice A1 ns.length c1)).setLow (p:=⟨w.heap.size+1,1,none⟩) sz_ (.slice A2 ls.length c2)).mono (show w.heap.size<=_ by omega));have HB:Hid (Below w.heap.size w ((w2.setCell ⟨w.heap.size+1,0,none⟩ (.slice A1 ns.length c1)).setCell ⟨w.heap.size+1,1,none⟩ (.slice A2 ls.length c2))):=h_ ((Hc.setCell sz_ _).setCell sz_ _);go_wp2;exact bodyPost_ret (v:= .agg #[.slice A1 ns.length c1,.slice A2 ls.length c2]) (by simp[results,Tryz.results110,go_sem,gY,Gv,Gc,Gd,gV,gl]) rfl ⟨_,_,_,_,rfl,⟨o1.out,o2.out,mF.out⟩,HB.out⟩
structure Turns (S:Nat->Prop) (w w':World):Prop where
 os:w'.os=w.os
 tape:w'.tape=w.tape
 output:w'.output=w.output
 size:w.heap.size<=w'.heap.size
 block:∀i,i<w.heap.size->¬S i->w'.heap[i]? =w.heap[i]?
theorem Turns.ofGrown {w w':World} {row:Option Nat} {S:Nat->Prop} (h:w.grownBy w' row) (hs:∀k,row=some k->S k):Turns S w w':=
 ⟨h.os,h.tape,h.output,h.size,fun i hi hn=>h.block i hi (fun e=>hn (hs i e.symm))⟩
theorem Turns.ofBelow {w w':World} {S:Nat->Prop} (h:Below w.heap.size w w'):Turns S w w':=⟨h.os,h.tape,h.output,h.size,fun i hi _=>h.block i hi⟩
theorem Turns.trans {a b c:World} {S:Nat->Prop} (h:Turns S a b) (k:Turns S b c):Turns S a c:=
 ⟨k.os.trans h.os,k.tape.trans h.tape,k.output.trans h.output,aai h.size k.size,fun i hi hn=>(k.block i (aaD hi h.size) hn).trans (h.block i hi hn)⟩
theorem Turns.refl (S:Nat->Prop) (w:World):Turns S w w:=⟨rfl,rfl,rfl,aaa _,fun _ _ _=>rfl⟩
theorem yQ {base:Nat} {w w':World} {e:TypeId} {size:Nat} {v:Value} {n:Nat} {xs:List Value} {S:Nat->Prop} (h:w.ownsRow base e size v n xs) (hb:Turns S w w') (hs:∀k,v.ownBlock=some k->¬S k):
  w'.ownsRow base e size v n xs:=by
 obtain⟨h1,h2⟩:=h;refine⟨h1,?_⟩
 rcases h2 with ⟨rfl,hn⟩|⟨g,cap,cur,rfl,e1,hh,r⟩
 ·exact .inl ⟨rfl,hn⟩
 ·refine .inr ⟨g,cap,cur,rfl,e1,?_,r⟩
  have Hf:g<w.heap.size:=by
   rcases abj g w.heap.size with Hf|Mu
   ·exact Hf
   ·rw[abw Mu] at hh;cases hh
  rw[hb.block g Hf (hs g rfl)];exact hh
theorem OwnP.turned {t:TypeId} {base:Nat} {w w':World} {v:Value} {l:List (Int×Int)} {S:Nat->Prop} (h:OwnP t base w v l) (hb:Turns S w w') (hs:∀k,v.ownBlock=some k->¬S k):OwnP t base w' v l:=yQ h hb hs
def zp (vn vl:Value) (k:Nat):Prop:=vn.ownBlock=some k∨vl.ownBlock=some k
theorem OwnW.turned {base:Nat} {w w':World} {vn vl:Value} {ns ls:List (Int×Int)} {S:Nat->Prop} (h:OwnW base w vn vl ns ls) (hb:Turns S w w') (hs:∀k,zp vn vl k->¬S k):OwnW base w' vn vl ns ls:=
 ⟨h.1.turned hb (fun k hk=>hs k (.inl hk)),h.2.1.turned hb (fun k hk=>hs k (.inr hk)),h.2.2⟩
theorem OwnW.lt {base:Nat} {w:World} {vn vl:Value} {ns ls:List (Int×Int)} (h:OwnW base w vn vl ns ls) (k:Nat) (hk:zp vn vl k):base<=k/\k<w.heap.size:=by
 rcases hk with hk|hk
 ·exact h.1.lt k hk
 ·exact h.2.1.lt k hk
open Go.ChangeShapes Go.WideShapes Go.ChangeAt Go.RowKit
theorem ownK:ownKnob Tryz.prog.godebug=none:=by kernel_rfl
theorem za0:laidOutB Tryz.prog=true:=by kernel_rfl
theorem z9Q:mapsRowed Tryz.prog=true:=by kernel_rfl
def xD:Char:=Char.ofNat 32
def z4y:List (List Char)->List Char
 | []=> []
 | [w]=>w
 |w::v::r=>w++xD::z4y (v::r)
theorem z03:∀(w:List Char),(w.all fun c=>c != xD)=true->wordsSigns w=[w]
 | [],_=>rfl
 |c::w,h=>by
  simp only[List.all_cons,aaG] at h
  have ih:=z03 w h.2;have hc:c≠xD:=by simpa using h.1
  unfold wordsSigns
  split
  ·rename_i cF;cases cF
  ·rename_i cF;injection cF with h1 _;exact absurd h1 hc
  ·rename_i cF;injection cF with h1 h2;subst h1 h2;rw[ih]
theorem V2:∀(w r:List Char),(w.all fun c=>c != xD)=true->wordsSigns (w++xD::r)=w::wordsSigns r
 | [],r,_=>rfl
 |c::w,r,h=>by
  simp only[List.all_cons,aaG] at h
  have ih:=V2 w r h.2;have hc:c≠xD:=by simpa using h.1
  rw[List.cons_append,wordsSigns.eq_def]
  split
  ·rename_i cF;cases cF
  ·rename_i cF;injection cF with h1 _;exact absurd h1 hc
  ·rename_i cF;injection cF with h1 h2;subst h1 h2;rw[ih]
theorem Xh:∀(ws:List (List Char)),ws≠ []->(ws.all fun w=>w.all fun c=>c != xD)=true->wordsSigns (z4y ws)=ws
 | [],h,_=>absurd rfl h
 | [w],_,h=>by
  simp only[List.all_cons,List.all_nil,Bool.and_true] at h
  exact z03 w h
 |w::v::r,_,h=>by
  rw[List.all_cons,aaG] at h
  show wordsSigns (w++xD::z4y (v::r))=_
  rw[V2 w _ h.1,Xh (v::r) (by simp) h.2]
def Z4:List (List Char):=
 [[104,97,114,110,101,115,115],
  [98,54,97,101,99,48,57,97,48,57,100,99,50,51,56,54,52,102,52,57,99,99,52,54,49,97,56,52,51,48,50,57,98,100,102,99,48,49,48,51,56,49,54,57,48,50,99,50,49,56,101,49,101,55,55,49,98,48,57,55,51,50,97,52],
  [99,117,116],
  [97,116],
  [108,111,111,112,46,101,120,97,109,112,108,101,47,103,48,51,51,48,51,47,108,97,119,115,46,70,110,84,111,112],
  [108,111,111,112,46,101,120,97,109,112,108,101,47,103,48,51,51,48,51,47,108,97,119,115,46,70,110,69,120,97,99,116,83,119,97,112,67,111,108,111,114,115],
  [108,111,111,112,46,101,120,97,109,112,108,101,47,103,48,51,51,48,51,47,108,97,119,115,46,70,110,69,120,97,99,116,67,111,108,111,114,65,108,108],
  [108,111,111,112,46,101,120,97,109,112,108,101,47,103,48,51,51,48,51,47,108,97,119,115,46,70,110,83,116,117,100,105,111,115],
  [108,111,111,112,46,101,120,97,109,112,108,101,47,103,48,51,51,48,51,47,108,97,119,115,46,70,110,69,120,97,99,116,83,116,111,114,101,80,97,110,101],
  [108,111,111,112,46,101,120,97,109,112,108,101,47,103,48,51,51,48,51,47,108,97,119,115,46,70,110,82,101,112,108,97,121,115],
  [108,111,111,112,46,101,120,97,109,112,108,101,47,103,48,51,51,48,51,47,108,97,119,115,46,70,110,83,99,101,110,97,114,105,111,115],
  [108,111,111,112,46,101,120,97,109,112,108,101,47,103,48,51,51,48,51,47,108,97,119,115,46,70,110,69,120,97,99,116,73,115,82,101,112,108,97,121],
  [108,111,111,112,46,101,120,97,109,112,108,101,47,103,48,51,51,48,51,47,108,97,119,115,46,70,110,69,120,97,99,116,68,111,65,99,116],
  [108,111,111,112,46,101,120,97,109,112,108,101,47,103,48,51,51,48,51,47,108,97,119,115,46,70,110,69,120,97,99,116,82,117,110,65,99,116,115]].map fun w=>w.map Char.ofNat
theorem z9Y:wordsSigns Tryz.prog.initOrder.toList=Z4:=by
 have h:Tryz.prog.initOrder=String.ofList (z4y Z4):=by kernel_rfl
 rw[h,String.toList_ofList];exact Xh Z4 (by decide) k_
theorem z60:behindMainWord (wordsSigns Tryz.prog.initOrder.toList)=behindMainWord Z4:=by rw[z9Y]
theorem cutW:behindMainWord Z4="cut".toList ::Z4.drop 3:=by kernel_rfl
theorem z8Y {P:Program} {r:List (List Char)} (h:behindMainWord (wordsSigns P.initOrder.toList)="cut".toList ::r):P.make=some .cut :=by
 unfold Program.make;rw[h]
 show(if _ then _ else _)=_
 rw[aaq (by decide),aao (by simp)]
theorem z6x {P:Program} {r:List (List Char)} (h:behindMainWord (wordsSigns P.initOrder.toList)="cut".toList ::r) (hs:stripLifts liftWords ("cut".toList ::r)=([],"cut".toList ::r))
  (hd:P.doorFits []=true) (hl:P.laysLater=false) (hb:P.bearsReflect=false):P.mayEnter=true:=by
 unfold Program.mayEnter;rw[h]
 show(_||_||_)=true
 rw[hs,hd,hl,hb];simp only[aaH]
 exact .inr (by simp)
theorem z6F {P:Program} {r:List (List Char)} (h:behindMainWord (wordsSigns P.initOrder.toList)="cut".toList ::r) (hs:stripLifts liftWords ("cut".toList ::r)=([],"cut".toList ::r)):P.liftsFinal=false:=by
 unfold Program.liftsFinal Program.headLifts;rw[h,hs];have e:("cut".toList =="carried".toList)=false:=by decide
 simp[e]
theorem cutK:behindMainWord (wordsSigns Tryz.prog.initOrder.toList)="cut".toList ::Z4.drop 3:=z60.trans cutW
theorem z6T:stripLifts liftWords ("cut".toList ::Z4.drop 3)=([],"cut".toList ::Z4.drop 3):=by kernel_rfl
theorem za4:Tryz.prog.doorFits []=true:=by kernel_rfl
theorem z9E:Tryz.prog.laysLater=false:=by kernel_rfl
theorem z6y:Tryz.prog.bearsReflect=false:=by kernel_rfl
theorem z9V:Tryz.prog.mayEnter=true:=z6x cutK z6T za4 z9E z6y
theorem za2:Tryz.prog.make=some .cut :=z8Y cutK
theorem z9z:Tryz.prog.liftsFinal=false:=z6F cutK z6T
theorem za6 {c:OpenClaim} (h:c.lifted=false):(c.lifted==Tryz.prog.liftsFinal)=true:=by rw[h,z9z];rfl
theorem za7 {c:OpenClaim} (h:c.make= .cut):(Tryz.prog.make==some c.make)=true:=by rw[za2,h];rfl
section
variable {H:Type} {enc:TypeId×Value->H} {P:Program}
theorem XC {ts:List TypeId} (hl:laidOutB P=true) {W W':World} (hb:Below W.heap.size W W') {sp:Nat->Bool}:
  ∀ {vs:List Value} {ds:List (DataW H)} {ps:List MemPlace},(∀t∈ts,P.readableRec t=true/\t<P.types.size)->
   DataW.TrodAll enc P W 0 (fun _=>true) true ts vs ds ps->(∀x∈ps,x.block<W.heap.size)->(∀x∈ps,sp x.block=true)->DataW.TrodAll enc P W' 0 sp true ts vs ds ps:=by
 induction ts with
 |nil=>
  intro vs ds ps _ h _ _;obtain⟨rfl,rfl,rfl⟩:=trodAll_nil h;exact trodAll_mk0
 |cons t ts ih=>
  intro vs ds ps hr h Hf hsp;obtain⟨v,vs',d,ds',p,q,Mf,rfl,rfl,hd,Fs⟩:=trodAll_cons h;subst Mf;obtain⟨h1,h2⟩:=hr t (by simp);refine trodAll_cons_mk ?_ (ih (fun t' MW=>hr t' (by simp[MW])) Fs (fun x hx=>Hf x (by simp[hx])) (fun x hx=>hsp x (by simp[hx])))
  exact WideElems.Trod_stays hl h1 h2 hd (fun x hx=>hb.same (Hf x (by simp[hx]))) (fun x hx=>hsp x (by simp[hx]))
theorem Xz {f:Func} {s:ChangeSpec} {apart fresh bR again:Bool} {W W':World} {args:Array Value} {v:Value} {ds gs:List (DataW H)} {before pa pv:List MemPlace}
  (hW:DataW.Whole enc P f.params.toList s.vars apart W args.toList ds gs before)
  (Ce:∀(b:Nat) (sp:Nat->Bool) (hd:Bool),DataW.TrodAll enc P W' b sp hd f.resultTypes.toList (v.resultList f.resultTypes.size) (s.fn H (ds++gs)).results [])
  (Mf:∀sp:Nat->Bool,(∀p∈before,sp p.block=true)->DataW.TrodAll enc P W' 0 sp true f.params.toList args.toList (s.fn H (ds++gs)).args pa)
  (Rk:∀sp:Nat->Bool,(∀p∈before,sp p.block=true)->DataW.TrodVars enc P W' sp s.vars (s.fn H (ds++gs)).vars pv)
  (hps:before=pa++pv) (hb:Below W.heap.size W W')
  (Gn:∀(j:Nat) (t:TypeId) (r:Value),f.resultTypes[j]? =some t->(v.resultList f.resultTypes.size)[j]? =some r->Value.okWide P W' .any 0 t r):
  s.post enc P f apart fresh bR again W args v W':=by
 have Hf:∀p∈before,p.block<W.heap.size:=fun p hp=>hW.lt p hp
 have WC:∀p∈before,(fun b=>decide (b<W.heap.size)) p.block=true:=fun p hp=>by simpa using Hf p hp
 refine⟨ds,gs,before,[],pa,pv,hW,Ce _ _ _,Mf _ WC,Rk _ WC,World.keptBut_mono (fun p hp=>⟨hp,?_⟩) (hb.frame (· ∈before)),fun _=>?_⟩
 ·rw[hps,aaI] at hp
  exact Or.inr hp
 ·obtain⟨_,_,_,_,_,hz,hn⟩:=hW
  refine⟨Gn,_,_,([]++pa)++pv,⟨[]++pa,pv,trodAll_append (Mf _ (fun _ _=>rfl)) (Ce _ _ _),Rk _ (fun _ _=>rfl),rfl,?_,?_⟩,?_⟩
  ·intro b off hp
   have Gg:MemPlace.cell b off∈before:=by rw[hps];simpa using hp
   rw[hb.frozen (Hf _ Gg)];exact hz b off Gg
  ·intro ha
   have:=hn ha;rw[hps] at this
   simpa using this
  ·intro p hp _
   rw[hps]
   simpa using hp
theorem z9Z {f:Func} {s:ChangeSpec} {apart fresh bR again:Bool} {W W':World} {args:Array Value} {ds gs:List (DataW H)} {before:List MemPlace} {tb:TypeId}
  (hl:laidOutB P=true) (ht:P.underlying tb=some .bool) (hrt:f.resultTypes= #[tb]) (hv:s.vars=[])
  (wX:∀ds:List (DataW H),ds.length=f.params.size->s.fn H (ds++[])= { results:=[.lit (.bool true)],args:=ds })
  (hp:∀t∈f.params.toList,P.readableRec t=true/\t<P.types.size)
  (hW:DataW.Whole enc P f.params.toList s.vars apart W args.toList ds gs before) (Hm:ds.length=f.params.size) (hb:Below W.heap.size W W'):s.post enc P f apart fresh bR again W args (.bool true) W':=by
 have hW':=hW;obtain⟨p,q,hA,hV,rfl,hfz,hnd⟩:=hW;rw[hv] at hV;obtain⟨rfl,rfl⟩:=trodVars_none hV;have Hf:∀x∈p,x.block<W.heap.size:=fun x hx=>hW'.lt x (by simp[hx])
 refine Xz (pa:=p) (pv:=[]) hW' ?_ ?_ ?_ rfl hb ?_
 ·intro b sp hd
  rw[wX ds Hm,hrt];exact trodAll_mk1 (shut_bool ht true)
 ·intro sp hsp
  rw[wX ds Hm];exact XC hl hb hp hA Hf (fun x hx=>hsp x (by simp[hx]))
 ·intro sp _
  rw[wX ds Hm,hv];exact rfl
 ·exact ok_one hrt rfl (okWide_bool_mk ht true)
end
structure Rc where
 s:Int
 a:Int
 l:Int
 m:Int
def Rc.cs (r:Rc):List Value:=[.int .i64 r.s,.int .i64 r.a,.int .i64 r.l,.int .i64 r.m]
def RR (w:World) (v:Value) (l:List Rc):Prop:=RS w 4 v l.length (l.flatMap Rc.cs)
def okC (adj:Nat->Nat->Bool) (hd:List Int) (k:Nat) (x:Int):Bool:=(List.range k).all (fun i=> !(adj i k&&(hd.getD i 0==x)))
def Jd (gv:List Int) (k:Nat) (x:Int):Bool:=decide (gv.getD k 0<0)||(gv.getD k 0==x)
def srch (adj:Nat->Nat->Bool) (gv:List Int) (n:Nat):Nat->List Int->Option (List Int)
 |0,hd=>some hd
 |r+1,hd=>(List.range n).findSome? (fun (x:Nat)=>if Jd gv hd.length x&&okC adj hd hd.length x then srch adj gv n r (hd++[(x:Int)]) else none)
theorem z1t {adj:Nat->Nat->Bool} {hd:List Int} {k:Nat} {x:Int}:okC adj hd k x=true↔∀i,i<k->adj i k=true->hd.getD i 0≠x:=by
 unfold okC;rw[aaL]
 constructor
 ·intro h i hi ha hx
  have:=h i (List.mem_range.2 hi);rw[ha,hx] at this;simp at this
 ·intro h i hi
  have:=h i (List.mem_range.1 hi)
  cases ha:adj i k
  ·rfl
  ·have h2:=this ha
   simp only[aaR,Bool.not_eq_true']
   exact beq_eq_false_iff_ne.2 h2
theorem XI {adj:Nat->Nat->Bool} {gv:List Int} {n:Nat}:∀(r:Nat) (hd L:List Int),srch adj gv n r hd=some L->(∀j,j<hd.length->0<=hd.getD j 0/\hd.getD j 0<n)->(∀j,j<hd.length->okC adj hd j (hd.getD j 0)=true)->
  L.length=hd.length+r/\(∀j,j<hd.length->L.getD j 0=hd.getD j 0)/\(∀j,j<L.length->0<=L.getD j 0/\L.getD j 0<n)/\(∀i j,i<j->j<L.length->adj i j=true->L.getD i 0≠L.getD j 0)
 |0,hd,L,h,hb,hp=>by
  simp only[srch,Option.some.injEq] at h
  subst h;exact⟨rfl,fun _ _=>rfl,hb,fun i j MV hj ha=>z1t.1 (hp j hj) i MV ha⟩
 |r+1,hd,L,h,hb,hp=>by
  rw[srch] at h;obtain⟨x,hx,hf⟩:=List.exists_of_findSome?_eq_some h;rw[aaM] at hx
  split at hf
  ·rename_i hc
   rw[aaG] at hc
   have bP:∀j,j<hd.length->(hd++[(x:Int)]).getD j 0=hd.getD j 0:=by
    intro j hj;simp[List.getD,abc hj]
   have G9:(hd++[(x:Int)]).getD hd.length 0=x:=by simp[List.getD]
   have Gn:∀j y,j<=hd.length->(okC adj (hd++[(x:Int)]) j y=true↔okC adj hd j y=true):=by
    intro j y hj;rw[z1t,z1t]
    constructor
    ·intro h i hi ha
     rw[<-bP i o_];exact h i hi ha
    ·intro h i hi ha
     rw[bP i o_];exact h i hi ha
   obtain⟨e1,e2,e3,e4⟩:=XI r (hd++[(x:Int)]) L hf (fun j hj=>by
    rw[aaW,aa8] at hj
    by_cases ce:j<hd.length
    ·rw[bP j ce];exact hb j ce
    ·have:j=hd.length:=o_
     subst this;rw[G9];omega) (fun j hj=>by
    rw[aaW,aa8] at hj;rw[Gn j _ o_]
    by_cases ce:j<hd.length
    ·rw[bP j ce];exact hp j ce
    ·have:j=hd.length:=o_
     subst this;rw[G9];exact hc.2)
   rw[aaW,aa8] at e1;refine⟨by omega,fun j hj=>?_,e3,e4⟩
   rw[e2 j (by simp;omega),bP j hj]
  ·cases hf
theorem z62 {k:Nat} {x:Int} {F:Nat} (h:k<F):Jd (List.replicate F (-1)) k x=true:=by
 unfold Jd;have:(List.replicate F (-1:Int)).getD k 0= -1:=by simp[List.getD,h]
 rw[this];rfl
def RB (w:World) (v:Value) (zs:List Int):Prop:=RS w 1 v zs.length (zs.map (Value.int .u8))/\∀z∈zs,0<=z/\z<=255
theorem RB.below {w w':World} {v:Value} {zs:List Int} (h:RB w v zs) (hb:Below w.heap.size w w'):RB w' v zs:=⟨RS.below h.1 hb,h.2⟩
theorem RB.form {w:World} {v:Value} {zs:List Int} (h:RB w v zs):∃A c,v= .slice A zs.length c/\zs.length<=c/\zs.length<=maxLen/\
  (0<zs.length->∃b off,A=some ⟨b,off,none⟩/\b<w.heap.size/\∀k,k<zs.length->∃z:Int,w.cell? ⟨b,off+k,none⟩=some (.int .u8 z)/\0<=z/\z<=255):=by
 obtain⟨⟨_,A,c,hv,h1,h2,h3⟩,hz⟩:=h;refine⟨A,c,hv,h1,h2,fun hn=>?_⟩
 obtain⟨b,off,hA,Hf,hc⟩:=h3 hn;refine⟨b,off,hA,Hf,fun k hk=>⟨zs[k],hc k _ ?_,hz _ (abg hk)⟩⟩
 rw[aau,aac hk];rfl
def zw (W0:World) (v:Value) (g:Nat) (w:World):Prop:=
 W0.heap.size<=g/\Below W0.heap.size W0 w/\∃i h:Int,0<=i/\Blk w g 142 #[v,.int .i64 i,.int .i64 h]
def Drawn (W0:World) (v:Value) (g:Nat) (w:World) (n:Int) (e:Ending) (w':World):Prop:=
 ∃x:Int,e= .returned (.int .i64 x)/\0<=x/\x<n/\zw W0 v g w'/\w.grownBy w' (some g)
theorem Js (a:Int):0<=bits .and .i64 a 255/\bits .and .i64 a 255<256:=by
 have e:bits .and .i64 a 255=IntKind.i64.wrap ((BitVec.ofInt 64 a &&& BitVec.ofInt 64 255).toNat :Int):=rfl
 have h:(BitVec.ofInt 64 a &&& BitVec.ofInt 64 255).toNat <=255:=by
  rw[BitVec.toNat_and];exact Nat.and_le_right
 rw[e,IntKind.wrap_i64];omega
theorem z8s (v:Value) (zs:List Int) (w:World) (h:RB w v zs) (hle:zs.length<=1048576):
  Calls Tryz.prog 64 #[v] w fun e w'=>e= .returned (.pointer (some ⟨w.heap.size,0,none⟩))/\zw w v w.heap.size w':=by
 obtain⟨A,c,rfl,hc,hm,hcell⟩:=h.form;clear h hm
 go_enter Tryz.func64,Tryz.ntmps64
 go_wp2
 go_loop [3,4] (fun x i=>∃k:Nat,∃h:Int,k<=zs.length/\i= .int .i64 k/\x= .int .i64 h) (fun _ i=>zs.length -(intOf i).toNat)
 case atStart=>exact⟨0,_,aab _,rfl,rfl⟩
 case round=>
  obtain⟨k,h,hk,rfl,rfl⟩:=hrel
  by_cases Hf:k<zs.length
  ·by_cases h4:k<4000
   ·obtain⟨b,off,rfl,hb,Hz⟩:=hcell o_
    obtain⟨z,hz,hz0,H7⟩:=Hz k Hf;clear Hz hcell;go_wp2;go_round
    case rel=>exact⟨k+1,_,by omega,by go_num,rfl⟩
    case measure=>simp[intOf];omega
   ·clear hcell
    go_wp2;go_ret
    exact⟨rfl,aaa _,(aaj _ _).alloc (aaa _) _,0,h,by omega,Blk.new _ _ _⟩
  ·have gn:k=zs.length:=o_
   subst gn;clear hcell;go_wp2;go_ret
   exact⟨rfl,aaa _,(aaj _ _).alloc (aaa _) _,0,h,by omega,Blk.new _ _ _⟩
theorem Z7 {W0 w w1:World} {v:Value} {g:Nat} {n x:Int} (h0:0<=x) (h1:x<n) (hc:zw W0 v g w1) (hg:w.grownBy w1 (some g)):Drawn W0 v g w n (.returned (.int .i64 x)) w1:=⟨x,rfl,h0,h1,hc,hg⟩
theorem zw.set1 {W0 w:World} {v:Value} {g:Nat} (h:zw W0 v g w) {x:Int} (hx:0<=x):zw W0 v g (w.setCell ⟨g,1,none⟩ (.int .i64 x)):=by
 obtain⟨hg,Hd,i,s,hi,hB⟩:=h;exact⟨hg,Hd.setCell (p:=⟨g,1,none⟩) hg _,x,s,hx,hB.set_ 1 _⟩
theorem zw.set2 {W0 w:World} {v:Value} {g:Nat} (h:zw W0 v g w) (x:Int):zw W0 v g (w.setCell ⟨g,2,none⟩ (.int .i64 x)):=by
 obtain⟨hg,Hd,i,s,hi,hB⟩:=h;exact⟨hg,Hd.setCell (p:=⟨g,2,none⟩) hg _,i,x,hi,hB.set_ 2 _⟩
theorem zw.drewN {W0 w:World} {v:Value} {g:Nat} (h:zw W0 v g w) (n:Nat):zw W0 v g (w.drewN n):=by
 obtain⟨hg,Hd,i,s,hi,hB⟩:=h;exact⟨hg,ke Hd n,i,s,hi,hB.drewN n⟩
theorem xA (W0:World) (v:Value) (zs:List Int) (g:Nat) (w:World) (h:RB W0 v zs) (hle:zs.length<=1048576) (hc:zw W0 v g w):
  Calls Tryz.prog 201 #[.pointer (some ⟨g,0,none⟩)] w (Drawn W0 v g w 256):=by
 have HC:=h_ hc;obtain⟨hg,Hd,i,s,hi,hB⟩:=hc;obtain⟨A,c,rfl,Gj,hm,hcell⟩:=h.form;clear h hm;have c0:=hB.cell 0;have c1:=hB.cell 1;have c2:=hB.cell 2;have f1:=hB.frozen 1;have f2:=hB.frozen 2;simp only[abd,aah,aag] at c0 c1 c2
 clear hB
 by_cases Hf:i<zs.length
 ·obtain⟨k,rfl⟩:=Int.eq_ofNat_of_zero_le hi
  obtain⟨b,off,rfl,hb,Hz⟩:=hcell o_;obtain⟨z,hz,hz0,H7⟩:=Hz k o_;have hzw:=(Hd.cell (p:=⟨b,off+k,none⟩) hb).trans hz;clear Hz hcell hz Hd
  go_enter Tryz.func201,Tryz.ntmps201
  go_wp2
  go_quiet (fail)
  go_wp2
  go_quiet (fail)
  go_wp2
  go_quiet (fail)
  go_wp2;go_ret
  exact Z7 (Js _).1 (Js _).2 (((HC.out.set2 _).drewN _).set1 o_) (k7 (Qv (k7 (World.grownBy.refl _ _) _ _) _) _ _)
 ·clear hcell Hd
  go_enter Tryz.func201,Tryz.ntmps201
  go_wp2
  go_quiet (fail)
  go_wp2
  go_quiet (fail)
  go_wp2;go_ret
  exact Z7 (Js _).1 (Js _).2 (((HC.out.set2 _).drewN _).drewN _) (Qv (Qv (k7 (World.grownBy.refl _ _) _ _) _) _)
theorem zo (W0:World) (v:Value) (zs:List Int) (g:Nat) (n:Int) (w:World) (h:RB W0 v zs) (hle:zs.length<=1048576) (hn:0<n) (hc:zw W0 v g w):
  Calls Tryz.prog 125 #[.pointer (some ⟨g,0,none⟩),.int .i64 n] w (Drawn W0 v g w n):=by
 by_cases h2:n<=256
 ·go_enter Tryz.func125,Tryz.ntmps125
  go_wp2_with fail
  refine(xA W0 v zs g _ h hle hc).mono ?_
  rintro e w1 ⟨x,rfl,x0,x1,gl,gL⟩;have Hv:¬n=0:=o_
  go_wp2;go_ret
  exact Z7 (Int.emod_nonneg _ o_) (Int.emod_lt_of_pos _ hn) gl gL
 ·go_enter Tryz.func125,Tryz.ntmps125
  go_wp2_with fail
  refine(xA W0 v zs g _ h hle hc).mono ?_
  rintro e w1 ⟨x,rfl,x0,x1,gl,gL⟩
  go_wp2_with fail
  refine(xA W0 v zs g _ h hle gl).mono ?_
  rintro e w2 ⟨y,rfl,y0,y1,gV,gu⟩
  go_wp2_with fail
  refine(xA W0 v zs g _ h hle gV).mono ?_
  rintro e w3 ⟨z,rfl,z0,z1,GK,gq⟩
  go_wp2_with fail
  refine(xA W0 v zs g _ h hle GK).mono ?_
  rintro e w4 ⟨u,rfl,u0,u1,cf,Gf⟩;have Hv:¬n=0:=o_
  go_wp2;go_ret
  exact Z7 (Int.emod_nonneg _ o_) (Int.emod_lt_of_pos _ hn) cf (zb (zb (zb gL gu) gq) Gf)
theorem zw.alloc {W0 w:World} {v:Value} {g:Nat} (h:zw W0 v g w) (o:Obj):zw W0 v g (w.alloc o):=by
 obtain⟨hg,Hd,i,s,hi,hB⟩:=h;exact⟨hg,Hd.alloc Hd.size o,i,s,hi,hB.alloc o⟩
theorem zw.lt {W0 w:World} {v:Value} {g:Nat} (h:zw W0 v g w):g<w.heap.size:=by
 obtain⟨hg,Hd,i,s,hi,hB⟩:=h;exact hB.lt
theorem zw.far {W0 w:World} {v:Value} {g:Nat} (h:zw W0 v g w) {p:Addr} (hp:g<p.block) (x:Value):zw W0 v g (w.setCell p x):=by
 obtain⟨hg,Hd,i,s,hi,hB⟩:=h;exact⟨hg,Hd.setCell o_ _,i,s,hi,hB.far o_ x⟩
section
variable {P:Program} {md:Region.Mode} {ops:Array Oper} {Q:Exit->Act->World->Prop} {S:World->Prop}
theorem z86 {n i j:Nat} {o1 o2:Oper} {fuel:Nat} {listed:Array Bool} {a:Act} {w:World} (Hj:(ops.toList.drop i).head? =some o1) (Hn:(ops.toList.drop j).head? =some o2) (hr:Region.ready md ops listed=[i,j])
  (h1:∀K':Act->World->Prop,(∀a w,((listed.setIfInBounds i true).getD n true=false->S w)->(((listed.setIfInBounds i true).getD n true=false->S w)->anyE P md ops Q S n fuel (listed.setIfInBounds i true) a w)->K' a w)->if Region.wanted o1 (yielded ops a.tmps)=true then Oper.wp P o1 a w K' Q else K' (a.put o1.dst undef) w)
  (h2:∀K':Act->World->Prop,(∀a w,((listed.setIfInBounds j true).getD n true=false->S w)->(((listed.setIfInBounds j true).getD n true=false->S w)->anyE P md ops Q S n fuel (listed.setIfInBounds j true) a w)->K' a w)->if Region.wanted o2 (yielded ops a.tmps)=true then Oper.wp P o2 a w K' Q else K' (a.put o2.dst undef) w):
  anyE P md ops Q S n (fuel+1) listed a w:=by
 refine⟨fun h0=>(by rw[h0] at hr;cases hr),fun k hk=>?_⟩
 rw[hr] at hk;simp only[List.mem_cons,List.mem_nil_iff,or_false] at hk
 rcases hk with rfl|rfl
 ·exact wpOp_step (qp Hj) (fun K' hK=>h1 K' (fun a w hS hW=>hK a w ⟨hS,hW hS⟩))
 ·exact wpOp_step (qp Hn) (fun K' hK=>h2 K' (fun a w hS hW=>hK a w ⟨hS,hW hS⟩))
end
theorem z6K (v:Value) (zs:List Int) (b:Bool) (w:World) (h:RB w v zs) (hb:decide ((1048576:Int)<zs.length)=b):
  Calls Tryz.prog 13 #[v] w fun e w'=>e= .returned (.bool b)/\w=w':=by
 subst hb;obtain⟨A,c,rfl,hc,hm,hcell⟩:=h.form;clear h hcell
 go_enter Tryz.func13,Tryz.ntmps13
 go_wp2;go_ret
 exact⟨rfl,rfl⟩
end Go.Proofs.YtnjcpljhmhdhkaaGreat
