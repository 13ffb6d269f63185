/- part 1 -/
import Derived.Test.YtnjcpljhmhdhkaaGreatUPk0
import Derived.Deep.DeepCutAuto
import Derived.OrdersHeld
import Derived.Deep.RegionHeld3
import Derived.StillTail
import Derived.Deep.AppendSrc
import Derived.Deep.AppendLies
import Derived.Test.YtnjcpljhmhdhkaaGreatRows
import Derived.ProofKit
import Derived.OpenShut
import Derived.Lib.SmallJoins
import Derived.Carry
import Derived.ChangeSlices
import Derived.Deep.Slices
import Derived.Deep.Fields
import Derived.ChangeSame
set_option linter.unusedSimpArgs false
set_option linter.unusedVariables false
set_option maxRecDepth 100000
set_option maxHeartbeats 4000000
namespace Go.Proofs.YtnjcpljhmhdhkaaGreat
open Go.RowKit
def OwnW (base:Nat) (w:World) (vn vl:Value) (ns ls:List (Int×Int)):Prop:=
 OwnP 106 base w vn ns/\OwnP 108 base w vl ls/\∀k,vn.ownBlock=some k->vl.ownBlock=some k->False
theorem OwnW.kept {base:Nat} {w w':World} {vn vl:Value} {ns ls:List (Int×Int)} (h:OwnW base w vn vl ns ls) (hb:Below w.heap.size w w'):OwnW base w' vn vl ns ls:=⟨h.1.kept hb,h.2.1.kept hb,h.2.2⟩
theorem OwnW.mono {base base':Nat} {w:World} {vn vl:Value} {ns ls:List (Int×Int)} (h:OwnW base w vn vl ns ls) (hb:base'<=base):OwnW base' w vn vl ns ls:=⟨h.1.mono hb,h.2.1.mono hb,h.2.2⟩
def RetW (ns ls:List (Int×Int)) (w:World) (e:Ending) (w':World):Prop:=∃An cn Al cl,e= .returned (.agg #[.slice An ns.length cn,.slice Al ls.length cl])/\OwnW w.heap.size w' (.slice An ns.length cn) (.slice Al ls.length cl) ns ls/\Below w.heap.size w w'
def szW (n:Int) (a b:Nat):Int:=if n<a then -1 else if n -a<b then -1 else n -a -b
theorem Zd (v:Value) (l:List (Int×Int)) (n x:Int) (w:World) (h:RP w v l) (h0:0<=n) (h1:n<=1000000000) (hx:Hid (szF n l.length=x)):
  Calls Tryz.prog 220 #[v,.int .i64 n] w fun e w'=>e= .returned (.int .i64 x)/\w=w':=
 (z35 v l n w h h0 h1).mono fun e w' ⟨he,hw⟩=>⟨he.trans (zb hx.out),hw⟩
theorem XI (v:Value) (l:List (Int×Int)) (n x:Int) (w:World) (h:RP w v l) (h0:0<=n) (h1:n<=1000000000) (hx:Hid (szF n l.length=x)):
  Calls Tryz.prog 221 #[v,.int .i64 n] w fun e w'=>e= .returned (.int .i64 x)/\w=w':=
 (z2E v l n w h h0 h1).mono fun e w' ⟨he,hw⟩=>⟨he.trans (zb hx.out),hw⟩
theorem z1G (vn vl:Value) (ns ls:List (Int×Int)) (n:Int) (w:World) (hn:RP w vn ns) (hl:RP w vl ls) (h0:0<=n) (h1:n<=1000000000):
  CB_ 164 #[.agg #[vn,vl],.int .i64 n] w (.int .i64 (szW n ns.length ls.length)):=by
 by_cases ha:n<ns.length
 ·have HF:Hid (szF n ns.length= -1):=h_ (by unfold szF;rw[aao ha])
  have HW:Hid (szW n ns.length ls.length= -1):=h_ (by unfold szW;rw[aao ha])
  go_enter Tryz.func164,Tryz.ntmps164
  go_wp2_with fail
  refine(Zd _ ns n (-1) _ (hn.below bel_) h0 h1 HF).mono ?_
  rintro e w' ⟨rfl,rfl⟩;go_wp2;go_ret
  exact⟨zb HW.out.symm,by exact bel_⟩
 ·have HF:Hid (szF n ns.length=n -ns.length):=h_ (by unfold szF;rw[aaq ha])
  by_cases hb:n -ns.length<ls.length
  ·have HG:Hid (szF (n -ns.length) ls.length= -1):=h_ (by unfold szF;rw[aao hb])
   have HW:Hid (szW n ns.length ls.length= -1):=h_ (by unfold szW;rw[aaq ha,aao hb]);have MY:0<=n -ns.length:=o_
   go_enter Tryz.func164,Tryz.ntmps164
   go_wp2_with fail
   refine(Zd _ ns n (n -ns.length) _ (hn.below bel_) h0 h1 HF).mono ?_
   rintro e w' ⟨rfl,rfl⟩
   go_wp2_with fail
   refine(XI _ ls (n -ns.length) (-1) _ (hl.below bel_) MY o_ HG).mono ?_
   rintro e w' ⟨rfl,rfl⟩;go_wp2;go_ret
   exact⟨zb HW.out.symm,by exact bel_⟩
  ·have HG:Hid (szF (n -ns.length) ls.length=n -ns.length -ls.length):=h_ (by unfold szF;rw[aaq hb])
   have HW:Hid (szW n ns.length ls.length=n -ns.length -ls.length):=h_ (by unfold szW;rw[aaq ha,aaq hb]);have MY:0<=n -ns.length:=o_
   have hge3:¬n -ns.length -ls.length<0:=o_
   go_enter Tryz.func164,Tryz.ntmps164
   go_wp2_with fail
   refine(Zd _ ns n (n -ns.length) _ (hn.below bel_) h0 h1 HF).mono ?_
   rintro e w' ⟨rfl,rfl⟩
   go_wp2_with fail
   refine(XI _ ls (n -ns.length) _ _ (hl.below bel_) MY o_ HG).mono ?_
   rintro e w' ⟨rfl,rfl⟩;go_wp2;go_ret
   exact⟨zb HW.out.symm,by exact bel_⟩
theorem x7 (vn vl:Value) (ns ls:List (Int×Int)) (w:World) (hn:RP w vn ns) (hl:RP w vl ls) (h1:ns.length<=1048576) (h2:ls.length<=1048576):
  Calls Tryz.prog 168 #[.agg #[vn,vl]] w (RetW ns ls w):=by
 go_enter Tryz.func168,Tryz.ntmps168
 go_wp2_with fail
 refine(z38 _ ns _ (hn.below bel_) h1).mono ?_
 rintro e w1 ⟨A1,c1,rfl,Hj,h9⟩;(first|(with_reducible have Gb:=bdC h9)|have Gb:=bcC h9);(first|(with_reducible have BD:=bdF h9)|have BD:=bcF h9);have H8:=h9.size;(try simp at H8);(try have gR:=p0_ w w1);(try have Gk:=p1_ w w1);(try have fZ:=p2_ w w1);(try have Np:=p3_ w w1)
 have h8:Below w.heap.size w w1:=bel_
 have o1:OwnP 106 (w.heap.size+1+1+1) w1 (.slice A1 ns.length c1) ns:=by simpa using Hj
 have Hr:=o1.lt
 go_wp2_with fail
 refine(z3L _ ls _ (hl.below bel_) h2).mono ?_
 rintro e w2 ⟨A2,c2,rfl,Hm,He⟩;(first|(with_reducible have fa:=bdC He)|have fa:=bcC He);(first|(with_reducible have M0:=bdF He)|have M0:=bcF He);have Gd:=He.size;(try simp at Gd);(try have gX:=p0_ w w2);(try have gY:=p1_ w w2);(try have fm:=p2_ w w2);(try have BE:=p3_ w w2)
 have o2:OwnP 108 w1.heap.size w2 (.slice A2 ls.length c2) ls:=by simpa using Hm
 have o1':=h_ ((((((o1.setLow (p:=⟨w.heap.size+1+1,0,none⟩) (by simp) (.slice A1 ns.length c1)).kept He).setLow (p:=⟨w.heap.size+1+1,1,none⟩) (by simp) (.slice A2 ls.length c2)).setLow (p:=⟨w.heap.size+1,0,none⟩) sz_ (.slice A1 ns.length c1)).setLow (p:=⟨w.heap.size+1,1,none⟩) sz_ (.slice A2 ls.length c2)).mono (show w.heap.size<=_ by omega));have o2':=h_ ((((o2.setLow (p:=⟨w.heap.size+1+1,1,none⟩) sz_ (.slice A2 ls.length c2)).setLow (p:=⟨w.heap.size+1,0,none⟩) sz_ (.slice A1 ns.length c1)).setLow (p:=⟨w.heap.size+1,1,none⟩) sz_ (.slice A2 ls.length c2)).mono (show w.heap.size<=_ by omega))
 have bK:Hid (∀k,(Value.slice A1 ns.length c1).ownBlock =some k->(Value.slice A2 ls.length c2).ownBlock =some k->False):=h_ (fun k h1 h2=>by
  have:=(Hr k h1).2;have:=(o2.lt k h2).1;omega)
 go_wp2;exact bodyPost_ret (v:= .agg #[.slice A1 ns.length c1,.slice A2 ls.length c2]) (by simp[results,Tryz.results168,go_sem,gR,Gk,fZ,gX,gY,fm,fa,Gb]) rfl ⟨_,_,_,_,rfl,⟨o1'.out,o2'.out,bK.out⟩,by exact bel_⟩
theorem x9 (vn vl un ul:Value) (ns ls:List (Int×Int)) (w:World) (hn:RP w vn ns) (hl:RP w vl ls) (FM:RP w un ns) (Gc:RP w ul ls):
  CB_ 172 #[.agg #[vn,vl],.agg #[un,ul]] w (.bool true):=by
 go_enter Tryz.func172,Tryz.ntmps172
 go_wp2_with fail
 refine(z2J _ _ ns _ (hn.below bel_) (FM.below bel_)).mono ?_
 rintro e w1 ⟨rfl,h9⟩;(have Gb:=bcC h9);have H8:=h9.size;(try simp at H8)
 have h8:Below w.heap.size w w1:=bel_
 go_wp2_with fail
 refine(z2z _ _ ls _ (hl.below h8) (Gc.below h8)).mono ?_
 rintro e w2 ⟨rfl,He⟩;go_wp2;go_ret
 exact⟨rfl,by exact bel_⟩
attribute [local go_sem ↓] zv Z1 zu Z4
theorem QK (v u:Value) (zs ys:List (Int×Int)) (w:World) (hv:RP w v zs) (hu:RP w u ys):
  CB_ 159 #[v,u] w (.bool (decide (zs=ys))):=by
 obtain⟨A,c,rfl,hc,hm,hcell⟩:=hv.form;obtain⟨A',c',rfl,Nn,ce,Hs⟩:=hu.form;unfold maxLen at hm ce
 by_cases Hi:zs.length=ys.length
 ·have e1:((zs.length:Int) != (ys.length:Int))=false:=by simp[Hi]
  have GP:=h_ Hi
  go_enter Tryz.func159,Tryz.ntmps159
  go_wp2
  go_loopw [13] (fun i wr=>∃k:Nat,k<=zs.length/\i= .int .i64 k/\Hid (zs.take k=ys.take k)/\Below w.heap.size w wr) (fun i _=>zs.length -(intOf i).toNat)
  case atStart=>exact⟨0,aab _,rfl,h_ (by simp),aaj _ _⟩
  case round=>
   obtain⟨k,hk,rfl,HT,Hb⟩:=hrel
   by_cases Hd:k<zs.length
   ·obtain⟨b,off,rfl,hb,Ho⟩:=hcell o_
    have fJ:k<ys.length:=by rw[<-GP.out];exact Hd
    obtain⟨b',off',rfl,gw,Gw⟩:=Hs o_;obtain⟨k0,k1⟩:=Ho k Hd;obtain⟨j0,j1⟩:=Gw k fJ;have q0:=(Hb.cell (p:=⟨b,off+k*2,none⟩) hb).trans k0;have q1:=(Hb.cell (p:=⟨b,off+k*2+1,none⟩) hb).trans k1;have p0:=(Hb.cell (p:=⟨b',off'+k*2,none⟩) gw).trans j0;have p1:=(Hb.cell (p:=⟨b',off'+k*2+1,none⟩) gw).trans j1;have FT:(0:Int)<=(k:Int):=o_
    have cf:(k:Int)<(zs.length:Int):=o_
    have MZ:(k:Int)<(ys.length:Int):=o_
    cases GI:prB zs[k].1 zs[k].2 ys[k].1 ys[k].2
    ·have HE:Hid (¬zs[k]=ys[k]):=h_ (fun h=>by rw[h,xY] at GI;cases GI)
     go_wp2
     go_quiet (fail)
     go_wp2;go_ret
     refine⟨z8 ?_,by exact bel_⟩
     symm
     rw[aaK];intro Fz;exact HE.out (by simp[Fz])
    ·have HE:Hid (zs[k]=ys[k]):=h_ (kh.1 GI)
     go_wp2
     go_quiet (fail)
     go_wp2;go_roundw
     case rel=>exact⟨k+1,by omega,by go_num,h_ (yE HT.out Hd fJ HE.out),by exact bel_⟩
     case measure=>simp[intOf];omega
   ·have Hw:zs.length<=k:=o_
    have Bf:zs=ys:=by
     have h:=HT.out;rw[aaL Hw,aaL (by rw[<-GP.out];exact Hw)] at h;exact h
    have HE:=h_ Bf;go_wp2;go_ret
    exact⟨z8 (by symm;simpa using HE.out),Hb⟩
 ·have e1:((zs.length:Int) != (ys.length:Int))=true:=by simp;omega
  have HE:Hid (¬zs=ys):=h_ (fun h=>Hi (by rw[h]))
  go_enter Tryz.func159,Tryz.ntmps159
  go_wp2;go_ret
  exact⟨z8 (by symm;simpa using HE.out),aaj _ _⟩
theorem QM (v u:Value) (zs ys:List (Int×Int)) (w:World) (hv:RP w v zs) (hu:RP w u ys):
  CB_ 160 #[v,u] w (.bool (decide (zs=ys))):=by
 obtain⟨A,c,rfl,hc,hm,hcell⟩:=hv.form;obtain⟨A',c',rfl,Nn,ce,Hs⟩:=hu.form;unfold maxLen at hm ce
 by_cases Hi:zs.length=ys.length
 ·have e1:((zs.length:Int) != (ys.length:Int))=false:=by simp[Hi]
  have GP:=h_ Hi
  go_enter Tryz.func160,Tryz.ntmps160
  go_wp2
  go_loopw [13] (fun i wr=>∃k:Nat,k<=zs.length/\i= .int .i64 k/\Hid (zs.take k=ys.take k)/\Below w.heap.size w wr) (fun i _=>zs.length -(intOf i).toNat)
  case atStart=>exact⟨0,aab _,rfl,h_ (by simp),aaj _ _⟩
  case round=>
   obtain⟨k,hk,rfl,HT,Hb⟩:=hrel
   by_cases Hd:k<zs.length
   ·obtain⟨b,off,rfl,hb,Ho⟩:=hcell o_
    have fJ:k<ys.length:=by rw[<-GP.out];exact Hd
    obtain⟨b',off',rfl,gw,Gw⟩:=Hs o_;obtain⟨k0,k1⟩:=Ho k Hd;obtain⟨j0,j1⟩:=Gw k fJ;have q0:=(Hb.cell (p:=⟨b,off+k*2,none⟩) hb).trans k0;have q1:=(Hb.cell (p:=⟨b,off+k*2+1,none⟩) hb).trans k1;have p0:=(Hb.cell (p:=⟨b',off'+k*2,none⟩) gw).trans j0;have p1:=(Hb.cell (p:=⟨b',off'+k*2+1,none⟩) gw).trans j1;have FT:(0:Int)<=(k:Int):=o_
    have cf:(k:Int)<(zs.length:Int):=o_
    have MZ:(k:Int)<(ys.length:Int):=o_
    cases GI:prB zs[k].1 zs[k].2 ys[k].1 ys[k].2
    ·have HE:Hid (¬zs[k]=ys[k]):=h_ (fun h=>by rw[h,xY] at GI;cases GI)
     go_wp2
     go_quiet (fail)
     go_wp2;go_ret
     refine⟨z8 ?_,by exact bel_⟩
     symm
     rw[aaK];intro Fz;exact HE.out (by simp[Fz])
    ·have HE:Hid (zs[k]=ys[k]):=h_ (kh.1 GI)
     go_wp2
     go_quiet (fail)
     go_wp2;go_roundw
     case rel=>exact⟨k+1,by omega,by go_num,h_ (yE HT.out Hd fJ HE.out),by exact bel_⟩
     case measure=>simp[intOf];omega
   ·have Hw:zs.length<=k:=o_
    have Bf:zs=ys:=by
     have h:=HT.out;rw[aaL Hw,aaL (by rw[<-GP.out];exact Hw)] at h;exact h
    have HE:=h_ Bf;go_wp2;go_ret
    exact⟨z8 (by symm;simpa using HE.out),Hb⟩
 ·have e1:((zs.length:Int) != (ys.length:Int))=true:=by simp;omega
  have HE:Hid (¬zs=ys):=h_ (fun h=>Hi (by rw[h]))
  go_enter Tryz.func160,Tryz.ntmps160
  go_wp2;go_ret
  exact⟨z8 (by symm;simpa using HE.out),aaj _ _⟩
def qL (ns ls ns' ls':List (Int×Int)):Bool:=decide (ns=ns')&&decide (ls=ls')
theorem k8 (v u:Value) (zs ys:List (Int×Int)) (b:Bool) (w:World) (hv:RP w v zs) (hu:RP w u ys) (hx:Hid (decide (zs=ys)=b)):
  CB_ 159 #[v,u] w (.bool b):=
 (QK v u zs ys w hv hu).mono fun e w' ⟨he,hw⟩=>⟨he.trans (z8 hx.out),hw⟩
theorem JZ (vn vl un ul:Value) (ns ls ns' ls':List (Int×Int)) (w:World) (hn:RP w vn ns) (hl:RP w vl ls) (FM:RP w un ns') (Gc:RP w ul ls'):
  CB_ 88 #[.agg #[vn,vl],.agg #[un,ul]] w (.bool (qL ns ls ns' ls')):=by
 cases h1:decide (ns=ns')
 ·have HF:Hid (qL ns ls ns' ls'=false):=h_ (by simp[qL,h1])
  have H1:=h_ h1
  go_enter Tryz.func88,Tryz.ntmps88
  go_wp2_with fail
  refine(k8 _ _ ns ns' _ _ (hn.below bel_) (FM.below bel_) H1).mono ?_
  rintro e w1 ⟨rfl,h9⟩;go_wp2;go_ret
  exact⟨z8 HF.out.symm,by exact bel_⟩
 ·have HF:Hid (qL ns ls ns' ls'=decide (ls=ls')):=h_ (by simp[qL,h1])
  have H1:=h_ h1
  go_enter Tryz.func88,Tryz.ntmps88
  go_wp2_with fail
  refine(k8 _ _ ns ns' _ _ (hn.below bel_) (FM.below bel_) H1).mono ?_
  rintro e w1 ⟨rfl,h9⟩;(have Gb:=bcC h9);have H8:=h9.size;(try simp at H8)
  have h8:Below w.heap.size w w1:=bel_
  go_wp2_with fail
  refine(QM _ _ ls ls' _ (hl.below h8) (Gc.below h8)).mono ?_
  rintro e w2 ⟨rfl,He⟩;rw[<-HF.out];go_wp2;go_ret
  exact⟨rfl,by exact bel_⟩
attribute [local go_sem ↓] zv zu qb qf
def ja (ax ay bx by':Int):Int:=if by'>ay∨(by'=ay/\bx>ax) then 0 else 1
def befB (ax ay bx by' cx cy:Int):Bool:=
 zh ax ay&&zh bx by'&&zh cx cy&&(if ja ax ay bx by'=ja ax ay cx cy then decide (0<zU ax ay bx by' cx cy) else decide (ja ax ay bx by'<ja ax ay cx cy))
theorem J0 (ax ay bx by':Int) (w:World):
  CB_ 276 #[.agg #[.int .i64 ax,.int .i64 ay],.agg #[.int .i64 bx,.int .i64 by']] w (.int .i64 (ja ax ay bx by')):=by
 go_enter Tryz.func276,Tryz.ntmps276
 go_wp2
 all_goals go_ret
 all_goals refine⟨zb ?_,by exact bel_⟩
 all_goals unfold ja
 all_goals first|(rw[aao o_];done)|(rw[aaq o_];done)|(simp_all;done)|(simp_all;omega)
theorem V5 {ax ay bx by' cx cy:Int} (h:¬(zh ax ay=true/\zh bx by'=true/\zh cx cy=true)):befB ax ay bx by' cx cy=false:=by
 unfold befB
 cases h1:zh ax ay<;>cases h2:zh bx by'<;>cases h3:zh cx cy<;>simp_all
theorem z2F (ax ay bx by' cx cy:Int) (w:World):
  Calls Tryz.prog 272 #[.agg #[.int .i64 ax,.int .i64 ay],.agg #[.int .i64 bx,.int .i64 by'],.agg #[.int .i64 cx,.int .i64 cy]] w
   fun e w'=>e= .returned (.bool (befB ax ay bx by' cx cy))/\Below w.heap.size w w':=by
 cases h1:zh ax ay
 ·have HR:=h_ (V5 (ax:=ax) (ay:=ay) (bx:=bx) (by':=by') (cx:=cx) (cy:=cy) (by rw[h1];simp))
  go_enter Tryz.func272,Tryz.ntmps272
  go_wp2_with fail
  refine(zH _ _ _ _ h1).mono ?_
  rintro e w1 ⟨rfl,h9⟩;go_wp2;go_ret
  exact⟨z8 HR.out.symm,by exact bel_⟩
 cases h2:zh bx by'
 ·have HR:=h_ (V5 (ax:=ax) (ay:=ay) (bx:=bx) (by':=by') (cx:=cx) (cy:=cy) (by rw[h2];simp))
  go_enter Tryz.func272,Tryz.ntmps272
  go_wp2_with fail
  refine(zH _ _ _ _ h1).mono ?_
  rintro e w1 ⟨rfl,h9⟩;(have Gb:=bcC h9);have H8:=h9.size;(try simp at H8)
  go_wp2_with fail
  refine(zH _ _ _ _ h2).mono ?_
  rintro e w2 ⟨rfl,He⟩;go_wp2;go_ret
  exact⟨z8 HR.out.symm,by exact bel_⟩
 cases h3:zh cx cy
 ·have HR:=h_ (V5 (ax:=ax) (ay:=ay) (bx:=bx) (by':=by') (cx:=cx) (cy:=cy) (by rw[h3];simp))
  go_enter Tryz.func272,Tryz.ntmps272
  go_wp2_with fail
  refine(zH _ _ _ _ h1).mono ?_
  rintro e w1 ⟨rfl,h9⟩;(have Gb:=bcC h9);have H8:=h9.size;(try simp at H8);(try have fZ:=p2_ w w1)
  go_wp2_with fail
  refine(zH _ _ _ _ h2).mono ?_
  rintro e w2 ⟨rfl,He⟩;(have fa:=bcC He);have Gd:=He.size;(try simp at Gd);(try have gX:=p0_ w w2);(try have gY:=p1_ w w2);(try have fm:=p2_ w w2)
  go_wp2_with fail
  refine(zH _ _ _ _ h3).mono ?_
  rintro e w3 ⟨rfl,Hf⟩;go_wp2;go_ret
  exact⟨z8 HR.out.symm,by exact bel_⟩
 ·have HR:Hid (befB ax ay bx by' cx cy=(if ja ax ay bx by'=ja ax ay cx cy then decide (0<zU ax ay bx by' cx cy) else decide (ja ax ay bx by'<ja ax ay cx cy))):=h_ (by unfold befB;rw[h1,h2,h3];rfl)
  by_cases uO:ja ax ay bx by'=ja ax ay cx cy
  ·have e1:(ja ax ay bx by' != ja ax ay cx cy)=false:=by simp[uO]
   rw[aao uO] at HR;clear uO
   go_enter Tryz.func272,Tryz.ntmps272
   go_wp2_with fail
   refine(zH _ _ _ _ h1).mono ?_
   rintro e w1 ⟨rfl,h9⟩;(have Gb:=bcC h9);have H8:=h9.size;(try simp at H8);(try have gR:=p0_ w w1);(try have Gk:=p1_ w w1);(try have fZ:=p2_ w w1)
   go_wp2_with fail
   refine(zH _ _ _ _ h2).mono ?_
   rintro e w2 ⟨rfl,He⟩;(have fa:=bcC He);have Gd:=He.size;(try simp at Gd);(try have gX:=p0_ w w2);(try have gY:=p1_ w w2);(try have fm:=p2_ w w2)
   go_wp2_with fail
   refine(zH _ _ _ _ h3).mono ?_
   rintro e w3 ⟨rfl,Hf⟩;(have fU:=bcC Hf);have fA:=Hf.size;(try simp at fA);(try have cP:=p0_ w w3);(try have cQ:=p1_ w w3);(try have No:=p2_ w w3)
   go_wp2_with fail
   (refine z7 k_ k_ (fun hG=>?_))
   repeat (go_big_quiet_step ((go_at_call 276;exact zy (J0 _ _ _ _ _))))
   (refine wpQuiet_nil ?_);(clear hG);(rintro w4 ⟨⟨_,Hv⟩,rfl⟩);(try dsimp only);(have Cp:=bcC Hv);have Bg:=Hv.size;(try simp at Bg);(try have UN:=p0_ w w4);(try have UO:=p1_ w w4);(try have UP:=p2_ w w4)
   go_wp2_with fail
   refine(Qw _ _ _ _ _ _ _ h1 h2 h3).mono ?_
   rintro e w5 ⟨rfl,gf⟩;go_wp2;go_ret
   exact⟨z8 HR.out.symm,by exact bel_⟩
  ·have e1:(ja ax ay bx by' != ja ax ay cx cy)=true:=by simp[uO]
   rw[aaq uO] at HR;clear uO
   go_enter Tryz.func272,Tryz.ntmps272
   go_wp2_with fail
   refine(zH _ _ _ _ h1).mono ?_
   rintro e w1 ⟨rfl,h9⟩;(have Gb:=bcC h9);have H8:=h9.size;(try simp at H8);(try have gR:=p0_ w w1);(try have Gk:=p1_ w w1);(try have fZ:=p2_ w w1)
   go_wp2_with fail
   refine(zH _ _ _ _ h2).mono ?_
   rintro e w2 ⟨rfl,He⟩;(have fa:=bcC He);have Gd:=He.size;(try simp at Gd);(try have gX:=p0_ w w2);(try have gY:=p1_ w w2);(try have fm:=p2_ w w2)
   go_wp2_with fail
   refine(zH _ _ _ _ h3).mono ?_
   rintro e w3 ⟨rfl,Hf⟩;(have fU:=bcC Hf);have fA:=Hf.size;(try simp at fA);(try have cP:=p0_ w w3);(try have cQ:=p1_ w w3);(try have No:=p2_ w w3)
   go_wp2_with fail
   (refine z7 k_ k_ (fun hG=>?_))
   repeat (go_big_quiet_step ((go_at_call 276;exact zy (J0 _ _ _ _ _))))
   (refine wpQuiet_nil ?_);(clear hG);(rintro w4 ⟨⟨_,Hv⟩,rfl⟩);(try dsimp only);(have Cp:=bcC Hv);have Bg:=Hv.size;(try simp at Bg);(try have UN:=p0_ w w4);(try have UO:=p1_ w w4);(try have UP:=p2_ w w4)
   go_wp2_with fail
   (refine z7 k_ k_ (fun hG=>?_))
   repeat (go_big_quiet_step ((go_at_call 276;exact zy (J0 _ _ _ _ _))))
   (refine wpQuiet_nil ?_);(clear hG);(rintro w5 ⟨⟨_,gf⟩,rfl⟩);(try dsimp only)
   go_wp2;go_ret
   exact⟨z8 HR.out.symm,by exact bel_⟩
def zc (ls:List Pr) (d:Nat):Int:=if d%2=1 then(ndI ls (d/2:Nat)).2 else(ndI ls (d/2:Nat)).1
def dTo (ls:List Pr) (d:Nat):Int:=if d%2=1 then(ndI ls (d/2:Nat)).1 else(ndI ls (d/2:Nat)).2
theorem tdiv2 (d:Nat):Int.tdiv (d:Int) 2=((d/2:Nat):Int):=by
 rw[Int.tdiv_eq_ediv_of_nonneg o_];omega
theorem tmod2 (d:Nat):Int.tmod (d:Int) 2=((d%2:Nat):Int):=by
 rw[Int.tmod_eq_emod_of_nonneg o_];omega
theorem kR (vn vl:Value) (ls:List Pr) (d:Nat) (w:World) (hl:RP w vl ls) (hd:d<2*ls.length):
  CB_ 192 #[.agg #[vn,vl],.int .i64 d] w (.tuple #[.int .i64 (zc ls d),.int .i64 (dTo ls d)]):=by
 obtain⟨A,c,rfl,hc,hm,hcell⟩:=hl.formI;unfold maxLen at hm;clear hl;obtain⟨b,off,rfl,hb,Ho⟩:=hcell o_;obtain⟨k0,k1⟩:=Ho (d/2) o_;have t1:=tdiv2 d;have t2:=tmod2 d;have HF:Hid (zc ls d=if d%2=1 then(ndI ls (d/2:Nat)).2 else(ndI ls (d/2:Nat)).1):=h_ rfl;have HG:Hid (dTo ls d=if d%2=1 then(ndI ls (d/2:Nat)).1 else(ndI ls (d/2:Nat)).2):=h_ rfl;have hq:d/2<ls.length:=o_
 have UQ:((d/2:Nat):Int)<(ls.length:Int):=o_
 have hq2:(0:Int)<=((d/2:Nat):Int):=o_
 have hr:d%2=0∨d%2=1:=o_
 generalize d/2=q at*;generalize ndI ls (q:Int)=L at*;obtain⟨l1,l2⟩:=L;simp only at k0 k1 HF HG
 clear Ho hcell
 rcases hr with hr|hr
 ·rw[hr] at HF HG t2
  have e1:((0:Nat):Int)=0:=rfl
  go_enter Tryz.func192,Tryz.ntmps192
  go_wp2
  go_quiet (fail)
  go_wp2;exact bodyPost_ret (v:= .tuple #[.int .i64 l1,.int .i64 l2]) (by simp[results,Tryz.results192,go_sem]) rfl ⟨by rw[HF.out,HG.out];rfl,by exact bel_⟩
 ·rw[hr] at HF HG t2
  have e1:((1:Nat):Int)=1:=rfl
  go_enter Tryz.func192,Tryz.ntmps192
  go_wp2
  go_quiet (fail)
  go_wp2;exact bodyPost_ret (v:= .tuple #[.int .i64 l2,.int .i64 l1]) (by simp[results,Tryz.results192,go_sem]) rfl ⟨by rw[HF.out,HG.out];rfl,by exact bel_⟩
attribute [local go_sem ↓] zv Z1 zu Z4
def idxP (l:List Pr) (p:Pr):Int:=if p∈l then(l.idxOf p:Int) else -1
theorem z9D {l:List Pr} {p:Pr} (h:p∉l):idxP l p= -1:=by simp[idxP,h]
theorem z9z {l:List Pr} {p:Pr} {k:Nat} (hk:k<l.length) (h:p∉l.take k) (hp:ndI l k=p):idxP l p=k:=by
 rw[qd l k hk] at hp
 have e:l=l.take k++p::l.drop (k+1):=by
  rw[<-hp,<-aas hk,abp]
 have hm:p∈l:=by rw[e];simp
 unfold idxP;rw[aao hm]
 have:l.idxOf p=k:=by
  rw[e,List.idxOf_append,aaq h,List.idxOf_cons_self];simp;omega
 rw[this]
theorem z3G {l:List Pr} {p:Pr}:(0<=idxP l p)↔p∈l:=by
 unfold idxP
 by_cases h:p∈l
 ·rw[aao h];exact⟨fun _=>h,fun _=>by omega⟩
 ·rw[aaq h];exact⟨fun h'=>absurd h' o_,fun h'=>absurd h' h⟩
theorem RP.take {w:World} {A:Option Addr} {n c:Nat} {l:List (Int×Int)} (h:RP w (.slice A n c) l) (k:Nat) (hk:k<=l.length):RP w (.slice A k c) (l.take k):=by
 obtain⟨h0,A',c',hv,h1,h2,h3⟩:=h
 cases hv
 have Hi:(l.take k).length =k:=by simp;omega
 refine⟨zK prc 2 (fun _=>rfl) _,A,c,by rw[Hi],by omega,by omega,fun hn=>?_⟩
 obtain⟨b,off,e1,e2,e3⟩:=h3 o_;refine⟨b,off,e1,e2,fun j u hu=>e3 j u ?_⟩
 have hj:=(List.getElem?_eq_some_iff.1 hu).1;rw[zK prc 2 (fun _=>rfl),Hi] at hj;have g1:=qi prc 2 (fun _=>rfl) (l.take k) (j/2) (j%2) o_ o_;have g2:=qi prc 2 (fun _=>rfl) l (j/2) (j%2) o_ o_;rw[show j/2*2+j%2=j by omega] at g1 g2;rw[g2,<-hu,g1];simp
theorem z06 (v:Value) (l:List Pr) (x y:Int) (w:World) (h:RP w v l):
  CB_ 212 #[v,.agg #[.int .i64 x,.int .i64 y]] w (.int .i64 (idxP l (x,y))):=by
 obtain⟨A,c,rfl,hc,hm,hcell⟩:=h.formI;unfold maxLen at hm;clear h
 go_enter Tryz.func212,Tryz.ntmps212
 go_wp2
 go_loopw [8] (fun i wr=>∃k:Nat,k<=l.length/\i= .int .i64 k/\Hid ((x,y)∉l.take k)/\Blk wr w.heap.size 106 #[.int .i64 x,.int .i64 y]/\Below w.heap.size w wr) (fun i _=>l.length -(intOf i).toNat)
 case atStart=>exact⟨0,aab _,rfl,h_ (by simp),Blk.newAt rfl,by exact bel_⟩
 case round=>
  obtain⟨k,hk,rfl,HT,hB,Hb⟩:=hrel
  by_cases Hd:k<l.length
  ·obtain⟨b,off,rfl,hb,Ho⟩:=hcell o_
   obtain⟨k0,k1⟩:=Ho k Hd;have q0:=(Hb.cell (p:=⟨b,off+k*2,none⟩) hb).trans k0;have q1:=(Hb.cell (p:=⟨b,off+k*2+1,none⟩) hb).trans k1;have FT:(0:Int)<=(k:Int):=o_
   have cf:(k:Int)<(l.length:Int):=o_
   obtain⟨a_0,a_1⟩:=hB.c2;clear k0 k1 Ho hcell
   cases GI:prB x y (ndI l k).1 (ndI l k).2
   ·have HX:Hid ((x,y)∉l.take (k+1)):=h_ (by
     rw[aax Hd,aaJ,aba,<-qd l k Hd];rintro(h|h)
     ·exact HT.out h
     ·rw[<-h] at GI
      simp[xY] at GI)
    go_wp2
    go_quiet (fail)
    go_wp2;go_roundw
    case rel=>exact⟨k+1,by omega,by go_num,HX,hB,by exact bel_⟩
    case measure=>simp[intOf];omega
   ·have HX:Hid (idxP l (x,y)=k):=h_ (z9z Hd HT.out (kh.1 GI).symm)
    go_wp2
    go_quiet (fail)
    go_wp2;go_ret
    exact⟨zb HX.out.symm,by exact bel_⟩
  ·have Hw:l.length<=k:=o_
   have h:=HT.out;rw[aaL Hw] at h;have HX:Hid (idxP l (x,y)= -1):=h_ (z9D h);clear h hcell;go_wp2;go_ret
   exact⟨zb HX.out.symm,Hb⟩
theorem ZR (v:Value) (l:List Pr) (x y:Int) (b:Bool) (w:World) (h:RP w v l) (hb:decide ((x,y)∈l)=b):
  CB_ 155 #[v,.agg #[.int .i64 x,.int .i64 y]] w (.bool b):=by
 obtain⟨z,hz⟩:∃z,idxP l (x,y)=z:=⟨_,rfl⟩;have HZ:Hid (decide (0<=z)=b):=h_ (by rw[<-hz,<-hb];simp[z3G])
 go_enter Tryz.func155,Tryz.ntmps155
 go_wp2_with fail
 refine(z06 _ l _ _ _ (h.below bel_)).mono ?_
 rw[hz];rintro e w1 ⟨rfl,h9⟩;go_wp2;go_ret
 exact⟨z8 HZ.out,by exact bel_⟩
theorem yZ {a b:Nat} (ha:a<2^63) (hb:b<2^63):bits .or .i64 (a:Int) (b:Int)=((a ||| b:Nat):Int):=by
 have e:bits .or .i64 (a:Int) (b:Int)=IntKind.i64.wrap ((BitVec.ofInt 64 (a:Int) ||| BitVec.ofInt 64 (b:Int)).toNat :Int):=rfl;have h:a ||| b<2^63:=Nat.or_lt_two_pow ha hb
 rw[e,BitVec.ofInt_natCast,BitVec.ofInt_natCast,BitVec.toNat_or,BitVec.toNat_ofNat,BitVec.toNat_ofNat,abv o_,abv o_];exact aaQ _ o_
theorem ZC {a b:Nat} (ha:a<2^63) (hb:b<2^63):bits .and .i64 (a:Int) (b:Int)=((a &&& b:Nat):Int):=by
 have e:bits .and .i64 (a:Int) (b:Int)=IntKind.i64.wrap ((BitVec.ofInt 64 (a:Int) &&& BitVec.ofInt 64 (b:Int)).toNat :Int):=rfl;have h:a &&& b<=a:=Nat.and_le_left;rw[e,BitVec.ofInt_natCast,BitVec.ofInt_natCast,BitVec.toNat_and,BitVec.toNat_ofNat,BitVec.toNat_ofNat,abv o_,abv o_];exact aaQ _ o_
theorem xo {a b:Nat} (ha:a<2^63) (hb:b<2^63):bits .xor .i64 (a:Int) (b:Int)=((a^^^b:Nat):Int):=by
 have e:bits .xor .i64 (a:Int) (b:Int)=IntKind.i64.wrap ((BitVec.ofInt 64 (a:Int)^^^BitVec.ofInt 64 (b:Int)).toNat :Int):=rfl;have h:a^^^b<2^63:=Nat.xor_lt_two_pow ha hb;rw[e,BitVec.ofInt_natCast,BitVec.ofInt_natCast,BitVec.toNat_xor,BitVec.toNat_ofNat,BitVec.toNat_ofNat,abv o_,abv o_];exact aaQ _ o_
theorem Zo {s k:Nat} (hs:s<2^62):bits .and .i64 ((s:Int)/2^k) 1=if s.testBit k then 1 else 0:=by
 have e:((s:Int)/2^k)=((s/2^k:Nat):Int):=by rw[Int.natCast_ediv];rfl
 have hle:s/2^k<=s:=Nat.div_le_self _ _;have h:=ZC (a:=s/2^k) (b:=1) o_ o_;rw[e,show(1:Int)=((1:Nat):Int) from rfl,h,Nat.and_one_is_mod,Nat.testBit_eq_decide_div_mod_eq];have h2:s/2^k%2=0∨s/2^k%2=1:=o_
 rcases h2 with h2|h2<;>simp[h2]
theorem z9C {k:Nat} (hk:k<62):IntKind.i64.wrap (1*2^k)=((2^k:Nat):Int):=by
 have h:(2:Nat)^k<2^62:=aa4 o_ hk;have e:(1*2^k:Int)=((2^k:Nat):Int):=by rw[Int.one_mul,Int.natCast_pow];rfl
 rw[e];clear e;generalize (2:Nat)^k=z at*;exact aaQ _ o_
def memS (s m:Nat):List Nat:=(List.range m).filter (s.testBit ·)
theorem qO {s m:Nat} (h:s.testBit m=true):memS s (m+1)=memS s m++[m]:=by simp[memS,abf,abg,h]
theorem jw {s m:Nat} (h:s.testBit m=false):memS s (m+1)=memS s m:=by simp[memS,abf,abg,h]
theorem z2l (s m:Nat):(memS s m).length <=m:=by
 have:=List.length_filter_le (s.testBit ·) (List.range m)
 simpa[memS] using this
theorem z9v {s m:Nat}:(memS s m).length =m↔∀i,i<m->s.testBit i=true:=by
 constructor
 ·intro h i hi
  have h2:(List.range m).filter (s.testBit ·)=List.range m:=List.length_filter_eq_length_iff.1 (by simpa[memS] using h) |> fun h3=>List.filter_eq_self.2 h3
  have:=List.filter_eq_self.1 h2 i (List.mem_range.2 hi);exact this
 ·intro h
  have h2:(List.range m).filter (s.testBit ·)=List.range m:=List.filter_eq_self.2 (fun i hi=>h i (List.mem_range.1 hi));simp[memS,h2]
theorem z16 {s m:Nat} (h:s<2^m):∀j,memS s (m+j)=memS s m
 |0=>rfl
 |j+1=>by
  rw[show m+(j+1)=(m+j)+1 by omega,jw (Nat.testBit_lt_two_pow (aaE h (aaF o_ o_)))];exact z16 h j
section
variable {P:Program} {md:Region.Mode} {ops:Array Oper} {Q:Exit->Act->World->Prop} {S:World->Prop}
def anyD (P:Program) (md:Region.Mode) (ops:Array Oper) (Q:Exit->Act->World->Prop) (S:World->Prop) (n:Nat):Nat->Array Bool->Act->World->Prop
 |0,listed,a,w=>Region.ready md ops listed=[]/\Q .normal a w
 |fuel+1,listed,a,w=>
  (Region.ready md ops listed=[]->Q .normal a w)/\
  ∀i∈Region.ready md ops listed,wpOp P ops Q i (fun a' w'=>(i≠n->S w')/\anyD P md ops Q S n fuel (listed.setIfInBounds i true) a' w') a w
theorem z30 {n:Nat}:∀(fuel:Nat) (listed:Array Bool) (a:Act) (w:World),anyD P md ops Q S n fuel listed a w->wpAny P md ops Q fuel listed a w
 |0,_,_,_,h=>h
 |fuel+1,_,_,_,h=>⟨h.1,fun i hi=>wpOp_mono (fun a' w' h'=>z30 fuel _ a' w' h'.2) (h.2 i hi)⟩
theorem z9A {n i:Nat} {oi on:Oper} {v:Value} (hi:ops[i]? =some oi) (CJ:ops[n]? =some on) (Fk:∃e∈on.after,Region.binds md e=true/\e.on=i) (BF:∀(j:Nat) (o:Oper) cs b,ops[j]? =some o->o.op≠ .select cs b)
  (hQ:∀c a w,Q (.panic c) (a.put oi.dst v) w->Q (.panic c) a w):
  ∀(fuel:Nat) (listed:Array Bool) (a:Act) (w:World),
   (∀j oj,ops[j]? =some oj->j≠i->listed.getD j true=false->(∀e∈oj.after,Region.binds md e=true->e.on≠i)->oi.apart ops oj=true)->
   i∈Region.ready md ops listed->YieldsIf P ops S oi v a->S w->
   anyD P md ops Q S n fuel (listed.setIfInBounds i true) (a.put oi.dst v) w->anyD P md ops Q S n (fuel+1) listed a w:=by
 intro fuel
 induction fuel with
 |zero=>
  intro listed a w _ hr hy hS H;refine⟨fun h=>(by rw[h] at hr;cases hr),fun j hj=>?_⟩
  by_cases FU:j=i
  ·subst FU
   exact hy.wpOp hi hS ⟨fun _=>hS,H⟩
  ·have:=ready_mono hj FU
   rw[H.1] at this
   cases this
 |succ fuel ih=>
  intro listed a w cR hr hy hS H;refine⟨fun h=>(by rw[h] at hr;cases hr),fun j hj=>?_⟩
  by_cases FU:j=i
  ·subst FU
   exact hy.wpOp hi hS ⟨fun _=>hS,H⟩
  ·have h1:=H.2 j (ready_mono hj FU)
   obtain⟨BG,oj,mJ,fb⟩:=mem_ready.1 hj
   have mK:∀e∈oj.after,Region.binds md e=true->e.on≠i:=fun e he hb Fz=>by
    have g1:=fb e he hb;have g0:=(mem_ready.1 hr).1;rw[Fz] at g1
    rcases abk i listed.size with h'|h'
    ·simp[h'] at g0 g1;rw[g0] at g1;cases g1
    ·simp[abx h'] at g1
   have hjn:j≠n:=by
    rintro rfl;rw[CJ] at mJ
    cases mJ
    obtain⟨e,he,hb,Fz⟩:=Fk;exact mK e he hb Fz
   have h2:=wpOp_putIf mJ (cR j oj mJ FU BG mK) (fun cs b=>BF i oi cs b hi) (fun cs b=>BF j oj cs b mJ) hQ hy h1
   have Cq:∀k ok,ops[k]? =some ok->k≠i->(listed.setIfInBounds j true).getD k true=false->
     (∀e∈ok.after,Region.binds md e=true->e.on≠i)->oi.apart ops ok=true:=fun k ok hk WL GQ FA=>by
    refine cR k ok hk WL ?_ FA
    by_cases F8:j=k
    ·subst F8;exact BG
    ·rw[getD_set_ne true F8] at GQ;exact GQ
   refine wpOp_mono (fun a' w' h3=>⟨fun _=>h3.2.1 hjn,ih (listed.setIfInBounds j true) a' w' Cq (ready_mono hr (Ne.symm FU)) h3.1 (h3.2.1 hjn) ?_⟩) h2
   rw[Array.setIfInBounds_comm _ _ FU];exact h3.2.2
theorem qJ {i:Nat} {o:Oper} (h:(ops.toList.drop i).head? =some o):ops[i]? =some o:=by
 rw[List.head?_drop,Array.getElem?_toList] at h;exact h
theorem jt {n i:Nat} {oi on:Oper} {v:Value} {fuel:Nat} {listed:Array Bool} {a:Act} {w:World} (FV:(ops.toList.drop i).head? =some oi) (Nq:(ops.toList.drop n).head? =some on) (Fk:(on.after.any fun e=>Region.binds md e&&e.on==i)=true)
  (hs:Region.noSelect ops=true) (hf:Region.free md ops listed i=true) (hr:(Region.ready md ops listed).contains i=true)
  (hQ:∀c a w,Q (.panic c) (a.put oi.dst v) w->Q (.panic c) a w) (hy:YieldsIf P ops S oi v a) (hS:S w)
  (h:anyD P md ops Q S n fuel (listed.setIfInBounds i true) (a.put oi.dst v) w):anyD P md ops Q S n (fuel+1) listed a w:=by
 have hi:=qJ FV;have CJ:=qJ Nq;refine z9A hi CJ ?_ (Region.noSelect_spec hs) hQ fuel listed a w (Region.free_spec hi hf) (by simpa using hr) hy hS h
 rw[Array.any_eq_true] at Fk;obtain⟨k,hk,h⟩:=Fk;rw[aaH] at h;exact⟨on.after[k],Array.getElem_mem hk,h.1,by simpa using h.2⟩
theorem xd {n i:Nat} {o:Oper} {fuel:Nat} {listed:Array Bool} {a:Act} {w:World} (cU:(ops.toList.drop i).head? =some o) (hr:Region.ready md ops listed=[i])
  (h:∀K':Act->World->Prop,(∀a w,(i≠n->S w)->((i≠n->S w)->anyD P md ops Q S n fuel (listed.setIfInBounds i true) a w)->K' a w)->if Region.wanted o (yielded ops a.tmps)=true then Oper.wp P o a w K' Q else K' (a.put o.dst undef) w):
  anyD P md ops Q S n (fuel+1) listed a w:=by
 have ho:=qJ cU;refine⟨fun h0=>(by rw[hr] at h0;cases h0),fun j hj=>?_⟩
 rw[hr,aba] at hj;subst hj;exact wpOp_step ho (fun K' hK=>h K' (fun a w hS hW=>hK a w ⟨hS,hW hS⟩))
theorem z95 {n:Nat} {listed:Array Bool} {a:Act} {w:World} (hr:Region.ready md ops listed=[]) (h:Q .normal a w):∀fuel,anyD P md ops Q S n fuel listed a w
 |0=>⟨hr,h⟩
 |_+1=>⟨fun _=>h,by rw[hr];simp⟩
theorem z3v {id n:Nat} {a:Act} {w:World} (hm:P.follows .mixedOrders =true) (hS:S w.drew)
  (h:S w.drew->anyD P .any ops Q S n ops.size (Array.replicate ops.size false) a w.drew):(Code.region id ops true).wp P Q a w:=
 wp_region_any hm (z30 _ _ _ _ (h hS))
end
section
variable {P:Program} {md:Region.Mode} {ops:Array Oper} {Q:Exit->Act->World->Prop} {S:World->Prop}
def anyE (P:Program) (md:Region.Mode) (ops:Array Oper) (Q:Exit->Act->World->Prop) (S:World->Prop) (n:Nat):Nat->Array Bool->Act->World->Prop
 |0,listed,a,w=>Region.ready md ops listed=[]/\Q .normal a w
 |fuel+1,listed,a,w=>
  (Region.ready md ops listed=[]->Q .normal a w)/\
  ∀i∈Region.ready md ops listed,wpOp P ops Q i (fun a' w'=>((listed.setIfInBounds i true).getD n true=false->S w')/\anyE P md ops Q S n fuel (listed.setIfInBounds i true) a' w') a w
theorem z3S {n:Nat}:∀(fuel:Nat) (listed:Array Bool) (a:Act) (w:World),anyE P md ops Q S n fuel listed a w->wpAny P md ops Q fuel listed a w
 |0,_,_,_,h=>h
 |fuel+1,_,_,_,h=>⟨h.1,fun i hi=>wpOp_mono (fun a' w' h'=>z3S fuel _ a' w' h'.2) (h.2 i hi)⟩
theorem zau {n i:Nat} {oi on:Oper} {v:Value} (hi:ops[i]? =some oi) (CJ:ops[n]? =some on) (Fk:∃e∈on.after,Region.binds md e=true/\e.on=i) (BF:∀(j:Nat) (o:Oper) cs b,ops[j]? =some o->o.op≠ .select cs b)
  (hQ:∀c a w,Q (.panic c) (a.put oi.dst v) w->Q (.panic c) a w):
  ∀(fuel:Nat) (listed:Array Bool) (a:Act) (w:World),
   (∀j oj,ops[j]? =some oj->j≠i->listed.getD j true=false->(∀e∈oj.after,Region.binds md e=true->e.on≠i)->oi.apart ops oj=true)->
   i∈Region.ready md ops listed->listed.getD n true=false->YieldsIf P ops S oi v a->S w->
   anyE P md ops Q S n fuel (listed.setIfInBounds i true) (a.put oi.dst v) w->anyE P md ops Q S n (fuel+1) listed a w:=by
 intro fuel
 induction fuel with
 |zero=>
  intro listed a w _ hr hn hy hS H;refine⟨fun h=>(by rw[h] at hr;cases hr),fun j hj=>?_⟩
  by_cases FU:j=i
  ·subst FU
   exact hy.wpOp hi hS ⟨fun _=>hS,H⟩
  ·have:=ready_mono hj FU
   rw[H.1] at this
   cases this
 |succ fuel ih=>
  intro listed a w cR hr hn hy hS H;refine⟨fun h=>(by rw[h] at hr;cases hr),fun j hj=>?_⟩
  by_cases FU:j=i
  ·subst FU
   exact hy.wpOp hi hS ⟨fun _=>hS,H⟩
  ·have h1:=H.2 j (ready_mono hj FU)
   obtain⟨BG,oj,mJ,fb⟩:=mem_ready.1 hj
   have mK:∀e∈oj.after,Region.binds md e=true->e.on≠i:=fun e he hb Fz=>by
    have g1:=fb e he hb;have g0:=(mem_ready.1 hr).1;rw[Fz] at g1
    rcases abk i listed.size with h'|h'
    ·simp[h'] at g0 g1;rw[g0] at g1;cases g1
    ·simp[abx h'] at g1
   have hjn:j≠n:=by
    rintro rfl;rw[CJ] at mJ
    cases mJ
    obtain⟨e,he,hb,Fz⟩:=Fk;exact mK e he hb Fz
   have Gp:i≠n:=by
    rintro rfl;rw[CJ] at hi
    cases hi
    obtain⟨e,he,hb,Fz⟩:=Fk;obtain⟨h0,o',cU,hall'⟩:=mem_ready.1 hr;rw[CJ] at cU
    cases cU
    have g1:=hall' e he hb;rw[Fz] at g1
    rcases abk i listed.size with h'|h'
    ·simp[h'] at h0 g1;rw[h0] at g1;cases g1
    ·simp[abx h'] at g1
   have h2:=wpOp_putIf mJ (cR j oj mJ FU BG mK) (fun cs b=>BF i oi cs b hi) (fun cs b=>BF j oj cs b mJ) hQ hy h1
   have Cq:∀k ok,ops[k]? =some ok->k≠i->(listed.setIfInBounds j true).getD k true=false->
     (∀e∈ok.after,Region.binds md e=true->e.on≠i)->oi.apart ops ok=true:=fun k ok hk WL GQ FA=>by
    refine cR k ok hk WL ?_ FA
    by_cases F8:j=k
    ·subst F8;exact BG
    ·rw[getD_set_ne true F8] at GQ;exact GQ
   have hnf:((listed.setIfInBounds i true).setIfInBounds j true).getD n true=false:=by rw[getD_set_ne true hjn,getD_set_ne true Gp];exact hn
   refine wpOp_mono (fun a' w' h3=>⟨fun _=>h3.2.1 hnf,ih (listed.setIfInBounds j true) a' w' Cq (ready_mono hr (Ne.symm FU)) (by rw[getD_set_ne true hjn];exact hn) h3.1 (h3.2.1 hnf) ?_⟩) h2
   rw[Array.setIfInBounds_comm _ _ FU];exact h3.2.2
theorem z9y {n i:Nat} {oi:Oper} {v:Value} (hi:ops[i]? =some oi) (Gp:i≠n) (BF:∀(j:Nat) (o:Oper) cs b,ops[j]? =some o->o.op≠ .select cs b)
  (hQ:∀c a w,Q (.panic c) (a.put oi.dst v) w->Q (.panic c) a w):
  ∀(fuel:Nat) (listed:Array Bool) (a:Act) (w:World),
   (∀j oj,ops[j]? =some oj->j≠i->listed.getD j true=false->(∀e∈oj.after,Region.binds md e=true->e.on≠i)->oi.apart ops oj=true)->
   i∈Region.ready md ops listed->YieldsIf P ops (fun _=>True) oi v a->(listed.getD n true=false->S w)->
   anyE P md ops Q S n fuel (listed.setIfInBounds i true) (a.put oi.dst v) w->anyE P md ops Q S n (fuel+1) listed a w:=by
 intro fuel
 induction fuel with
 |zero=>
  intro listed a w _ hr hy hS H;refine⟨fun h=>(by rw[h] at hr;cases hr),fun j hj=>?_⟩
  by_cases FU:j=i
  ·subst FU
   exact hy.wpOp hi trivial ⟨fun h=>hS (by rw[getD_set_ne true Gp] at h;exact h),H⟩
  ·have:=ready_mono hj FU
   rw[H.1] at this
   cases this
 |succ fuel ih=>
  intro listed a w cR hr hy hS H;refine⟨fun h=>(by rw[h] at hr;cases hr),fun j hj=>?_⟩
  by_cases FU:j=i
  ·subst FU
   exact hy.wpOp hi trivial ⟨fun h=>hS (by rw[getD_set_ne true Gp] at h;exact h),H⟩
  ·have h1:=H.2 j (ready_mono hj FU)
   obtain⟨BG,oj,mJ,fb⟩:=mem_ready.1 hj
   have mK:∀e∈oj.after,Region.binds md e=true->e.on≠i:=fun e he hb Fz=>by
    have g1:=fb e he hb;have g0:=(mem_ready.1 hr).1;rw[Fz] at g1
    rcases abk i listed.size with h'|h'
    ·simp[h'] at g0 g1;rw[g0] at g1;cases g1
    ·simp[abx h'] at g1
   have h2:=wpOp_putIf mJ (cR j oj mJ FU BG mK) (fun cs b=>BF i oi cs b hi) (fun cs b=>BF j oj cs b mJ) hQ hy h1
   have Cq:∀k ok,ops[k]? =some ok->k≠i->(listed.setIfInBounds j true).getD k true=false->
     (∀e∈ok.after,Region.binds md e=true->e.on≠i)->oi.apart ops ok=true:=fun k ok hk WL GQ FA=>by
    refine cR k ok hk WL ?_ FA
    by_cases F8:j=k
    ·subst F8;exact BG
    ·rw[getD_set_ne true F8] at GQ;exact GQ
   have UR:((listed.setIfInBounds i true).setIfInBounds j true)=((listed.setIfInBounds j true).setIfInBounds i true):=Array.setIfInBounds_comm _ _ (Ne.symm FU);refine wpOp_mono (fun a' w' h3=>?_) h2
   have hs:(listed.setIfInBounds j true).getD n true=false->S w':=fun hf=>h3.2.1 (by rw[UR,getD_set_ne true Gp];exact hf)
   refine⟨hs,ih (listed.setIfInBounds j true) a' w' Cq (ready_mono hr (Ne.symm FU)) h3.1 hs ?_⟩
   rw[<-UR];exact h3.2.2
theorem zaW {n i:Nat} {oi on:Oper} {v:Value} {fuel:Nat} {listed:Array Bool} {a:Act} {w:World} (FV:(ops.toList.drop i).head? =some oi) (Nq:(ops.toList.drop n).head? =some on) (Fk:(on.after.any fun e=>Region.binds md e&&e.on==i)=true)
  (hs:Region.noSelect ops=true) (hf:Region.free md ops listed i=true) (hr:(Region.ready md ops listed).contains i=true) (hn:listed.getD n true=false)
  (hQ:∀c a w,Q (.panic c) (a.put oi.dst v) w->Q (.panic c) a w) (hy:YieldsIf P ops S oi v a) (hS:S w)
  (h:anyE P md ops Q S n fuel (listed.setIfInBounds i true) (a.put oi.dst v) w):anyE P md ops Q S n (fuel+1) listed a w:=by
 have hi:=qJ FV;have CJ:=qJ Nq;refine zau hi CJ ?_ (Region.noSelect_spec hs) hQ fuel listed a w (Region.free_spec hi hf) (by simpa using hr) hn hy hS h
 rw[Array.any_eq_true] at Fk;obtain⟨k,hk,h⟩:=Fk;rw[aaH] at h;exact⟨on.after[k],Array.getElem_mem hk,h.1,by simpa using h.2⟩
theorem za5 {n i:Nat} {oi:Oper} {v:Value} {fuel:Nat} {listed:Array Bool} {a:Act} {w:World} (FV:(ops.toList.drop i).head? =some oi) (Gp:i≠n)
  (hs:Region.noSelect ops=true) (hf:Region.free md ops listed i=true) (hr:(Region.ready md ops listed).contains i=true)
  (hQ:∀c a w,Q (.panic c) (a.put oi.dst v) w->Q (.panic c) a w) (hy:YieldsIf P ops (fun _=>True) oi v a) (hS:S w)
  (h:anyE P md ops Q S n fuel (listed.setIfInBounds i true) (a.put oi.dst v) w):anyE P md ops Q S n (fuel+1) listed a w:=
 z9y (qJ FV) Gp (Region.noSelect_spec hs) hQ fuel listed a w (Region.free_spec (qJ FV) hf) (by simpa using hr) hy (fun _=>hS) h
theorem tE_ {n:Nat} {oi on:Oper} {v:Value} {fuel:Nat} {listed:Array Bool} {a:Act} {w:World} (i:Nat) (FV:(ops.toList.drop i).head? =some oi) (Nq:(ops.toList.drop n).head? =some on) (h:anyE P md ops Q S n fuel (listed.setIfInBounds i true) (a.put oi.dst v) w)
  (Fk:(on.after.any fun e=>Region.binds md e&&e.on==i)=true:=by kernel_rfl) (hs:Region.noSelect ops=true:=by kernel_rfl) (hf:Region.free md ops listed i=true:=by kernel_rfl) (hr:(Region.ready md ops listed).contains i=true:=by kernel_rfl) (hn:listed.getD n true=false:=by kernel_rfl)
  (hQ:∀c a w,Q (.panic c) (a.put oi.dst v) w->Q (.panic c) a w:=by exact fun _ _ _ h=>h) (hy:YieldsIf P ops S oi v a:=by(refine Or.inl ⟨by rfl,?_⟩);intro w' fV;(try dsimp only at fV);go_simp;(try with_reducible rfl)) (hS:S w:=by assumption):anyE P md ops Q S n (fuel+1) listed a w:=
 zaW FV Nq Fk hs hf hr hn hQ hy hS h
theorem tF_ {n:Nat} {oi:Oper} {v:Value} {fuel:Nat} {listed:Array Bool} {a:Act} {w:World} (i:Nat) (FV:(ops.toList.drop i).head? =some oi) (h:anyE P md ops Q S n fuel (listed.setIfInBounds i true) (a.put oi.dst v) w) (Gp:i≠n:=by decide)
  (hs:Region.noSelect ops=true:=by kernel_rfl) (hf:Region.free md ops listed i=true:=by kernel_rfl) (hr:(Region.ready md ops listed).contains i=true:=by kernel_rfl)
  (hQ:∀c a w,Q (.panic c) (a.put oi.dst v) w->Q (.panic c) a w:=by exact fun _ _ _ h=>h) (hy:YieldsIf P ops (fun _=>True) oi v a:=by(refine Or.inl ⟨by rfl,?_⟩);intro w' fV;(try dsimp only at fV);go_simp;(try with_reducible rfl)) (hS:S w:=by assumption):anyE P md ops Q S n (fuel+1) listed a w:=
 za5 FV Gp hs hf hr hQ hy hS h
theorem qg {n i:Nat} {o:Oper} {fuel:Nat} {listed:Array Bool} {a:Act} {w:World} (cU:(ops.toList.drop i).head? =some o) (hr:Region.ready md ops listed=[i])
  (h:∀K':Act->World->Prop,(∀a w,((listed.setIfInBounds i true).getD n true=false->S w)->(((listed.setIfInBounds i true).getD n true=false->S w)->anyE P md ops Q S n fuel (listed.setIfInBounds i true) a w)->K' a w)->if Region.wanted o (yielded ops a.tmps)=true then Oper.wp P o a w K' Q else K' (a.put o.dst undef) w):
  anyE P md ops Q S n (fuel+1) listed a w:=by
 have ho:=qJ cU;refine⟨fun h0=>(by rw[hr] at h0;cases h0),fun j hj=>?_⟩
 rw[hr,aba] at hj;subst hj;exact wpOp_step ho (fun K' hK=>h K' (fun a w hS hW=>hK a w ⟨hS,hW hS⟩))
theorem ky {n:Nat} {listed:Array Bool} {a:Act} {w:World} (hr:Region.ready md ops listed=[]) (h:Q .normal a w):∀fuel,anyE P md ops Q S n fuel listed a w
 |0=>⟨hr,h⟩
 |_+1=>⟨fun _=>h,by rw[hr];simp⟩
theorem vo {id n:Nat} {a:Act} {w:World} (hm:P.follows .mixedOrders =true) (hS:S w.drew)
  (h:S w.drew->anyE P .any ops Q S n ops.size (Array.replicate ops.size false) a w.drew):(Code.region id ops true).wp P Q a w:=
 wp_region_any hm (z3S _ _ _ _ (h hS))
end
theorem XB (l:List (Int×Int)):∀u∈l.flatMap prc,u.oneCell'=true:=by
 intro u hu;rw[List.mem_flatMap] at hu;obtain⟨p,_,hp⟩:=hu;simp only[prc,List.mem_cons,List.mem_nil_iff,or_false] at hp
 rcases hp with rfl|rfl<;>rfl
theorem vq {P:Program} {w:World} {t ty e:TypeId} {i:TypeInfo} (ht:P.underlying t=some (.slice e)) (hi:P.info? e=some i) (A:Option Addr) (n cp c:Nat) (h:n<=cp):
  (Builtin.append_ #[t,t] ty #[.slice A n cp,.slice none 0 c]).run P w= .ok (.slice A n cp) w:=by
 simp[Builtin.append_,run_underlying ht,sizeOf,typeInfo,hi,Builtin.lenOf,h,Builtin.firstCells]
 cases A
 ·simp
 ·simp[storeCells]
theorem kL (b off j:Nat):(⟨b,off,none⟩:Addr).add j=⟨b,off+j,none⟩:=by
 unfold Addr.add
 split<;>simp_all
theorem kJ {P:Program} {w:World} {t ty e:TypeId} {i:TypeInfo} {base:Nat} (ht:P.underlying t=some (.slice e)) (hi:P.info? e=some i) (hz:i.zero=some (.agg #[.int .i64 0,.int .i64 0])) (H7:i.size=2) (gG:i.bytes=16)
  {v u:Value} {xs l:List (Int×Int)} (hown:OwnP e base w v xs) (hr:RP w u l) (Hi:xs.length+l.length<=1048576+1048576) (H9:base<=w.heap.size):
  ∃A c w',(Builtin.append_ #[t,t] ty #[v,u]).run P w= .ok (.slice A (xs++l).length c) w'/\OwnP e base w' (.slice A (xs++l).length c) (xs++l)/\w.grownBy w' v.ownBlock/\
   ((Value.slice A (xs++l).length c).ownBlock =v.ownBlock∨(Value.slice A (xs++l).length c).ownBlock =some w.heap.size):=by
 obtain⟨A,c,rfl,hc,hm,hcell⟩:=hr.form
 cases A with
 |none=>
  have hl:l=[]:=by
   rcases abw l.length with h|h
   ·exact aby h
   ·obtain⟨b,off,h1,_⟩:=hcell h
    cases h1
  subst hl;obtain⟨A,cp,rfl⟩:=hown.form
  have uq:xs.length<=cp:=by
   obtain⟨A',c',e1,e2,_⟩:=hown.reads.form
   cases e1;exact e2
  refine⟨A,cp,w,?_,by rw[List.append_nil];exact hown,World.grownBy.refl _ _,by rw[List.append_nil];exact .inl rfl⟩
  rw[List.append_nil];exact vq ht hi A _ cp c uq
 |some a=>
  have hn:∀(j:Nat) (x:Value),(l.flatMap prc)[j]? =some x->w.cell? (a.add j)=some x:=by
   intro j x hx;have hj:=(List.getElem?_eq_some_iff.1 hx).1;rw[zK prc 2 (fun _=>rfl)] at hj;obtain⟨_,A',c',e1,_,_,e4⟩:=hr
   cases e1
   obtain⟨b,off,e5,_,e6⟩:=e4 o_
   cases e5
   rw[kL];exact e6 j x hx
  have ho:w.ownsRow base e 2 v xs.length (xs.flatMap prc):=hown;obtain⟨v',w',h1,h2,h3,_,h5⟩:=run_append_own_at (P:=P) w base t ty e i _ 2 16 ht hi hz H7 gG rfl (by decide) v xs.length (xs.flatMap prc) ho a l.length c (l.flatMap prc) (zK prc 2 (fun _=>rfl) l) hn (XB l) (by unfold maxLen;omega) o_ H9
  have US:OwnP e base w' v' (xs++l):=by
   unfold OwnP;rw[aaX,aaY];exact h2
  obtain⟨A',c',rfl⟩:=US.form;exact⟨A',c',w',h1,US,h3,h5⟩
theorem zo {P:Program} {w:World} {ops:Array Oper} {o:Oper} {a:Act} {K:Act->World->Prop} {Q:Exit->Act->World->Prop} {E:Prop} (FH:o.guard=none) (s x:Operand) (t:TypeId)
  (ho:o.op= .call { callee:= .builtin .append,args:= #[s,x],argTypes:= #[t,t] })
  (base:Nat) (e:TypeId) (i:TypeInfo) (ht:P.underlying t=some (.slice e)) (hi:P.info? e=some i) (hz:i.zero=some (.agg #[.int .i64 0,.int .i64 0])) (H7:i.size=2) (gG:i.bytes=16)
  (v u:Value) (xs l:List (Int×Int)) (hs:a.eval s=v) (hx:a.eval x=u) (hown:OwnP e base w v xs) (hr:RP w u l) (Hi:xs.length+l.length<=1048576+1048576) (H9:base<=w.heap.size)
  (h:∀A c w',OwnP e base w' (.slice A (xs++l).length c) (xs++l)->w.grownBy w' v.ownBlock->((Value.slice A (xs++l).length c).ownBlock =v.ownBlock∨(Value.slice A (xs++l).length c).ownBlock =some w.heap.size)->K (a.put o.dst (.slice A (xs++l).length c)) w'):
  if Region.wanted o (yielded ops a.tmps)=true then Oper.wp P o a w K Q else E:=by
 have hw:Region.wanted o (yielded ops a.tmps)=true:=by simp[Region.wanted,FH]
 rw[aao hw];obtain⟨A,c,w',GC,h2,h3,h4⟩:=kJ (ty:=o.type) ht hi hz H7 gG hown hr Hi H9;unfold Oper.wp execOp;simp only[ho,resolve,invoke,builtin,Sem.run_bind,Sem.run_pure,aaZ,List.map_toArray,aaT,aaU,hs,hx,GC]
 exact h A c w' h2 h3 h4
theorem zj {P:Program} {w:World} {ops:Array Oper} {rest:List Oper} {o:Oper} {a:Act} {Q:Exit->Act->World->Prop} (FH:o.guard=none) (s x:Operand) (t:TypeId)
  (ho:o.op= .call { callee:= .builtin .append,args:= #[s,x],argTypes:= #[t,t] })
  (base:Nat) (e:TypeId) (i:TypeInfo) (ht:P.underlying t=some (.slice e)) (hi:P.info? e=some i) (hz:i.zero=some (.agg #[.int .i64 0,.int .i64 0])) (H7:i.size=2) (gG:i.bytes=16)
  (v u:Value) (xs l:List (Int×Int)) (hs:a.eval s=v) (hx:a.eval x=u) (hown:OwnP e base w v xs) (hr:RP w u l) (Hi:xs.length+l.length<=1048576+1048576) (H9:base<=w.heap.size)
  (h:∀A c w',OwnP e base w' (.slice A (xs++l).length c) (xs++l)->w.grownBy w' v.ownBlock->((Value.slice A (xs++l).length c).ownBlock =v.ownBlock∨(Value.slice A (xs++l).length c).ownBlock =some w.heap.size)->wpList P ops Q rest (a.put o.dst (.slice A (xs++l).length c)) w'):
  wpList P ops Q (o::rest) a w:=
 wpList_plain FH fun K hK=>by
  obtain⟨A,c,w',GC,h2,h3,h4⟩:=kJ (ty:=o.type) ht hi hz H7 gG hown hr Hi H9;unfold Oper.wp execOp;simp only[ho,resolve,invoke,builtin,Sem.run_bind,Sem.run_pure,aaZ,List.map_toArray,aaT,aaU,hs,hx,GC]
  exact hK _ _ (h A c w' h2 h3 h4)
theorem OwnP.made {t:TypeId} {base:Nat} {w:World} {g:Nat} (hg:g=w.heap.size) (hb:base<=w.heap.size):OwnP t base (w.alloc (.cells #[] t)) (.slice (some ⟨g,0,none⟩) 0 0) []:=by
 subst hg;exact World.ownsRow_made _ _ _ hb (by simp) (by simp[maxLen])
theorem kN {w w':World} (h:w.grownBy w' (Value.slice none 0 0).ownBlock):Below w.heap.size w w':=(aaj _ _).grown h (aaa _) (by intro k hk;cases hk)
theorem qC (vn vl:Value) (ns ls:List (Int×Int)) (w:World) (hn:RP w vn ns) (hl:RP w vl ls) (h1:ns.length<=1048576) (h2:ls.length<=1048576):
  Calls Tryz.prog 81 #[.agg #[vn,vl]] w (RetW ns ls w):=by
 obtain⟨i0,hi,iz0,iz1,iz2⟩:=info_parts Qj;obtain⟨j0,hj,jz0,jz1,jz2⟩:=info_parts jc;have Ff:w.heap.size<w.heap.size+1+1:=o_
 go_enter Tryz.func81,Tryz.ntmps81
 go_wp2_with fail
 go_region_held3 (fun w'=>w'.cell? ⟨w.heap.size,0,none⟩=some vn/\w'.cell? ⟨w.heap.size,1,none⟩=some vl)
  (go_keep)
  (first|(refine zo rfl _ _ _ rfl (w.heap.size+1+1) 106 i0 Tryz.underlying24 hi iz0 iz1 iz2 (.slice none 0 0) vn [] ns rfl rfl (OwnP.nil _ _ _) (RP.below hn bel_) (by simp;omega) sz_ ?_;intro A1 c1 w1 Hj fF nV;(have h9:=kN fF);(have MG:=h_ nV);(have Bh:=h_ Hj);clear fF nV Hj;(first|(with_reducible have Gb:=bdC h9)|have Gb:=bcC h9);(first|(with_reducible have BD:=bdF h9)|have BD:=bcF h9);have H8:=h9.size;(try simp at H8);(try have gR:=p0_ w w1);(try have Gk:=p1_ w w1);(try have fZ:=p2_ w w1);(try have Np:=p3_ w w1))|(refine zo rfl _ _ _ rfl (w.heap.size+1+1) 108 j0 Tryz.underlying25 hj jz0 jz1 jz2 (.slice none 0 0) vl [] ls rfl rfl (OwnP.nil _ _ _) (RP.below hl bel_) (by simp;omega) sz_ ?_;intro A2 c2 w2 Hm Gr Bi;(have He:=kN Gr);(have HA2:=h_ Bi);(have Cl:=h_ Hm);clear Gr Bi Hm;(first|(with_reducible have fa:=bdC He)|have fa:=bcC He);(first|(with_reducible have M0:=bdF He)|have M0:=bcF He);have Gd:=He.size;(try simp at Gd);(try have gX:=p0_ w w2);(try have gY:=p1_ w w2);(try have fm:=p2_ w w2);(try have BE:=p3_ w w2)))
 have Hj:OwnP 106 (w.heap.size+1+1) w1 (.slice A1 ns.length c1) ns:=Bh.out;have Hm:OwnP 108 (w.heap.size+1+1) w2 (.slice A2 ls.length c2) ls:=Cl.out
 have bK:Hid (∀k,(Value.slice A1 ns.length c1).ownBlock =some k->(Value.slice A2 ls.length c2).ownBlock =some k->False):=h_ (fun k h1 h2=>by
  have h3:=(Hj.lt k h1).2
  rcases HA2.out with h|h
  ·have h':(Value.slice A2 ls.length c2).ownBlock =none:=h
   rw[h'] at h2;cases h2
  ·have h':(Value.slice A2 ls.length c2).ownBlock =some w1.heap.size:=h
   rw[h'] at h2;cases h2;omega)
 have go:=Hj.kept He;have o1:=h_ (((go.setLow (p:=⟨w.heap.size+1,0,none⟩) sz_ (.slice A1 ns.length c1)).setLow (p:=⟨w.heap.size+1,1,none⟩) sz_ (.slice A2 ls.length c2)).mono (show w.heap.size<=_ by omega));have o2:=h_ (((Hm.setLow (p:=⟨w.heap.size+1,0,none⟩) sz_ (.slice A1 ns.length c1)).setLow (p:=⟨w.heap.size+1,1,none⟩) sz_ (.slice A2 ls.length c2)).mono (show w.heap.size<=_ by omega));go_wp2;exact bodyPost_ret (v:= .agg #[.slice A1 ns.length c1,.slice A2 ls.length c2]) (by simp[results,Tryz.results81,go_sem,gR,Gk,gX,gY,fa,Gb]) rfl ⟨_,_,_,_,rfl,⟨o1.out,o2.out,bK.out⟩,by exact bel_⟩
theorem jO {w w':World} {g B:Nat} (h:w.grownBy w' (some g)) (hB:B<=w.heap.size) (hg:B<=g):Below B w w':=(aaj _ _).grown h hB (fun k hk=>by cases hk;exact hg)
theorem qo (vn vl:Value) (ns ls:List (Int×Int)) (w:World) (hn:RP w vn ns) (hl:RP w vl ls) (h1:ns.length<=1048576) (h2:ls.length<=1048576):
  Calls Tryz.prog 110 #[.agg #[vn,vl]] w (RetW ns ls w):=by
 obtain⟨i0,hi,iz0,iz1,iz2⟩:=info_parts Qj;obtain⟨j0,hj,jz0,jz1,jz2⟩:=info_parts jc;have Ff:w.heap.size<w.heap.size+1+1:=o_
 have gp:w.heap.size<w.heap.size+1+1+1:=o_
 go_enter Tryz.func110,Tryz.ntmps110
 go_wp2_with fail
 go_region_held3 (fun w'=>w'.cell? ⟨w.heap.size,0,none⟩=some vn/\w'.cell? ⟨w.heap.size,1,none⟩=some vl)
  (go_keep)
  (first|(refine zo rfl _ _ _ rfl (w.heap.size+1+1) 106 i0 Tryz.underlying24 hi iz0 iz1 iz2 (.slice (some ⟨w.heap.size+1+1,0,none⟩) 0 0) vn [] ns rfl rfl (OwnP.drew (OwnP.made (by simp) sz_)) (RP.below hn bel_) (by simp;omega) sz_ ?_;intro A1 c1 w1 Hj fF nV;(have h9:=jO (B:=w.heap.size+1+1) fF sz_ sz_);(have Gb:=fun (b o:Nat) (h:b<w.heap.size+1+1)=>h9.cell (p:=⟨b,o,none⟩) h);(have BD:=fun (b o:Nat) (h:b<w.heap.size+1+1)=>h9.frozen (p:=⟨b,o,none⟩) h);(have H8:=fF.size);(try simp at H8);(have gR:w.heap.size<w1.heap.size:=by omega);(have Gk:w.heap.size+1<w1.heap.size:=by omega);(have h8:Below w.heap.size w w1:=by refine Below.trans ?_ (h9.mono ?_)<;>first|(exact bel_)|omega);(have MG:=h_ nV);(have Bh:=h_ Hj);(have HG1:=h_ fF);clear fF nV Hj)|((refine zo rfl _ _ _ rfl (w.heap.size+1+1) 106 i0 Tryz.underlying24 hi iz0 iz1 iz2 (.slice (some ⟨w.heap.size+1+1,0,none⟩) 0 0) vn [] ns rfl rfl (OwnP.drew (OwnP.alloc (OwnP.made (by simp) sz_) _)) (RP.below hn bel_) (by simp;omega) sz_ ?_);intro A1 c1 w1 Hj fF nV;(have h9:=jO (B:=w.heap.size+1+1) fF sz_ sz_);(have Gb:=fun (b o:Nat) (h:b<w.heap.size+1+1)=>h9.cell (p:=⟨b,o,none⟩) h);(have BD:=fun (b o:Nat) (h:b<w.heap.size+1+1)=>h9.frozen (p:=⟨b,o,none⟩) h);(have H8:=fF.size);(try simp at H8);(have gR:w.heap.size<w1.heap.size:=by omega);(have Gk:w.heap.size+1<w1.heap.size:=by omega);(have h8:Below w.heap.size w w1:=by refine Below.trans ?_ (h9.mono ?_)<;>first|(exact bel_)|omega);(have MG:=h_ nV);(have Bh:=h_ Hj);(have WM:=h_ ((OwnP.drew (OwnP.made (t:=108) (base:=w.heap.size+1+1) (g:=w.heap.size+1+1+1) (by simp) sz_)).apart fF (by intro k h h';simp[Value.ownBlock] at h h';omega)));clear fF nV Hj)|((refine zo rfl _ _ _ rfl (w.heap.size+1+1) 106 i0 Tryz.underlying24 hi iz0 iz1 iz2 (.slice (some ⟨w.heap.size+1+1+1,0,none⟩) 0 0) vn [] ns rfl rfl (OwnP.drew (OwnP.made (by simp) sz_)) (RP.below hn bel_) (by simp;omega) sz_ ?_);intro A1 c1 w1 Hj fF nV;(have h9:=jO (B:=w.heap.size+1+1) fF sz_ sz_);(have Gb:=fun (b o:Nat) (h:b<w.heap.size+1+1)=>h9.cell (p:=⟨b,o,none⟩) h);(have BD:=fun (b o:Nat) (h:b<w.heap.size+1+1)=>h9.frozen (p:=⟨b,o,none⟩) h);(have H8:=fF.size);(try simp at H8);(have gR:w.heap.size<w1.heap.size:=by omega);(have Gk:w.heap.size+1<w1.heap.size:=by omega);(have h8:Below w.heap.size w w1:=by refine Below.trans ?_ (h9.mono ?_)<;>first|(exact bel_)|omega);(have MG:=h_ nV);(have Bh:=h_ Hj);(have WM:=h_ ((OwnP.drew (OwnP.alloc (OwnP.made (t:=108) (base:=w.heap.size+1+1) (g:=w.heap.size+1+1) (by simp) sz_) _)).apart fF (by intro k h h';simp[Value.ownBlock] at h h';omega)));clear fF nV Hj)|(refine zo rfl _ _ _ rfl (w.heap.size+1+1) 108 j0 Tryz.underlying25 hj jz0 jz1 jz2 (.slice (some ⟨w.heap.size+1+1+1,0,none⟩) 0 0) vl [] ls rfl rfl WM.out (RP.below hl bel_) (by simp;omega) sz_ ?_;intro A2 c2 w2 Hm Gr Bi;(have He:=jO (B:=w.heap.size+1+1) Gr sz_ sz_);(have fa:=fun (b o:Nat) (h:b<w.heap.size+1+1)=>He.cell (p:=⟨b,o,none⟩) h);(have M0:=fun (b o:Nat) (h:b<w.heap.size+1+1)=>He.frozen (p:=⟨b,o,none⟩) h);(have Gd:=Gr.size);(try simp at Gd);(have gX:w.heap.size<w2.heap.size:=by omega);(have gY:w.heap.size+1<w2.heap.size:=by omega);(have Ha:Below w.heap.size w w2:=by refine Below.trans ?_ (He.mono ?_)<;>first|(exact bel_)|omega);(have HA2:=h_ Bi);(have Cl:=h_ Hm);(have HG2:=h_ Gr);clear Gr Bi Hm)|(refine zo rfl _ _ _ rfl (w.heap.size+1+1) 108 j0 Tryz.underlying25 hj jz0 jz1 jz2 (.slice (some ⟨w.heap.size+1+1,0,none⟩) 0 0) vl [] ls rfl rfl WM.out (RP.below hl bel_) (by simp;omega) sz_ ?_;intro A2 c2 w2 Hm Gr Bi;(have He:=jO (B:=w.heap.size+1+1) Gr sz_ sz_);(have fa:=fun (b o:Nat) (h:b<w.heap.size+1+1)=>He.cell (p:=⟨b,o,none⟩) h);(have M0:=fun (b o:Nat) (h:b<w.heap.size+1+1)=>He.frozen (p:=⟨b,o,none⟩) h);(have Gd:=Gr.size);(try simp at Gd);(have gX:w.heap.size<w2.heap.size:=by omega);(have gY:w.heap.size+1<w2.heap.size:=by omega);(have Ha:Below w.heap.size w w2:=by refine Below.trans ?_ (He.mono ?_)<;>first|(exact bel_)|omega);(have HA2:=h_ Bi);(have Cl:=h_ Hm);(have HG2:=h_ Gr);clear Gr Bi Hm)|(refine zo rfl _ _ _ rfl (w.heap.size+1+1) 108 j0 Tryz.underlying25 hj jz0 jz1 jz2 (.slice (some ⟨w1.heap.size,0,none⟩) 0 0) vl [] ls rfl rfl (OwnP.made rfl sz_) (RP.below hl bel_) (by simp;omega) sz_ ?_;intro A2 c2 w2 Hm Gr Bi;(have He:=jO (B:=w.heap.size+1+1) Gr sz_ sz_);(have fa:=fun (b o:Nat) (h:b<w.heap.size+1+1)=>He.cell (p:=⟨b,o,none⟩) h);(have M0:=fun (b o:Nat) (h:b<w.heap.size+1+1)=>He.frozen (p:=⟨b,o,none⟩) h);(have Gd:=Gr.size);(try simp at Gd);(have gX:w.heap.size<w2.heap.size:=by omega);(have gY:w.heap.size+1<w2.heap.size:=by omega);(have Ha:Below w.heap.size w w2:=by refine Below.trans ?_ (He.mono ?_)<;>first|(exact bel_)|omega);(have HA2:=h_ Bi);(have Cl:=h_ Hm);(have HG2:=h_ Gr);clear Gr Bi Hm))
 all_goals
  have Hj:OwnP 106 (w.heap.size+1+1) w1 (.slice A1 ns.length c1) ns:=Bh.out;have Hm:OwnP 108 (w.heap.size+1+1) w2 (.slice A2 ls.length c2) ls:=Cl.out
  have bK:Hid (∀k,(Value.slice A1 ns.length c1).ownBlock =some k->(Value.slice A2 ls.length c2).ownBlock =some k->False):=h_ (fun k e1 e2=>by
   have hk:=(Hj.lt k e1).2
   rcases MG.out with a|a<;>rcases HA2.out with b|b
   all_goals
    have a':=e1.symm.trans a;have b':=e2.symm.trans b;simp[Value.ownBlock] at a' b'
    omega)
  have go:OwnP 106 (w.heap.size+1+1) w2 (.slice A1 ns.length c1) ns:=by
   first
    |(refine OwnP.apart Hj HG2.out ?_
      intro k e1 e2;have hk:=(Hj.lt k e1).2
      rcases MG.out with a|a
      all_goals
       have a':=e1.symm.trans a;simp[Value.ownBlock] at a' e2
       omega)
    |(refine OwnP.apart (Hj.alloc _) HG2.out ?_
      intro k e1 e2;have hk:=(Hj.lt k e1).2
      rcases MG.out with a|a
      all_goals
       have a':=e1.symm.trans a;simp[Value.ownBlock] at a' e2
       omega)
  have o1:=h_ (((go.setLow (p:=⟨w.heap.size+1,0,none⟩) sz_ (.slice A1 ns.length c1)).setLow (p:=⟨w.heap.size+1,1,none⟩) sz_ (.slice A2 ls.length c2)).mono (show w.heap.size<=_ by omega));have o2:=h_ (((Hm.setLow (p:=⟨w.heap.size+1,0,none⟩) sz_ (.slice A1 ns.length c1)).setLow (p:=⟨w.heap.size+1,1,none⟩) sz_ (.slice A2 ls.length c2)).mono (show w.heap.size<=_ by omega));have HB:Hid (Below w.heap.size w ((w2.setCell ⟨w.heap.size+1,0,none⟩ (.slice A1 ns.length c1)).setCell ⟨w.heap.size+1,1,none⟩ (.slice A2 ls.length c2))):=h_ ((Ha.setCell sz_ _).setCell sz_ _);go_wp2;exact bodyPost_ret (v:= .agg #[.slice A1 ns.length c1,.slice A2 ls.length c2]) (by simp[results,Tryz.results110,go_sem,gR,Gk,gX,gY,fa,Gb]) rfl ⟨_,_,_,_,rfl,⟨o1.out,o2.out,bK.out⟩,HB.out⟩
def runP (a:Int) (n:Nat):List (Int×Int):=(List.range n).map fun (i:Nat)=>(a+2*(i:Int),a+2*(i:Int)+1)
theorem qP (a:Int) (n:Nat):(runP a n).length =n:=by simp[runP]
def yK (a:Int) (l:List (Int×Int)) (k:Nat):List (Int×Int):=runP a k++l.drop k
theorem QP (a:Int) (l:List (Int×Int)) (k:Nat) (h:k<=l.length):(yK a l k).length =l.length:=by simp[yK,qP];omega
theorem JB (a:Int) (l:List (Int×Int)):yK a l 0=l:=by simp[yK,runP]
theorem VT (a:Int) (l:List (Int×Int)):yK a l l.length=runP a l.length:=by simp[yK]
theorem Jx (a:Int) (l:List (Int×Int)) (k:Nat) (h:k<l.length):yK a l (k+1)=(yK a l k).set k (a+2*k,a+2*k+1):=by
 unfold yK runP;rw[abf,aaA,aan];simp only[aaT,aaU,List.length_map,abr,aaW,if_false,aae,aay,List.cons_append,List.nil_append]
 rw[aas h,aal]
theorem z3i (a:Int) (n k:Nat) (h:k<(runP a n).length):(runP a n)[k]=(a+2*(k:Int),a+2*(k:Int)+1):=by simp[runP]
theorem QS (base:Nat) (v:Value) (l:List (Int×Int)) (a:Int) (w:World) (h:OwnP 106 base w v l) (ha:0<=a) (hb:a+2*l.length<=1000000000000):
  Calls Tryz.prog 231 #[v,.int .i64 a] w fun e w'=>e= .returned (.int .i64 (a+2*l.length))/\OwnP 106 base w' v (runP a l.length)/\w.grownBy w' v.ownBlock:=by
 rcases Gf:h.2 with ⟨rfl,hn⟩|⟨g,cap,cur,rfl,mI,hh,cO,Co,gj,Fy⟩
 ·have hz:l=[]:=aby hn
  subst hz;clear Gf hn hb
  go_enter Tryz.func231,Tryz.ntmps231
  go_wp2
  go_loop [1,5] (fun x i=>i= .int .i64 0/\x= .int .i64 a) (fun _ _=>0)
  case atStart=>exact⟨rfl,rfl⟩
  case round=>
   obtain⟨rfl,rfl⟩:=hrel;go_wp2;go_ret
   exact⟨by simp,OwnP.nil _ _ _,World.grownBy.refl _ _⟩
 ·clear Gf hh Fy gj
  have GO:l.length<=1000000000000:=o_
  have h0:OwnP 106 base w (.slice (some ⟨g,0,none⟩) l.length cap) (yK a l 0):=by rw[JB];exact h
  clear h
  go_enter Tryz.func231,Tryz.ntmps231
  go_wp2
  go_loopw [1,5] (fun x i wr=>∃k:Nat,k<=l.length/\i= .int .i64 k/\x= .int .i64 (a+2*k)/\OwnP 106 base wr (.slice (some ⟨g,0,none⟩) l.length cap) (yK a l k)/\w.grownBy wr (some g)) (fun _ i _=>l.length -(intOf i).toNat)
  case atStart=>exact⟨0,aab _,rfl,by simp,h0,World.grownBy.refl _ _⟩
  case round=>
   obtain⟨k,hk,rfl,rfl,ho,hg⟩:=hrel;clear h0;have Fe:=QP a l k hk
   by_cases Hd:k<l.length
   ·have s4:=ho.set_ (q:=k) o_ (a+2*k) (a+2*k+1)
    rw[<-Jx a l k Hd] at s4;have HS:=h_ s4;have HG:=h_ (qq (qq hg (k*2) (.int .i64 (a+2*k))) (k*2+1) (.int .i64 (a+2*k+1)));have xx:=ho.cell (q:=k) o_;obtain⟨z0,x0⟩:∃z,wr.cell? ⟨g,k*2,none⟩=some z:=⟨_,xx.1⟩;obtain⟨z1,x1⟩:∃z,wr.cell? ⟨g,k*2+1,none⟩=some z:=⟨_,xx.2⟩;have f0:=ho.frz (k*2);have f1:=ho.frz (k*2+1);clear s4 xx ho hg Fe;go_wp2;go_roundw
    case rel=>exact⟨k+1,by omega,by go_num,by go_num,HS.out,HG.out⟩
    case measure=>simp[intOf];omega
   ·have Hw:k=l.length:=o_
    subst Hw;rw[VT] at ho;clear Fe;go_wp2;go_ret
    exact⟨rfl,ho,hg⟩
theorem QO (base:Nat) (v:Value) (l:List (Int×Int)) (a:Int) (w:World) (h:OwnP 108 base w v l) (ha:0<=a) (hb:a+2*l.length<=1000000000000):
  Calls Tryz.prog 232 #[v,.int .i64 a] w fun e w'=>e= .returned (.int .i64 (a+2*l.length))/\OwnP 108 base w' v (runP a l.length)/\w.grownBy w' v.ownBlock:=by
 rcases Gf:h.2 with ⟨rfl,hn⟩|⟨g,cap,cur,rfl,mI,hh,cO,Co,gj,Fy⟩
 ·have hz:l=[]:=aby hn
  subst hz;clear Gf hn hb
  go_enter Tryz.func232,Tryz.ntmps232
  go_wp2
  go_loop [1,5] (fun x i=>i= .int .i64 0/\x= .int .i64 a) (fun _ _=>0)
  case atStart=>exact⟨rfl,rfl⟩
  case round=>
   obtain⟨rfl,rfl⟩:=hrel;go_wp2;go_ret
   exact⟨by simp,OwnP.nil _ _ _,World.grownBy.refl _ _⟩
 ·clear Gf hh Fy gj
  have GO:l.length<=1000000000000:=o_
  have h0:OwnP 108 base w (.slice (some ⟨g,0,none⟩) l.length cap) (yK a l 0):=by rw[JB];exact h
  clear h
  go_enter Tryz.func232,Tryz.ntmps232
  go_wp2
  go_loopw [1,5] (fun x i wr=>∃k:Nat,k<=l.length/\i= .int .i64 k/\x= .int .i64 (a+2*k)/\OwnP 108 base wr (.slice (some ⟨g,0,none⟩) l.length cap) (yK a l k)/\w.grownBy wr (some g)) (fun _ i _=>l.length -(intOf i).toNat)
  case atStart=>exact⟨0,aab _,rfl,by simp,h0,World.grownBy.refl _ _⟩
  case round=>
   obtain⟨k,hk,rfl,rfl,ho,hg⟩:=hrel;clear h0;have Fe:=QP a l k hk
   by_cases Hd:k<l.length
   ·have s4:=ho.set_ (q:=k) o_ (a+2*k) (a+2*k+1)
    rw[<-Jx a l k Hd] at s4;have HS:=h_ s4;have HG:=h_ (qq (qq hg (k*2) (.int .i64 (a+2*k))) (k*2+1) (.int .i64 (a+2*k+1)));have xx:=ho.cell (q:=k) o_;obtain⟨z0,x0⟩:∃z,wr.cell? ⟨g,k*2,none⟩=some z:=⟨_,xx.1⟩;obtain⟨z1,x1⟩:∃z,wr.cell? ⟨g,k*2+1,none⟩=some z:=⟨_,xx.2⟩;have f0:=ho.frz (k*2);have f1:=ho.frz (k*2+1);clear s4 xx ho hg Fe;go_wp2;go_roundw
    case rel=>exact⟨k+1,by omega,by go_num,by go_num,HS.out,HG.out⟩
    case measure=>simp[intOf];omega
   ·have Hw:k=l.length:=o_
    subst Hw;rw[VT] at ho;clear Fe;go_wp2;go_ret
    exact⟨rfl,ho,hg⟩
theorem ZP (v:Value) (n:Nat) (a:Int) (w:World) (h:RP w v (runP a n)) (ha:0<=a) (hb:a+2*n<=1000000000000):
  Calls Tryz.prog 233 #[v,.int .i64 a] w fun e w'=>e= .returned (.int .i64 (a+2*n))/\w=w':=by
 obtain⟨A,c,rfl,hc,hm,hcell⟩:=h.form;clear h;rw[qP] at hc hm
 have Hs:0<n->∃b off,A=some ⟨b,off,none⟩/\b<w.heap.size/\∀k (hk:k<n),w.cell? ⟨b,off+k*2,none⟩=some (.int .i64 (a+2*(k:Int)))/\w.cell? ⟨b,off+k*2+1,none⟩=some (.int .i64 (a+2*(k:Int)+1)):=by
  intro hn;obtain⟨b,off,h1,h2,h3⟩:=hcell (by rw[qP];exact hn);refine⟨b,off,h1,h2,fun k hk=>?_⟩
  have:=h3 k (by rw[qP];exact hk);rw[z3i] at this;exact this
 rw[qP];clear hcell
 go_enter Tryz.func233,Tryz.ntmps233
 go_wp2
 go_loop [1,5] (fun x i=>∃k:Nat,k<=n/\i= .int .i64 k/\x= .int .i64 (a+2*k)) (fun _ i=>n -(intOf i).toNat)
 case atStart=>exact⟨0,aab _,rfl,by simp⟩
 case round=>
  obtain⟨k,hk,rfl,rfl⟩:=hrel
  by_cases Hd:k<n
  ·obtain⟨b,off,rfl,gc,Ho⟩:=Hs o_
   obtain⟨q0,q1⟩:=Ho k Hd;clear Ho Hs;go_wp2;go_round
   case rel=>exact⟨k+1,by omega,by go_num,by go_num⟩
   case measure=>simp[intOf];omega
  ·have Hw:k=n:=o_
   subst Hw;clear Hs;go_wp2;go_ret
   exact⟨rfl,rfl⟩
theorem ZA (v:Value) (n:Nat) (a:Int) (w:World) (h:RP w v (runP a n)) (ha:0<=a) (hb:a+2*n<=1000000000000):
  Calls Tryz.prog 234 #[v,.int .i64 a] w fun e w'=>e= .returned (.int .i64 (a+2*n))/\w=w':=by
 obtain⟨A,c,rfl,hc,hm,hcell⟩:=h.form;clear h;rw[qP] at hc hm
 have Hs:0<n->∃b off,A=some ⟨b,off,none⟩/\b<w.heap.size/\∀k (hk:k<n),w.cell? ⟨b,off+k*2,none⟩=some (.int .i64 (a+2*(k:Int)))/\w.cell? ⟨b,off+k*2+1,none⟩=some (.int .i64 (a+2*(k:Int)+1)):=by
  intro hn;obtain⟨b,off,h1,h2,h3⟩:=hcell (by rw[qP];exact hn);refine⟨b,off,h1,h2,fun k hk=>?_⟩
  have:=h3 k (by rw[qP];exact hk);rw[z3i] at this;exact this
 rw[qP];clear hcell
 go_enter Tryz.func234,Tryz.ntmps234
 go_wp2
 go_loop [1,5] (fun x i=>∃k:Nat,k<=n/\i= .int .i64 k/\x= .int .i64 (a+2*k)) (fun _ i=>n -(intOf i).toNat)
 case atStart=>exact⟨0,aab _,rfl,by simp⟩
 case round=>
  obtain⟨k,hk,rfl,rfl⟩:=hrel
  by_cases Hd:k<n
  ·obtain⟨b,off,rfl,gc,Ho⟩:=Hs o_
   obtain⟨q0,q1⟩:=Ho k Hd;clear Ho Hs;go_wp2;go_round
   case rel=>exact⟨k+1,by omega,by go_num,by go_num⟩
   case measure=>simp[intOf];omega
  ·have Hw:k=n:=o_
   subst Hw;clear Hs;go_wp2;go_ret
   exact⟨rfl,rfl⟩
structure Turns (S:Nat->Prop) (w w':World):Prop where
 os:w'.os=w.os
 tape:w'.tape=w.tape
 output:w'.output=w.output
 size:w.heap.size<=w'.heap.size
 block:∀i,i<w.heap.size->¬S i->w'.heap[i]? =w.heap[i]?
theorem Turns.ofGrown {w w':World} {row:Option Nat} {S:Nat->Prop} (h:w.grownBy w' row) (hs:∀k,row=some k->S k):Turns S w w':=
 ⟨h.os,h.tape,h.output,h.size,fun i hi hn=>h.block i hi (fun e=>hn (hs i e.symm))⟩
theorem Turns.ofBelow {w w':World} {S:Nat->Prop} (h:Below w.heap.size w w'):Turns S w w':=⟨h.os,h.tape,h.output,h.size,fun i hi _=>h.block i hi⟩
theorem Turns.trans {a b c:World} {S:Nat->Prop} (h:Turns S a b) (k:Turns S b c):Turns S a c:=
 ⟨k.os.trans h.os,k.tape.trans h.tape,k.output.trans h.output,aai h.size k.size,fun i hi hn=>(k.block i (aaE hi h.size) hn).trans (h.block i hi hn)⟩
theorem Turns.mono {a b:World} {S S':Nat->Prop} (h:Turns S a b) (hs:∀k,S k->S' k):Turns S' a b:=⟨h.os,h.tape,h.output,h.size,fun i hi hn=>h.block i hi (fun e=>hn (hs i e))⟩
theorem Turns.below {a b:World} {S:Nat->Prop} {B:Nat} (h:Turns S a b) (hs:∀k,S k->B<=k) (hB:B<=a.heap.size):Below B a b:=
 ⟨h.os,h.tape,h.output,h.size,fun i hi=>h.block i o_ (fun e=>by have:=hs i e;omega)⟩
theorem Turns.refl (S:Nat->Prop) (w:World):Turns S w w:=⟨rfl,rfl,rfl,aaa _,fun _ _ _=>rfl⟩
theorem zQ {base:Nat} {w w':World} {e:TypeId} {size:Nat} {v:Value} {n:Nat} {xs:List Value} {S:Nat->Prop} (h:w.ownsRow base e size v n xs) (hb:Turns S w w') (hs:∀k,v.ownBlock=some k->¬S k):
  w'.ownsRow base e size v n xs:=by
 obtain⟨h1,h2⟩:=h;refine⟨h1,?_⟩
 rcases h2 with ⟨rfl,hn⟩|⟨g,cap,cur,rfl,e1,hh,r⟩
 ·exact .inl ⟨rfl,hn⟩
 ·refine .inr ⟨g,cap,cur,rfl,e1,?_,r⟩
  have Hd:g<w.heap.size:=by
   rcases abk g w.heap.size with Hd|MY
   ·exact Hd
   ·rw[abx MY] at hh;cases hh
  rw[hb.block g Hd (hs g rfl)];exact hh
theorem OwnP.turned {t:TypeId} {base:Nat} {w w':World} {v:Value} {l:List (Int×Int)} {S:Nat->Prop} (h:OwnP t base w v l) (hb:Turns S w w') (hs:∀k,v.ownBlock=some k->¬S k):OwnP t base w' v l:=zQ h hb hs
theorem Blk.turned {w w':World} {g:Nat} {t:TypeId} {cs:Array Value} {S:Nat->Prop} (h:Blk w g t cs) (hb:Turns S w w') (hn:¬S g):Blk w' g t cs:=(hb.block g h.lt hn).trans h
def zw (vn vl:Value) (k:Nat):Prop:=vn.ownBlock=some k∨vl.ownBlock=some k
theorem OwnW.turned {base:Nat} {w w':World} {vn vl:Value} {ns ls:List (Int×Int)} {S:Nat->Prop} (h:OwnW base w vn vl ns ls) (hb:Turns S w w') (hs:∀k,zw vn vl k->¬S k):OwnW base w' vn vl ns ls:=
 ⟨h.1.turned hb (fun k hk=>hs k (.inl hk)),h.2.1.turned hb (fun k hk=>hs k (.inr hk)),h.2.2⟩
theorem OwnW.lt {base:Nat} {w:World} {vn vl:Value} {ns ls:List (Int×Int)} (h:OwnW base w vn vl ns ls) (k:Nat) (hk:zw vn vl k):base<=k/\k<w.heap.size:=by
 rcases hk with hk|hk
 ·exact h.1.lt k hk
 ·exact h.2.1.lt k hk
theorem Q9 (base:Nat) (vn vl:Value) (ns ls:List (Int×Int)) (a:Int) (w:World) (h:OwnW base w vn vl ns ls) (ha:0<=a) (hb:a+2*ns.length+2*ls.length<=1000000000000):
  Calls Tryz.prog 175 #[.agg #[vn,vl],.int .i64 a] w fun e w'=>e= .returned (.int .i64 (a+2*ns.length+2*ls.length))/\OwnW base w' vn vl (runP a ns.length) (runP (a+2*ns.length) ls.length)/\Turns (zw vn vl) w w':=by
 have Hd:=h.lt;have T0:∀w':World,Below w.heap.size w w'->Turns (zw vn vl) w w':=fun w' h=>Turns.ofBelow h
 go_enter Tryz.func175,Tryz.ntmps175
 go_wp2_with fail
 refine(QS base vn ns a _ (h.1.kept bel_) ha o_).mono ?_
 rintro e w1 ⟨rfl,Hj,fF⟩;have t1:Turns (zw vn vl) w w1:=Turns.trans (T0 _ bel_) (Turns.ofGrown fF (fun k hk=> .inl hk));have B0:Blk (w.alloc (.cells #[vn,vl] 27)) w.heap.size 27 #[vn,vl]:=Blk.newAt rfl;have Fl:Blk w1 w.heap.size 27 #[vn,vl]:=Blk.turned B0 (Turns.ofGrown (S:=zw vn vl) fF (fun k hk=> .inl hk)) (fun hk=>by have:=(Hd _ hk).2;omega);obtain⟨q_0,q_1⟩:=Fl.c2;have l1:OwnP 108 base w1 vl ls:=h.2.1.turned (S:=fun k=>vn.ownBlock=some k) (Turns.trans (Turns.ofBelow bel_) (Turns.ofGrown fF (fun k hk=>hk))) (fun k hk gH=>h.2.2 k gH hk);clear fF B0
 go_wp2_with fail
 refine(QO base vl ls (a+2*ns.length) _ l1 o_ o_).mono ?_
 rintro e w2 ⟨rfl,Hm,Gr⟩;have t2:Turns (zw vn vl) w w2:=Turns.trans t1 (Turns.ofGrown Gr (fun k hk=> .inr hk));have o2:OwnP 106 base w2 vn (runP a ns.length):=Hj.turned (S:=fun k=>vl.ownBlock=some k) (Turns.ofGrown Gr (fun k hk=>hk)) (fun k hk gH=>h.2.2 k hk gH);go_wp2;go_ret
 exact⟨rfl,⟨o2,Hm,h.2.2⟩,t2⟩
theorem QX (vn vl:Value) (n m:Nat) (a:Int) (w:World) (hn:RP w vn (runP a n)) (hl:RP w vl (runP (a+2*n) m)) (ha:0<=a) (hb:a+2*n+2*m<=1000000000000):
  CB_ 177 #[.agg #[vn,vl],.int .i64 a] w (.int .i64 (a+2*n+2*m)):=by
 have e1:¬a+2*(n:Int)<0:=o_
 have e2:¬a+2*(n:Int)+2*(m:Int)<0:=o_
 go_enter Tryz.func177,Tryz.ntmps177
 go_wp2_with fail
 refine(ZP vn n a _ (hn.below bel_) ha o_).mono ?_
 rintro e w' ⟨rfl,rfl⟩
 go_wp2_with fail
 refine(ZA vl m (a+2*n) _ (hl.below bel_) o_ o_).mono ?_
 rintro e w' ⟨rfl,rfl⟩;go_wp2;go_ret
 exact⟨rfl,by exact bel_⟩
open Go.ChangeShapes Go.WideShapes Go.ChangeAt Go.RowKit
theorem ownK:ownKnob Tryz.prog.godebug=none:=by kernel_rfl
theorem zbg:laidOutB Tryz.prog=true:=by kernel_rfl
theorem zaR:mapsRowed Tryz.prog=true:=by kernel_rfl
def xW:Char:=Char.ofNat 32
def z6t:List (List Char)->List Char
 | []=> []
 | [w]=>w
 |w::v::r=>w++xW::z6t (v::r)
theorem z0Q:∀(w:List Char),(w.all fun c=>c != xW)=true->wordsSigns w=[w]
 | [],_=>rfl
 |c::w,h=>by
  simp only[List.all_cons,aaH] at h
  have ih:=z0Q w h.2;have hc:c≠xW:=by simpa using h.1
  unfold wordsSigns
  split
  ·rename_i Fz;cases Fz
  ·rename_i Fz;injection Fz with h1 _;exact absurd h1 hc
  ·rename_i Fz;injection Fz with h1 h2;subst h1 h2;rw[ih]
theorem X7:∀(w r:List Char),(w.all fun c=>c != xW)=true->wordsSigns (w++xW::r)=w::wordsSigns r
 | [],r,_=>rfl
 |c::w,r,h=>by
  simp only[List.all_cons,aaH] at h
  have ih:=X7 w r h.2;have hc:c≠xW:=by simpa using h.1
  rw[List.cons_append,wordsSigns.eq_def]
  split
  ·rename_i Fz;cases Fz
  ·rename_i Fz;injection Fz with h1 _;exact absurd h1 hc
  ·rename_i Fz;injection Fz with h1 h2;subst h1 h2;rw[ih]
theorem Xf:∀(ws:List (List Char)),ws≠ []->(ws.all fun w=>w.all fun c=>c != xW)=true->wordsSigns (z6t ws)=ws
 | [],h,_=>absurd rfl h
 | [w],_,h=>by
  simp only[List.all_cons,List.all_nil,Bool.and_true] at h
  exact z0Q w h
 |w::v::r,_,h=>by
  rw[List.all_cons,aaH] at h
  show wordsSigns (w++xW::z6t (v::r))=_
  rw[X7 w _ h.1,Xf (v::r) (by simp) h.2]
def Zr:List (List Char):=
 [[104,97,114,110,101,115,115],
  [98,54,97,101,99,48,57,97,48,57,100,99,50,51,56,54,52,102,52,57,99,99,52,54,49,97,56,52,51,48,50,57,98,100,102,99,48,49,48,51,56,49,54,57,48,50,99,50,49,56,101,49,101,55,55,49,98,48,57,55,51,50,97,52],
  [99,117,116],
  [97,116],
  [108,111,111,112,46,101,120,97,109,112,108,101,47,103,48,51,51,48,51,47,108,97,119,115,46,70,110,84,111,112],
  [108,111,111,112,46,101,120,97,109,112,108,101,47,103,48,51,51,48,51,47,108,97,119,115,46,70,110,69,120,97,99,116,83,119,97,112,67,111,108,111,114,115],
  [108,111,111,112,46,101,120,97,109,112,108,101,47,103,48,51,51,48,51,47,108,97,119,115,46,70,110,69,120,97,99,116,67,111,108,111,114,65,108,108],
  [108,111,111,112,46,101,120,97,109,112,108,101,47,103,48,51,51,48,51,47,108,97,119,115,46,70,110,83,116,117,100,105,111,115],
  [108,111,111,112,46,101,120,97,109,112,108,101,47,103,48,51,51,48,51,47,108,97,119,115,46,70,110,69,120,97,99,116,83,116,111,114,101,80,97,110,101],
  [108,111,111,112,46,101,120,97,109,112,108,101,47,103,48,51,51,48,51,47,108,97,119,115,46,70,110,82,101,112,108,97,121,115],
  [108,111,111,112,46,101,120,97,109,112,108,101,47,103,48,51,51,48,51,47,108,97,119,115,46,70,110,83,99,101,110,97,114,105,111,115],
  [108,111,111,112,46,101,120,97,109,112,108,101,47,103,48,51,51,48,51,47,108,97,119,115,46,70,110,69,120,97,99,116,73,115,82,101,112,108,97,121],
  [108,111,111,112,46,101,120,97,109,112,108,101,47,103,48,51,51,48,51,47,108,97,119,115,46,70,110,69,120,97,99,116,68,111,65,99,116],
  [108,111,111,112,46,101,120,97,109,112,108,101,47,103,48,51,51,48,51,47,108,97,119,115,46,70,110,69,120,97,99,116,82,117,110,65,99,116,115]].map fun w=>w.map Char.ofNat
theorem zbi:wordsSigns Tryz.prog.initOrder.toList=Zr:=by
 have h:Tryz.prog.initOrder=String.ofList (z6t Zr):=by kernel_rfl
 rw[h,String.toList_ofList];exact Xf Zr (by decide) k_
theorem z79:behindMainWord (wordsSigns Tryz.prog.initOrder.toList)=behindMainWord Zr:=by rw[zbi]
theorem cutW:behindMainWord Zr="cut".toList ::Zr.drop 3:=by kernel_rfl
theorem z9X {P:Program} {r:List (List Char)} (h:behindMainWord (wordsSigns P.initOrder.toList)="cut".toList ::r):P.make=some .cut :=by
 unfold Program.make;rw[h]
 show(if _ then _ else _)=_
 rw[aaq (by decide),aao (by simp)]
theorem z98 {P:Program} {r:List (List Char)} (h:behindMainWord (wordsSigns P.initOrder.toList)="cut".toList ::r) (hs:stripLifts liftWords ("cut".toList ::r)=([],"cut".toList ::r))
  (hd:P.doorFits []=true) (hl:P.laysLater=false) (hb:P.bearsReflect=false):P.mayEnter=true:=by
 unfold Program.mayEnter;rw[h]
 show(_||_||_)=true
 rw[hs,hd,hl,hb];simp only[aaI]
 exact .inr (by simp)
theorem z8F {P:Program} {r:List (List Char)} (h:behindMainWord (wordsSigns P.initOrder.toList)="cut".toList ::r) (hs:stripLifts liftWords ("cut".toList ::r)=([],"cut".toList ::r)):P.liftsFinal=false:=by
 unfold Program.liftsFinal Program.headLifts;rw[h,hs];have e:("cut".toList =="carried".toList)=false:=by decide
 simp[e]
theorem cutK:behindMainWord (wordsSigns Tryz.prog.initOrder.toList)="cut".toList ::Zr.drop 3:=z79.trans cutW
theorem z8P:stripLifts liftWords ("cut".toList ::Zr.drop 3)=([],"cut".toList ::Zr.drop 3):=by kernel_rfl
theorem zbf:Tryz.prog.doorFits []=true:=by kernel_rfl
theorem zaO:Tryz.prog.laysLater=false:=by kernel_rfl
theorem z96:Tryz.prog.bearsReflect=false:=by kernel_rfl
theorem zbb:Tryz.prog.mayEnter=true:=z98 cutK z8P zbf zaO z96
theorem zbd:Tryz.prog.make=some .cut :=z9X cutK
theorem zaX:Tryz.prog.liftsFinal=false:=z8F cutK z8P
theorem zbl {c:OpenClaim} (h:c.lifted=false):(c.lifted==Tryz.prog.liftsFinal)=true:=by rw[h,zaX];rfl
theorem zbk {c:OpenClaim} (h:c.make= .cut):(Tryz.prog.make==some c.make)=true:=by rw[zbd,h];rfl
section
variable {H:Type} {enc:TypeId×Value->H} {P:Program}
theorem z08 {ts:List TypeId} (hl:laidOutB P=true) {W W':World} (hb:Below W.heap.size W W') {sp:Nat->Bool}:
  ∀ {vs:List Value} {ds:List (DataW H)} {ps:List MemPlace},(∀t∈ts,P.readableRec t=true/\t<P.types.size)->
   DataW.TrodAll enc P W 0 (fun _=>true) true ts vs ds ps->(∀x∈ps,x.block<W.heap.size)->(∀x∈ps,sp x.block=true)->DataW.TrodAll enc P W' 0 sp true ts vs ds ps:=by
 induction ts with
 |nil=>
  intro vs ds ps _ h _ _;obtain⟨rfl,rfl,rfl⟩:=trodAll_nil h;exact trodAll_mk0
 |cons t ts ih=>
  intro vs ds ps hr h Hd nW;obtain⟨v,vs',d,ds',p,q,MH,rfl,rfl,hd,FZ⟩:=trodAll_cons h;subst MH;obtain⟨h1,h2⟩:=hr t (by simp);refine trodAll_cons_mk ?_ (ih (fun t' Bj=>hr t' (by simp[Bj])) FZ (fun x hx=>Hd x (by simp[hx])) (fun x hx=>nW x (by simp[hx])))
  exact WideElems.Trod_stays hl h1 h2 hd (fun x hx=>hb.same (Hd x (by simp[hx]))) (fun x hx=>nW x (by simp[hx]))
theorem z09 {f:Func} {s:ChangeSpec} {apart fresh bL again:Bool} {W W':World} {args:Array Value} {v:Value} {ds gs:List (DataW H)} {before pa pv:List MemPlace}
  (hW:DataW.Whole enc P f.params.toList s.vars apart W args.toList ds gs before)
  (c7:∀(b:Nat) (sp:Nat->Bool) (hd:Bool),DataW.TrodAll enc P W' b sp hd f.resultTypes.toList (v.resultList f.resultTypes.size) (s.fn H (ds++gs)).results [])
  (MH:∀sp:Nat->Bool,(∀p∈before,sp p.block=true)->DataW.TrodAll enc P W' 0 sp true f.params.toList args.toList (s.fn H (ds++gs)).args pa)
  (UT:∀sp:Nat->Bool,(∀p∈before,sp p.block=true)->DataW.TrodVars enc P W' sp s.vars (s.fn H (ds++gs)).vars pv)
  (hps:before=pa++pv) (hb:Below W.heap.size W W')
  (fv:∀(j:Nat) (t:TypeId) (r:Value),f.resultTypes[j]? =some t->(v.resultList f.resultTypes.size)[j]? =some r->Value.okWide P W' .any 0 t r):
  s.post enc P f apart fresh bL again W args v W':=by
 have Hd:∀p∈before,p.block<W.heap.size:=fun p hp=>hW.lt p hp
 have hold:∀p∈before,(fun b=>decide (b<W.heap.size)) p.block=true:=fun p hp=>by simpa using Hd p hp
 refine⟨ds,gs,before,[],pa,pv,hW,c7 _ _ _,MH _ hold,UT _ hold,World.keptBut_mono (fun p hp=>⟨hp,?_⟩) (hb.frame (· ∈before)),fun _=>?_⟩
 ·rw[hps,aaJ] at hp
  exact Or.inr hp
 ·obtain⟨_,_,_,_,_,hz,hn⟩:=hW
  refine⟨fv,_,_,([]++pa)++pv,⟨[]++pa,pv,trodAll_append (MH _ (fun _ _=>rfl)) (c7 _ _ _),UT _ (fun _ _=>rfl),rfl,?_,?_⟩,?_⟩
  ·intro b off hp
   have Gp:MemPlace.cell b off∈before:=by rw[hps];simpa using hp
   rw[hb.frozen (Hd _ Gp)];exact hz b off Gp
  ·intro ha
   have:=hn ha;rw[hps] at this
   simpa using this
  ·intro p hp _
   rw[hps]
   simpa using hp
theorem zbj {f:Func} {s:ChangeSpec} {apart fresh bL again:Bool} {W W':World} {args:Array Value} {ds gs:List (DataW H)} {before:List MemPlace} {tb:TypeId}
  (hl:laidOutB P=true) (ht:P.underlying tb=some .bool) (hrt:f.resultTypes= #[tb]) (hv:s.vars=[])
  (mL:∀ds:List (DataW H),ds.length=f.params.size->s.fn H (ds++[])= { results:=[.lit (.bool true)],args:=ds })
  (hp:∀t∈f.params.toList,P.readableRec t=true/\t<P.types.size)
  (hW:DataW.Whole enc P f.params.toList s.vars apart W args.toList ds gs before) (Hi:ds.length=f.params.size) (hb:Below W.heap.size W W'):s.post enc P f apart fresh bL again W args (.bool true) W':=by
 have hW':=hW;obtain⟨p,q,hA,hV,rfl,hfz,hnd⟩:=hW;rw[hv] at hV;obtain⟨rfl,rfl⟩:=trodVars_none hV;have Hd:∀x∈p,x.block<W.heap.size:=fun x hx=>hW'.lt x (by simp[hx])
 refine z09 (pa:=p) (pv:=[]) hW' ?_ ?_ ?_ rfl hb ?_
 ·intro b sp hd
  rw[mL ds Hi,hrt];exact trodAll_mk1 (shut_bool ht true)
 ·intro sp nW
  rw[mL ds Hi];exact z08 hl hb hp hA Hd (fun x hx=>nW x (by simp[hx]))
 ·intro sp _
  rw[mL ds Hi,hv];exact rfl
 ·exact ok_one hrt rfl (okWide_bool_mk ht true)
end
open Go.ChangeShapes Go.WideShapes Go.Deep Go.RowKit Go.Joins
section
variable {H:Type} {enc:TypeId×Value->H} {P:Program} {w:World} {base:Nat} {spare:Nat->Bool} {Gg:Bool}
theorem V0 {t e:TypeId} {fs:Array Field} {fuel:Nat} {cs:List Value} {x:DataW H×List MemPlace} (ht:P.underlying t=some (.slice e)) (he:P.underlying e=some (.struct fs))
  (fL:oneCellFields P fs=true) (hC:P.cellsOf e=fs.size) (h:DataW.trod enc P w base spare Gg fuel t cs=some x):
  (cs=[.slice none 0 0]/\x=(.nil,[]))∨
  ∃(a:Addr) (len cap m:Nat) (D:Nat->DataW H) (Pl:Nat->List MemPlace),cs=[.slice (some a) len cap]/\base<=a.block/\len<=cap/\cap<=maxLen/\m=(if spare a.block then cap else len)/\
   x=(.slice ((List.range len).map D) ((List.range (m -len)).map fun j=>D (len+j)),MemPlace.row a (m*fs.size)++(List.range m).flatMap Pl)/\
   ∀i,i<m->∃(ys:List (DataW H×List MemPlace)) (n:Nat),D i= .agg (ys.map (·.1))/\Pl i=ys.flatMap (·.2)/\ys.length=fs.size/\
    ∀(j:Nat) (f:Field),fs[j]? =some f->∃(v:Value) (y:DataW H×List MemPlace),w.cell? (a.add (i*fs.size+j))=some v/\ys[j]? =some y/\DataW.trod enc P w base spare Gg n f.type [v]=some y:=by
 rcases open_slice ht h with h0|⟨a,len,cap,m,n,D,Pl,Gu,hb,hl,hm,c9,hx,hi⟩
 ·exact .inl h0
 ·refine .inr ⟨a,len,cap,m,D,Pl,Gu,hb,hl,hm,c9,by rw[hC] at hx;exact hx,fun i him=>?_⟩
  obtain⟨cs',hc,Bj⟩:=hi i him;rw[hC] at hc;obtain⟨ys,n',FM,hy,Hi,fM,hf⟩:=DataW.trod_struct he Bj;obtain⟨_,Ho,Gy⟩:=World.cells?_some hc;simp only[Prod.mk.injEq] at hy
  refine⟨ys,n',hy.1,hy.2,fM,fun j f hj=>?_⟩
  obtain⟨ho,hk⟩:=hone_of fL j f hj;have FL:j<fs.size:=(Array.getElem?_eq_some_iff.1 hj).1;have hcell:=Gy j FL;have hv:cs'[j]? =some (cs'[j]'o_):=aac o_;have h1:=hf j f hj;rw[ho,hk] at h1
  have Nr:(cs'.drop j).take 1=[cs'[j]'o_]:=by
   rw[aas o_];rfl
  rw[Nr] at h1;have hys:ys[j]? =some (ys[j]'o_):=aac o_;refine⟨_,_,?_,hys,h1.trans hys⟩
  rw[<-Go.Deep.add_add,hcell,hv]
theorem Vj {t e:TypeId} {f0 f1:Field} {fuel:Nat} {v:Value} {x:DataW H×List MemPlace} (ht:P.underlying t=some (.slice e)) (he:P.underlying e=some (.struct #[f0,f1]))
  (fL:oneCellFields P #[f0,f1]=true) (hC:P.cellsOf e=2) (h0:P.underlying f0.type=some (.int .i64)) (h1:P.underlying f1.type=some (.int .i64))
  (h:DataW.trod enc P w base spare Gg fuel t [v]=some x):∃l:List (Int×Int),RP w v l:=by
 rcases V0 ht he fL hC h with ⟨Gu,_⟩|⟨a,len,cap,m,D,Pl,Gu,hb,hl,hm,c9,hx,hi⟩
 ·simp only[List.cons.injEq,and_true] at Gu
  subst Gu;exact⟨[],RP.nil w⟩
 ·simp only[List.cons.injEq,and_true] at Gu
  subst Gu;have hlm:len<=m:=by rw[c9];split<;>omega
  have key:∀i,i<len->∃x y:Int,w.cell? (a.add (i*2))=some (.int .i64 x)/\w.cell? (a.add (i*2+1))=some (.int .i64 y):=by
   intro i Fm;obtain⟨ys,n,_,_,_,hf⟩:=hi i o_;obtain⟨v0,y0,c0,_,t0⟩:=hf 0 f0 rfl;obtain⟨v1,y1,c1,_,t1⟩:=hf 1 f1 rfl;obtain⟨q0,e0,_,_⟩:=DataW.trod_int h0 t0;obtain⟨q1,e1,_,_⟩:=DataW.trod_int h1 t1;simp at e0 e1
   subst e0 e1;exact⟨q0,q1,by simpa using c0,by simpa using c1⟩
  let F:Nat->Int×Int:=fun i=>(intOf ((w.cell? (a.add (i*2))).getD undef),intOf ((w.cell? (a.add (i*2+1))).getD undef))
  refine⟨(List.range len).map F,?_,some a,cap,by simp,by simpa using hl,by simp;omega,fun GD=>?_⟩
  ·rw[zK prc 2 (fun _=>rfl)]
  ·have hpos':0<len:=by simpa using GD
   obtain⟨x0,y0,GU,_⟩:=key 0 hpos'
   have nW:a.spot=none:=by
    cases hs:a.spot with
    |none=>rfl
    |some s=>
     have e0:a.add (0*2)=a:=by simp[Addr.add]
     rw[e0] at GU;unfold World.cell? at GU
     split at GU
     ·rw[hs] at GU;simp at GU
     ·cases GU
   obtain⟨b,off,sp⟩:=a;simp at nW
   subst nW
   have CQ:∀k,(⟨b,off,none⟩:Addr).add k=⟨b,off+k,none⟩:=by
    intro k;unfold Addr.add
    split<;>simp_all
   refine⟨b,off,rfl,?_,fun j u hu=>?_⟩
   ·have:=World.block_lt_of_cell? w _ GU
    rw[CQ] at this;exact this
   ·have hj:j<len*2:=by
     have:=(List.getElem?_eq_some_iff.1 hu).1;rw[zK prc 2 (fun _=>rfl)] at this
     simpa using this
    obtain⟨x,y,BH,BI⟩:=key (j/2) o_;have h2:=qi prc 2 (fun _=>rfl) ((List.range len).map F) (j/2) (j%2) (by simp;omega) o_;rw[show j/2*2+j%2=j by omega,hu] at h2;rw[CQ] at BH BI
    have hF:F (j/2)=(x,y):=by
     show(intOf ((w.cell? ((⟨b,off,none⟩:Addr).add (j/2*2))).getD undef),intOf ((w.cell? ((⟨b,off,none⟩:Addr).add (j/2*2+1))).getD undef))=_
     rw[CQ,CQ,BH,BI];rfl
    have:j%2=0∨j%2=1:=o_
    rcases this with h|h
    ·rw[h] at h2
     simp only[List.getElem_map,List.getElem_range,hF,prc,aag] at h2
     rw[h2,show off+j=off+j/2*2 by omega];exact BH
    ·rw[h] at h2
     simp only[List.getElem_map,List.getElem_range,hF,prc,aah,aag] at h2
     rw[h2,show off+j=off+(j/2*2+1) by omega];exact BI
end
section
variable {H:Type} {enc:TypeId×Value->H} {w:World} {base:Nat} {spare:Nat->Bool} {Gg:Bool}
end
end Go.Proofs.YtnjcpljhmhdhkaaGreat
