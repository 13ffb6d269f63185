/- part 5 -/
import Derived.Test.YtnjcpljhmhdhkaaGreatTPk4
import Derived.BigQuiet
import Derived.Deep.RegionHeld3
import Derived.Deep.DeepCutAuto
set_option linter.unusedSimpArgs false
set_option linter.unusedVariables false
set_option maxRecDepth 100000
set_option maxHeartbeats 4000000
namespace Go.Proofs.YtnjcpljhmhdhkaaGreat
open Go.RowKit
structure Grw (w:World) where
 wt:World
 below:Below w.heap.size w wt
instance (w:World):Nonempty (Grw w):=⟨⟨w,Below.refl _ _⟩⟩
theorem Grw.cells {w:World} (n:Grw w) (b o:Nat) (h:b<w.heap.size):n.wt.cell? ⟨b,o,none⟩=w.cell? ⟨b,o,none⟩:=n.below.cell (p:=⟨b,o,none⟩) h
theorem z9 {P:Program} {id:Nat} {Q:Exit→Act→World→Prop} {a:Act} {w:World} {l:List Oper} (hm:P.follows .mixedOrders =true) (hB:Region.lexB .any l.toArray=true)
  (h:(∀(n:Grw w) (b o:Nat),b<w.heap.size→n.wt.cell? ⟨b,o,none⟩=w.cell? ⟨b,o,none⟩)→wpQuiet P l.toArray (fun w'=>∃n:Grw w,w'=n.wt) (fun a'=>∀w',(∃n:Grw w,w'=n.wt)→Q .normal a' w') l a):
  (Code.region id l.toArray true).wp P Q a w:=
 wp_region_quiet (C:=fun w'=>∃n:Grw w,w'=n.wt) hm hB ⟨⟨w.drew,(Below.refl _ _).drew⟩,rfl⟩ (by simpa using h (fun n=>n.cells))
theorem zv {P:Program} {W:World} {n:Grw W} {f:Nat} {args:Array Value} {v:Value} (h:Calls P f args n.wt fun e w'=>e= .returned v∧Below n.wt.heap.size n.wt w'):
  Calls P f args n.wt fun e w''=>e= .returned v∧∃m:Grw W,w''=m.wt:=
 h.mono fun e w' ⟨he,hb⟩=>⟨he,⟨w',n.below.trans (hb.mono n.below.size)⟩,rfl⟩
theorem RS.grw {W:World} (n:Grw W) {size k:Nat} {v:Value} {xs:List Value} (h:RS W size v k xs):RS n.wt size v k xs:=RS.below h n.below
theorem zM {P:Program} {W:World} {n:Grw W} {f:Nat} {args:Array Value} {v:Value} (h:Calls P f args n.wt fun e w'=>e= .returned v∧n.wt=w'):
  Calls P f args n.wt fun e w''=>e= .returned v∧∃m:Grw W,w''=m.wt:=
 h.mono fun e w' ⟨he,hb⟩=>⟨he,n,hb.symm⟩
attribute [local go_sem ↓] zu zw zY zZ
theorem z2l {w:World} {l:List (Int×Int)} {cs:Array Value} {t:TypeId} {g n c:Nat} (hg:g=w.heap.size) (hcs:cs.toList=l.flatMap prc) (hn:n=l.length) (hc:c=l.length) (hm:l.length≤maxLen):
  RP (w.alloc (.cells cs t)).drew (.slice (some ⟨g,0,none⟩) n c) l:=
 RP.below (qR hg hcs hn hc hm) ((Below.refl _ _).drew)
theorem Qz {ns:List Pr} {a b:Int} (h:¬(0≤a∧a<b∧b<ns.length)):zj ns (a,b)=false:=by
 cases hl:zj ns (a,b)
 ·rfl
 ·obtain⟨h1,h2,h3,_⟩:=zR.1 hl
  exact absurd ⟨h1,h2,h3⟩ h
theorem z0v {ns:List Pr} {p q:Nat} (h1:p<q) (h2:q<ns.length):zj ns (p,q)=(zf (ndI ns p).1 (ndI ns p).2&&zf (ndI ns q).1 (ndI ns q).2&& !(prB (ndI ns p).1 (ndI ns p).2 (ndI ns q).1 (ndI ns q).2)):=by
 unfold zj;have e1:decide ((0:Int)≤(p:Int))=true:=decide_eq_true (by omega);have e2:decide ((p:Int)<(q:Int))=true:=decide_eq_true (by omega);have e3:decide ((q:Int)<(ns.length:Int))=true:=decide_eq_true (by omega);rw[e1,e2,e3];simp[j9,qd]
theorem z0V (v:Value) (ax ay bx by':Int) (w:World) (h:RP w v [(ax,ay),(bx,by')]):
  Calls Tryz.prog 154 #[v] w fun e w'=>e= .returned (.bool (zf ax ay&&zf bx by'))∧Below w.heap.size w w':=
 (ke v _ w h).mono fun e w' ⟨he,hw⟩=>⟨he.trans (za (by simp[zO])),hw⟩
theorem zD (x y:Int) (b:Bool) (w:World) (h:zf x y=b):
  Calls Tryz.prog 195 #[.agg #[.int .i64 x,.int .i64 y]] w fun e w'=>e= .returned (.bool b)∧Below w.heap.size w w':=by
 subst h;exact qo x y w
theorem xN (w:World) (gb off len c p q:Nat) (px py qx qy:Int) (hx:zf px py=true) (hy:zf qx qy=true) (g1:p<q) (g2:q<len) (hm:len≤2^63 -1) (hgb:gb<w.heap.size)
  (k0:w.cell? ⟨gb,off+p*2,none⟩=some (.int .i64 px)) (k1:w.cell? ⟨gb,off+p*2+1,none⟩=some (.int .i64 py))
  (j0:w.cell? ⟨gb,off+q*2,none⟩=some (.int .i64 qx)) (j1:w.cell? ⟨gb,off+q*2+1,none⟩=some (.int .i64 qy)):
  Calls Tryz.prog 196 #[.slice (some ⟨gb,off,none⟩) len c,.agg #[.int .i64 p,.int .i64 q]] w fun e w'=>e= .returned (.bool (true&&true&& !(prB px py qx qy)))∧Below w.heap.size w w':=by
 have g3:p<len:=by omega
 have i1:inB (p:Int) 0 ((len:Int) -1)=true:=zt.2 (by omega);have i2:inB (q:Int) 0 ((len:Int) -1)=true:=zt.2 (by omega);have hne:¬gb=w.heap.size:=by omega
 have n1:gb<w.heap.size+1:=by omega
 go_enter Tryz.func196,Tryz.ntmps196
 go_wp2_with (go_at_call 138;refine(jd _ _ _ _).mono ?_;rintro e w' ⟨rfl,rfl⟩;first|rw[i1]|rw[i2])
 (refine z9 (by kernel_rfl) (by kernel_rfl) (fun hG=>?_))
 repeat (go_big_quiet_step (first|(go_at_call 195;exact zv (zD _ _ _ _ hx))|(go_at_call 195;exact zv (zD _ _ _ _ hy))))
 (refine wpQuiet_nil ?_);(clear hG);(rintro w1 ⟨⟨_,hb1⟩,rfl⟩);(try dsimp only);(first|(with_reducible have hcf1:=z8 hb1)|have hcf1:=bcell hb1);obtain⟨hc1,hf1⟩:=hcf1;have hz1:=hb1.size;(try simp at hz1);(try have hp1_0:=p0_ w w1);(try have hp1_1:=p1_ w w1);(try have hp1_2:=p2_ w w1);(try have hp1_3:=p3_ w w1)
 go_wp2;go_ret
 exact⟨za (by simp),by exact bel_⟩
theorem xd (w:World) (gb off len c p q:Nat) (px py qx qy:Int) (hx:zf px py=true) (hy:zf qx qy=false) (g1:p<q) (g2:q<len) (hm:len≤2^63 -1) (hgb:gb<w.heap.size)
  (k0:w.cell? ⟨gb,off+p*2,none⟩=some (.int .i64 px)) (k1:w.cell? ⟨gb,off+p*2+1,none⟩=some (.int .i64 py))
  (j0:w.cell? ⟨gb,off+q*2,none⟩=some (.int .i64 qx)) (j1:w.cell? ⟨gb,off+q*2+1,none⟩=some (.int .i64 qy)):
  Calls Tryz.prog 196 #[.slice (some ⟨gb,off,none⟩) len c,.agg #[.int .i64 p,.int .i64 q]] w fun e w'=>e= .returned (.bool (true&&false&& !(prB px py qx qy)))∧Below w.heap.size w w':=by
 have g3:p<len:=by omega
 have i1:inB (p:Int) 0 ((len:Int) -1)=true:=zt.2 (by omega);have i2:inB (q:Int) 0 ((len:Int) -1)=true:=zt.2 (by omega);have hne:¬gb=w.heap.size:=by omega
 have n1:gb<w.heap.size+1:=by omega
 go_enter Tryz.func196,Tryz.ntmps196
 go_wp2_with (go_at_call 138;refine(jd _ _ _ _).mono ?_;rintro e w' ⟨rfl,rfl⟩;first|rw[i1]|rw[i2])
 (refine z9 (by kernel_rfl) (by kernel_rfl) (fun hG=>?_))
 repeat (go_big_quiet_step (first|(go_at_call 195;exact zv (zD _ _ _ _ hx))|(go_at_call 195;exact zv (zD _ _ _ _ hy))))
 (refine wpQuiet_nil ?_);(clear hG);(rintro w1 ⟨⟨_,hb1⟩,rfl⟩);(try dsimp only);(first|(with_reducible have hcf1:=z8 hb1)|have hcf1:=bcell hb1);obtain⟨hc1,hf1⟩:=hcf1;have hz1:=hb1.size;(try simp at hz1);(try have hp1_0:=p0_ w w1);(try have hp1_1:=p1_ w w1);(try have hp1_2:=p2_ w w1);(try have hp1_3:=p3_ w w1)
 go_wp2;go_ret
 exact⟨za (by simp),by exact bel_⟩
theorem xh (w:World) (gb off len c p q:Nat) (px py qx qy:Int) (hx:zf px py=false) (hy:zf qx qy=true) (g1:p<q) (g2:q<len) (hm:len≤2^63 -1) (hgb:gb<w.heap.size)
  (k0:w.cell? ⟨gb,off+p*2,none⟩=some (.int .i64 px)) (k1:w.cell? ⟨gb,off+p*2+1,none⟩=some (.int .i64 py))
  (j0:w.cell? ⟨gb,off+q*2,none⟩=some (.int .i64 qx)) (j1:w.cell? ⟨gb,off+q*2+1,none⟩=some (.int .i64 qy)):
  Calls Tryz.prog 196 #[.slice (some ⟨gb,off,none⟩) len c,.agg #[.int .i64 p,.int .i64 q]] w fun e w'=>e= .returned (.bool (false&&true&& !(prB px py qx qy)))∧Below w.heap.size w w':=by
 have g3:p<len:=by omega
 have i1:inB (p:Int) 0 ((len:Int) -1)=true:=zt.2 (by omega);have i2:inB (q:Int) 0 ((len:Int) -1)=true:=zt.2 (by omega);have hne:¬gb=w.heap.size:=by omega
 have n1:gb<w.heap.size+1:=by omega
 go_enter Tryz.func196,Tryz.ntmps196
 go_wp2_with (go_at_call 138;refine(jd _ _ _ _).mono ?_;rintro e w' ⟨rfl,rfl⟩;first|rw[i1]|rw[i2])
 (refine z9 (by kernel_rfl) (by kernel_rfl) (fun hG=>?_))
 repeat (go_big_quiet_step (first|(go_at_call 195;exact zv (zD _ _ _ _ hx))|(go_at_call 195;exact zv (zD _ _ _ _ hy))))
 (refine wpQuiet_nil ?_);(clear hG);(rintro w1 ⟨⟨_,hb1⟩,rfl⟩);(try dsimp only);(first|(with_reducible have hcf1:=z8 hb1)|have hcf1:=bcell hb1);obtain⟨hc1,hf1⟩:=hcf1;have hz1:=hb1.size;(try simp at hz1);(try have hp1_0:=p0_ w w1);(try have hp1_1:=p1_ w w1);(try have hp1_2:=p2_ w w1);(try have hp1_3:=p3_ w w1)
 go_wp2;go_ret
 exact⟨za (by simp),by exact bel_⟩
theorem kR (w:World) (gb off len c p q:Nat) (px py qx qy:Int) (hx:zf px py=false) (hy:zf qx qy=false) (g1:p<q) (g2:q<len) (hm:len≤2^63 -1) (hgb:gb<w.heap.size)
  (k0:w.cell? ⟨gb,off+p*2,none⟩=some (.int .i64 px)) (k1:w.cell? ⟨gb,off+p*2+1,none⟩=some (.int .i64 py))
  (j0:w.cell? ⟨gb,off+q*2,none⟩=some (.int .i64 qx)) (j1:w.cell? ⟨gb,off+q*2+1,none⟩=some (.int .i64 qy)):
  Calls Tryz.prog 196 #[.slice (some ⟨gb,off,none⟩) len c,.agg #[.int .i64 p,.int .i64 q]] w fun e w'=>e= .returned (.bool (false&&false&& !(prB px py qx qy)))∧Below w.heap.size w w':=by
 have g3:p<len:=by omega
 have i1:inB (p:Int) 0 ((len:Int) -1)=true:=zt.2 (by omega);have i2:inB (q:Int) 0 ((len:Int) -1)=true:=zt.2 (by omega);have hne:¬gb=w.heap.size:=by omega
 have n1:gb<w.heap.size+1:=by omega
 go_enter Tryz.func196,Tryz.ntmps196
 go_wp2_with (go_at_call 138;refine(jd _ _ _ _).mono ?_;rintro e w' ⟨rfl,rfl⟩;first|rw[i1]|rw[i2])
 (refine z9 (by kernel_rfl) (by kernel_rfl) (fun hG=>?_))
 repeat (go_big_quiet_step (first|(go_at_call 195;exact zv (zD _ _ _ _ hx))|(go_at_call 195;exact zv (zD _ _ _ _ hy))))
 (refine wpQuiet_nil ?_);(clear hG);(rintro w1 ⟨⟨_,hb1⟩,rfl⟩);(try dsimp only);(first|(with_reducible have hcf1:=z8 hb1)|have hcf1:=bcell hb1);obtain⟨hc1,hf1⟩:=hcf1;have hz1:=hb1.size;(try simp at hz1);(try have hp1_0:=p0_ w w1);(try have hp1_1:=p1_ w w1);(try have hp1_2:=p2_ w w1);(try have hp1_3:=p3_ w w1)
 go_wp2;go_ret
 exact⟨za (by simp),by exact bel_⟩
theorem qS (v:Value) (ns:List Pr) (a b:Int) (w:World) (h:RP w v ns):
  Calls Tryz.prog 196 #[v,.agg #[.int .i64 a,.int .i64 b]] w fun e w'=>e= .returned (.bool (zj ns (a,b)))∧Below w.heap.size w w':=by
 obtain⟨A,c,rfl,hc,hm,hcell⟩:=h.formI;unfold maxLen at hm;clear h
 by_cases hv:0≤a∧a<b∧b<ns.length
 ·obtain⟨h1,h2,h3⟩:=hv
  obtain⟨p,rfl⟩:=Int.eq_ofNat_of_zero_le h1;obtain⟨q,rfl⟩:=Int.eq_ofNat_of_zero_le (show 0≤b by omega);have g1:p<q:=by omega
  have g2:q<ns.length:=by omega
  have g3:p<ns.length:=by omega
  obtain⟨gb,off,rfl,hgb,hcl⟩:=hcell (by omega);obtain⟨k0,k1⟩:=hcl p g3;obtain⟨j0,j1⟩:=hcl q g2;rw[z0v g1 g2]
  cases hx:zf (ndI ns p).1 (ndI ns p).2<;>cases hy:zf (ndI ns q).1 (ndI ns q).2
  ·exact kR w gb off _ c p q _ _ _ _ hx hy g1 g2 hm hgb k0 k1 j0 j1
  ·exact xh w gb off _ c p q _ _ _ _ hx hy g1 g2 hm hgb k0 k1 j0 j1
  ·exact xd w gb off _ c p q _ _ _ _ hx hy g1 g2 hm hgb k0 k1 j0 j1
  ·exact xN w gb off _ c p q _ _ _ _ hx hy g1 g2 hm hgb k0 k1 j0 j1
 ·have HR:=Lib.hid (Qz hv)
  have HV:=Lib.hid hv;clear hcell hv
  go_enter Tryz.func196,Tryz.ntmps196
  go_wp2_with (go_at_call 138;refine(jd _ _ _ _).mono ?_;rintro e w' ⟨rfl,rfl⟩)
  all_goals first|(go_ret;exact⟨za HR.out.symm,by exact bel_⟩)|(exfalso;refine HV.out ?_;simp_all[inB];omega)
theorem z4V (w:World) (gb off len c p q:Nat) (px py qx qy:Int) (hx:(zf px py&&zf qx qy)=true) (g1:p<q) (g2:q<len) (hm:len≤2^63 -1) (hgb:gb<w.heap.size)
  (k0:w.cell? ⟨gb,off+p*2,none⟩=some (.int .i64 px)) (k1:w.cell? ⟨gb,off+p*2+1,none⟩=some (.int .i64 py))
  (j0:w.cell? ⟨gb,off+q*2,none⟩=some (.int .i64 qx)) (j1:w.cell? ⟨gb,off+q*2+1,none⟩=some (.int .i64 qy)):
  Calls Tryz.prog 156 #[.slice (some ⟨gb,off,none⟩) len c,.agg #[.int .i64 p,.int .i64 q]] w fun e w'=>e= .returned (.bool (!(prB px py qx qy)))∧Below w.heap.size w w':=by
 have g3:p<len:=by omega
 have g4:(0:Int)≤(p:Int):=by omega
 have g5:(p:Int)<(q:Int):=by omega
 have g6:(q:Int)<(len:Int):=by omega
 have hne:¬gb=w.heap.size:=by omega
 have n1:gb<w.heap.size+1:=by omega
 have n2:gb<w.heap.size+1+1:=by omega
 have n3:w.heap.size<w.heap.size+1+1:=by omega
 go_enter Tryz.func156,Tryz.ntmps156
 go_wp2_with fail
 (go_region_held3 (fun w'=>w'.cell? ⟨w.heap.size,0,none⟩=some (.int .i64 p)∧w'.cell? ⟨w.heap.size,1,none⟩=some (.int .i64 q)∧w'.cell? ⟨gb,off+p*2,none⟩=some (.int .i64 px)∧w'.cell? ⟨gb,off+p*2+1,none⟩=some (.int .i64 py)∧w'.cell? ⟨gb,off+q*2,none⟩=some (.int .i64 qx)∧w'.cell? ⟨gb,off+q*2+1,none⟩=some (.int .i64 qy))
   (go_keep)
   (first|(go_at_call 154;refine(z0V _ px py qx qy _ (z2l (by simp) rfl rfl rfl (by simp[maxLen]))).mono ?_;rw[hx];rintro e w1 ⟨rfl,hb1⟩;(first|(with_reducible have hcf1:=z8 hb1)|have hcf1:=bcell hb1);obtain⟨hc1,hf1⟩:=hcf1;have hz1:=hb1.size;(try simp at hz1);(try have hp1_0:=p0_ w w1);(try have hp1_1:=p1_ w w1);(try have hp1_2:=p2_ w w1);(try have hp1_3:=p3_ w w1);(have hbb1:gb<w1.heap.size:=by omega))))
 go_wp2;go_ret
 exact⟨za (by simp),by exact bel_⟩
theorem qU (v:Value) (ns:List Pr) (a b:Int) (w:World) (h:RP w v ns) (hok:zO ns=true):
  Calls Tryz.prog 156 #[v,.agg #[.int .i64 a,.int .i64 b]] w fun e w'=>e= .returned (.bool (zj ns (a,b)))∧Below w.heap.size w w':=by
 obtain⟨A,c,rfl,hc,hm,hcell⟩:=h.formI;unfold maxLen at hm;clear h
 by_cases hv:0≤a∧a<b∧b<ns.length
 ·obtain⟨h1,h2,h3⟩:=hv
  obtain⟨p,rfl⟩:=Int.eq_ofNat_of_zero_le h1;obtain⟨q,rfl⟩:=Int.eq_ofNat_of_zero_le (show 0≤b by omega);have g1:p<q:=by omega
  have g2:q<ns.length:=by omega
  have g3:p<ns.length:=by omega
  obtain⟨gb,off,rfl,hgb,hcl⟩:=hcell (by omega);obtain⟨k0,k1⟩:=hcl p g3;obtain⟨j0,j1⟩:=hcl q g2;have hp:=jn hok p g3;have hq:=jn hok q g2;rw[z0v g1 g2];unfold j9 at hp hq;rw[hp,hq];exact z4V w gb off _ c p q _ _ _ _ (by rw[hp,hq];rfl) g1 g2 hm hgb k0 k1 j0 j1
 ·have HR:=Lib.hid (Qz hv)
  have HV:=Lib.hid hv;clear hcell
  go_enter Tryz.func156,Tryz.ntmps156
  go_wp2_with fail
  by_cases c1:0≤a
  ·by_cases c2:a<b
   ·have c3:¬b<ns.length:=fun c3=>hv ⟨c1,c2,c3⟩
    clear hv
    go_quiet (fail)
    go_wp2;go_ret
    exact⟨za HR.out.symm,by exact bel_⟩
   ·clear hv
    go_quiet (fail)
    go_wp2;go_ret
    exact⟨za HR.out.symm,by exact bel_⟩
  ·clear hv
   go_quiet (fail)
   go_wp2;go_ret
   exact⟨za HR.out.symm,by exact bel_⟩
attribute [local go_sem ↓] zu zw zY zZ
def qE (ax ay bx by':Int):Int:=if by'>ay∨(by'=ay∧bx>ax) then 0 else 1
def befB (ax ay bx by' cx cy:Int):Bool:=
 zf ax ay&&zf bx by'&&zf cx cy&&(if qE ax ay bx by'=qE ax ay cx cy then decide (0<zK ax ay bx by' cx cy) else decide (qE ax ay bx by'<qE ax ay cx cy))
theorem Qb (ax ay bx by':Int) (w:World):
  Calls Tryz.prog 276 #[.agg #[.int .i64 ax,.int .i64 ay],.agg #[.int .i64 bx,.int .i64 by']] w fun e w'=>e= .returned (.int .i64 (qE ax ay bx by'))∧Below w.heap.size w w':=by
 go_enter Tryz.func276,Tryz.ntmps276
 go_wp2
 all_goals go_ret
 all_goals refine⟨ze ?_,by exact bel_⟩
 all_goals unfold qE
 all_goals first|(rw[if_pos (by omega)];done)|(rw[if_neg (by omega)];done)|(simp_all;done)|(simp_all;omega)
theorem Z8 {ax ay bx by' cx cy:Int} (h:¬(zf ax ay=true∧zf bx by'=true∧zf cx cy=true)):befB ax ay bx by' cx cy=false:=by
 unfold befB
 cases h1:zf ax ay<;>cases h2:zf bx by'<;>cases h3:zf cx cy<;>simp_all
theorem z0h (ax ay bx by' cx cy:Int) (w:World):
  Calls Tryz.prog 272 #[.agg #[.int .i64 ax,.int .i64 ay],.agg #[.int .i64 bx,.int .i64 by'],.agg #[.int .i64 cx,.int .i64 cy]] w
   fun e w'=>e= .returned (.bool (befB ax ay bx by' cx cy))∧Below w.heap.size w w':=by
 cases h1:zf ax ay
 ·have HR:=Lib.hid (Z8 (ax:=ax) (ay:=ay) (bx:=bx) (by':=by') (cx:=cx) (cy:=cy) (by rw[h1];simp))
  go_enter Tryz.func272,Tryz.ntmps272
  go_wp2_with fail
  refine(zD _ _ _ _ h1).mono ?_
  rintro e w1 ⟨rfl,hb1⟩;(first|(with_reducible have hcf1:=z8 hb1)|have hcf1:=bcell hb1);obtain⟨hc1,hf1⟩:=hcf1;have hz1:=hb1.size;(try simp at hz1);(try have hp1_0:=p0_ w w1);(try have hp1_1:=p1_ w w1);(try have hp1_2:=p2_ w w1);(try have hp1_3:=p3_ w w1)
  go_wp2;go_ret
  exact⟨za HR.out.symm,by exact bel_⟩
 cases h2:zf bx by'
 ·have HR:=Lib.hid (Z8 (ax:=ax) (ay:=ay) (bx:=bx) (by':=by') (cx:=cx) (cy:=cy) (by rw[h2];simp))
  go_enter Tryz.func272,Tryz.ntmps272
  go_wp2_with fail
  refine(zD _ _ _ _ h1).mono ?_
  rintro e w1 ⟨rfl,hb1⟩;(first|(with_reducible have hcf1:=z8 hb1)|have hcf1:=bcell hb1);obtain⟨hc1,hf1⟩:=hcf1;have hz1:=hb1.size;(try simp at hz1);(try have hp1_0:=p0_ w w1);(try have hp1_1:=p1_ w w1);(try have hp1_2:=p2_ w w1);(try have hp1_3:=p3_ w w1)
  go_wp2_with fail
  refine(zD _ _ _ _ h2).mono ?_
  rintro e w2 ⟨rfl,hb2⟩;(first|(with_reducible have hcf2:=z8 hb2)|have hcf2:=bcell hb2);obtain⟨hc2,hf2⟩:=hcf2;have hz2:=hb2.size;(try simp at hz2);(try have hp2_0:=p0_ w w2);(try have hp2_1:=p1_ w w2);(try have hp2_2:=p2_ w w2);(try have hp2_3:=p3_ w w2)
  go_wp2;go_ret
  exact⟨za HR.out.symm,by exact bel_⟩
 cases h3:zf cx cy
 ·have HR:=Lib.hid (Z8 (ax:=ax) (ay:=ay) (bx:=bx) (by':=by') (cx:=cx) (cy:=cy) (by rw[h3];simp))
  go_enter Tryz.func272,Tryz.ntmps272
  go_wp2_with fail
  refine(zD _ _ _ _ h1).mono ?_
  rintro e w1 ⟨rfl,hb1⟩;(first|(with_reducible have hcf1:=z8 hb1)|have hcf1:=bcell hb1);obtain⟨hc1,hf1⟩:=hcf1;have hz1:=hb1.size;(try simp at hz1);(try have hp1_0:=p0_ w w1);(try have hp1_1:=p1_ w w1);(try have hp1_2:=p2_ w w1);(try have hp1_3:=p3_ w w1)
  go_wp2_with fail
  refine(zD _ _ _ _ h2).mono ?_
  rintro e w2 ⟨rfl,hb2⟩;(first|(with_reducible have hcf2:=z8 hb2)|have hcf2:=bcell hb2);obtain⟨hc2,hf2⟩:=hcf2;have hz2:=hb2.size;(try simp at hz2);(try have hp2_0:=p0_ w w2);(try have hp2_1:=p1_ w w2);(try have hp2_2:=p2_ w w2);(try have hp2_3:=p3_ w w2)
  go_wp2_with fail
  refine(zD _ _ _ _ h3).mono ?_
  rintro e w3 ⟨rfl,hb3⟩;(first|(with_reducible have hcf3:=z8 hb3)|have hcf3:=bcell hb3);obtain⟨hc3,hf3⟩:=hcf3;have hz3:=hb3.size;(try simp at hz3);(try have hp3_0:=p0_ w w3);(try have hp3_1:=p1_ w w3);(try have hp3_2:=p2_ w w3);(try have hp3_3:=p3_ w w3)
  go_wp2;go_ret
  exact⟨za HR.out.symm,by exact bel_⟩
 ·have HR:Hid (befB ax ay bx by' cx cy=(if qE ax ay bx by'=qE ax ay cx cy then decide (0<zK ax ay bx by' cx cy) else decide (qE ax ay bx by'<qE ax ay cx cy))):=Lib.hid (by unfold befB;rw[h1,h2,h3];rfl)
  by_cases huv:qE ax ay bx by'=qE ax ay cx cy
  ·have e1:(qE ax ay bx by' != qE ax ay cx cy)=false:=by simp[huv]
   rw[if_pos huv] at HR;have HU:=Lib.hid huv;clear huv
   go_enter Tryz.func272,Tryz.ntmps272
   go_wp2_with fail
   refine(zD _ _ _ _ h1).mono ?_
   rintro e w1 ⟨rfl,hb1⟩;(first|(with_reducible have hcf1:=z8 hb1)|have hcf1:=bcell hb1);obtain⟨hc1,hf1⟩:=hcf1;have hz1:=hb1.size;(try simp at hz1);(try have hp1_0:=p0_ w w1);(try have hp1_1:=p1_ w w1);(try have hp1_2:=p2_ w w1);(try have hp1_3:=p3_ w w1)
   go_wp2_with fail
   refine(zD _ _ _ _ h2).mono ?_
   rintro e w2 ⟨rfl,hb2⟩;(first|(with_reducible have hcf2:=z8 hb2)|have hcf2:=bcell hb2);obtain⟨hc2,hf2⟩:=hcf2;have hz2:=hb2.size;(try simp at hz2);(try have hp2_0:=p0_ w w2);(try have hp2_1:=p1_ w w2);(try have hp2_2:=p2_ w w2);(try have hp2_3:=p3_ w w2)
   go_wp2_with fail
   refine(zD _ _ _ _ h3).mono ?_
   rintro e w3 ⟨rfl,hb3⟩;(first|(with_reducible have hcf3:=z8 hb3)|have hcf3:=bcell hb3);obtain⟨hc3,hf3⟩:=hcf3;have hz3:=hb3.size;(try simp at hz3);(try have hp3_0:=p0_ w w3);(try have hp3_1:=p1_ w w3);(try have hp3_2:=p2_ w w3);(try have hp3_3:=p3_ w w3)
   go_wp2_with fail
   (refine z9 (by kernel_rfl) (by kernel_rfl) (fun hG=>?_))
   repeat (go_big_quiet_step ((go_at_call 276;exact zv (Qb _ _ _ _ _))))
   (refine wpQuiet_nil ?_);(clear hG);(rintro w4 ⟨⟨_,hb4⟩,rfl⟩);(try dsimp only);(first|(with_reducible have hcf4:=z8 hb4)|have hcf4:=bcell hb4);obtain⟨hc4,hf4⟩:=hcf4;have hz4:=hb4.size;(try simp at hz4);(try have hp4_0:=p0_ w w4);(try have hp4_1:=p1_ w w4);(try have hp4_2:=p2_ w w4);(try have hp4_3:=p3_ w w4)
   go_wp2_with fail
   refine(kB _ _ _ _ _ _ _ h1 h2 h3).mono ?_
   rintro e w5 ⟨rfl,hb5⟩;(first|(with_reducible have hcf5:=z8 hb5)|have hcf5:=bcell hb5);obtain⟨hc5,hf5⟩:=hcf5;have hz5:=hb5.size;(try simp at hz5);(try have hp5_0:=p0_ w w5);(try have hp5_1:=p1_ w w5);(try have hp5_2:=p2_ w w5);(try have hp5_3:=p3_ w w5)
   go_wp2;go_ret
   exact⟨za HR.out.symm,by exact bel_⟩
  ·have e1:(qE ax ay bx by' != qE ax ay cx cy)=true:=by simp[huv]
   rw[if_neg huv] at HR;have HU:=Lib.hid huv;clear huv
   go_enter Tryz.func272,Tryz.ntmps272
   go_wp2_with fail
   refine(zD _ _ _ _ h1).mono ?_
   rintro e w1 ⟨rfl,hb1⟩;(first|(with_reducible have hcf1:=z8 hb1)|have hcf1:=bcell hb1);obtain⟨hc1,hf1⟩:=hcf1;have hz1:=hb1.size;(try simp at hz1);(try have hp1_0:=p0_ w w1);(try have hp1_1:=p1_ w w1);(try have hp1_2:=p2_ w w1);(try have hp1_3:=p3_ w w1)
   go_wp2_with fail
   refine(zD _ _ _ _ h2).mono ?_
   rintro e w2 ⟨rfl,hb2⟩;(first|(with_reducible have hcf2:=z8 hb2)|have hcf2:=bcell hb2);obtain⟨hc2,hf2⟩:=hcf2;have hz2:=hb2.size;(try simp at hz2);(try have hp2_0:=p0_ w w2);(try have hp2_1:=p1_ w w2);(try have hp2_2:=p2_ w w2);(try have hp2_3:=p3_ w w2)
   go_wp2_with fail
   refine(zD _ _ _ _ h3).mono ?_
   rintro e w3 ⟨rfl,hb3⟩;(first|(with_reducible have hcf3:=z8 hb3)|have hcf3:=bcell hb3);obtain⟨hc3,hf3⟩:=hcf3;have hz3:=hb3.size;(try simp at hz3);(try have hp3_0:=p0_ w w3);(try have hp3_1:=p1_ w w3);(try have hp3_2:=p2_ w w3);(try have hp3_3:=p3_ w w3)
   go_wp2_with fail
   (refine z9 (by kernel_rfl) (by kernel_rfl) (fun hG=>?_))
   repeat (go_big_quiet_step ((go_at_call 276;exact zv (Qb _ _ _ _ _))))
   (refine wpQuiet_nil ?_);(clear hG);(rintro w4 ⟨⟨_,hb4⟩,rfl⟩);(try dsimp only);(first|(with_reducible have hcf4:=z8 hb4)|have hcf4:=bcell hb4);obtain⟨hc4,hf4⟩:=hcf4;have hz4:=hb4.size;(try simp at hz4);(try have hp4_0:=p0_ w w4);(try have hp4_1:=p1_ w w4);(try have hp4_2:=p2_ w w4);(try have hp4_3:=p3_ w w4)
   go_wp2_with fail
   (refine z9 (by kernel_rfl) (by kernel_rfl) (fun hG=>?_))
   repeat (go_big_quiet_step ((go_at_call 276;exact zv (Qb _ _ _ _ _))))
   (refine wpQuiet_nil ?_);(clear hG);(rintro w5 ⟨⟨_,hb5⟩,rfl⟩);(try dsimp only);(first|(with_reducible have hcf5:=z8 hb5)|have hcf5:=bcell hb5);obtain⟨hc5,hf5⟩:=hcf5;have hz5:=hb5.size;(try simp at hz5);(try have hp5_0:=p0_ w w5);(try have hp5_1:=p1_ w w5);(try have hp5_2:=p2_ w w5);(try have hp5_3:=p3_ w w5)
   go_wp2;go_ret
   exact⟨za HR.out.symm,by exact bel_⟩
def zd (ls:List Pr) (d:Nat):Int:=if d%2=1 then(ndI ls (d/2:Nat)).2 else(ndI ls (d/2:Nat)).1
def dTo (ls:List Pr) (d:Nat):Int:=if d%2=1 then(ndI ls (d/2:Nat)).1 else(ndI ls (d/2:Nat)).2
theorem tdiv2 (d:Nat):Int.tdiv (d:Int) 2=((d/2:Nat):Int):=by
 rw[Int.tdiv_eq_ediv_of_nonneg (by omega)];omega
theorem tmod2 (d:Nat):Int.tmod (d:Int) 2=((d%2:Nat):Int):=by
 rw[Int.tmod_eq_emod_of_nonneg (by omega)];omega
theorem vr (vn vl:Value) (ls:List Pr) (d:Nat) (w:World) (hl:RP w vl ls) (hd:d<2*ls.length):
  Calls Tryz.prog 192 #[.agg #[vn,vl],.int .i64 d] w fun e w'=>e= .returned (.tuple #[.int .i64 (zd ls d),.int .i64 (dTo ls d)])∧Below w.heap.size w w':=by
 obtain⟨A,c,rfl,hc,hm,hcell⟩:=hl.formI;unfold maxLen at hm;clear hl;obtain⟨b,off,rfl,hb,hcl⟩:=hcell (by omega);obtain⟨k0,k1⟩:=hcl (d/2) (by omega);have t1:=tdiv2 d;have t2:=tmod2 d;have HF:Hid (zd ls d=if d%2=1 then(ndI ls (d/2:Nat)).2 else(ndI ls (d/2:Nat)).1):=Lib.hid rfl;have HG:Hid (dTo ls d=if d%2=1 then(ndI ls (d/2:Nat)).1 else(ndI ls (d/2:Nat)).2):=Lib.hid rfl;have hq:d/2<ls.length:=by omega
 have hq1:((d/2:Nat):Int)<(ls.length:Int):=by omega
 have hq2:(0:Int)≤((d/2:Nat):Int):=by omega
 have hr:d%2=0∨d%2=1:=by omega
 have nb:b<w.heap.size+1:=by omega
 have nb2:b<w.heap.size+1+1:=by omega
 generalize d/2=q at*;generalize ndI ls (q:Int)=L at*;obtain⟨l1,l2⟩:=L;simp only at k0 k1 HF HG
 clear hcl hcell
 rcases hr with hr|hr
 ·rw[hr] at HF HG t2
  have e1:((0:Nat):Int)=0:=rfl
  go_enter Tryz.func192,Tryz.ntmps192
  go_wp2
  go_quiet (fail)
  go_wp2;exact bodyPost_ret (v:= .tuple #[.int .i64 l1,.int .i64 l2]) (by simp[results,Tryz.results192,go_sem]) rfl ⟨by rw[HF.out,HG.out];rfl,by exact bel_⟩
 ·rw[hr] at HF HG t2
  have e1:((1:Nat):Int)=1:=rfl
  go_enter Tryz.func192,Tryz.ntmps192
  go_wp2
  go_quiet (fail)
  go_wp2;exact bodyPost_ret (v:= .tuple #[.int .i64 l2,.int .i64 l1]) (by simp[results,Tryz.results192,go_sem]) rfl ⟨by rw[HF.out,HG.out];rfl,by exact bel_⟩
end Go.Proofs.YtnjcpljhmhdhkaaGreat
