/- part 4 -/
import Derived.Test.YtnjcpljhmhdhkaaGreatTPk2
import Derived.Outline
set_option linter.unusedSimpArgs false
set_option linter.unusedVariables false
set_option maxRecDepth 100000
set_option maxHeartbeats 2000000
namespace Go.Proofs.YtnjcpljhmhdhkaaGreat
open Go.RowKit
def runP (a:Int) (n:Nat):List (Int×Int):=(List.range n).map fun (i:Nat)=>(a+2*(i:Int),a+2*(i:Int)+1)
theorem qn (a:Int) (n:Nat):(runP a n).length =n:=by simp[runP]
def jU (a:Int) (l:List (Int×Int)) (k:Nat):List (Int×Int):=runP a k++l.drop k
theorem kW (a:Int) (l:List (Int×Int)) (k:Nat) (h:k≤l.length):(jU a l k).length =l.length:=by simp[jU,qn];omega
theorem QB (a:Int) (l:List (Int×Int)):jU a l 0=l:=by simp[jU,runP]
theorem J8 (a:Int) (l:List (Int×Int)):jU a l l.length=runP a l.length:=by simp[jU]
theorem QS (a:Int) (l:List (Int×Int)) (k:Nat) (h:k<l.length):jU a l (k+1)=(jU a l k).set k (a+2*k,a+2*k+1):=by
 unfold jU runP;rw[List.range_succ,List.map_append,List.set_append];simp only[List.map_cons,List.map_nil,List.length_map,List.length_range,Nat.lt_irrefl,if_false,Nat.sub_self,List.append_assoc,List.cons_append,List.nil_append]
 rw[List.drop_eq_getElem_cons h,List.set_cons_zero]
theorem z0u (a:Int) (n k:Nat) (h:k<(runP a n).length):(runP a n)[k]=(a+2*(k:Int),a+2*(k:Int)+1):=by simp[runP]
theorem x9 (base:Nat) (v:Value) (l:List (Int×Int)) (a:Int) (w:World) (h:OwnP 106 base w v l) (ha:0≤a) (hb:a+2*l.length≤1000000000000):
  Calls Tryz.prog 231 #[v,.int .i64 a] w fun e w'=>e= .returned (.int .i64 (a+2*l.length))∧OwnP 106 base w' v (runP a l.length)∧w.grownBy w' v.ownBlock:=by
 rcases hcase:h.2 with ⟨rfl,hn⟩|⟨g,cap,cur,rfl,hbg,hh,hnc,hcm,hsz,hxs⟩
 ·have hz:l=[]:=List.eq_nil_of_length_eq_zero hn
  subst hz;clear hcase hn hb
  go_enter Tryz.func231,Tryz.ntmps231
  go_wp2
  go_loop [1,5] (fun x i=>i= .int .i64 0∧x= .int .i64 a) (fun _ _=>0)
  case atStart=>exact⟨rfl,rfl⟩
  case round=>
   obtain⟨rfl,rfl⟩:=hrel;go_wp2;go_ret
   exact⟨by simp,OwnP.nil _ _ _,World.grownBy.refl _ _⟩
 ·clear hcase hh hxs hsz
  have hml:l.length≤1000000000000:=by omega
  have h0:OwnP 106 base w (.slice (some ⟨g,0,none⟩) l.length cap) (jU a l 0):=by rw[QB];exact h
  clear h
  go_enter Tryz.func231,Tryz.ntmps231
  go_wp2
  go_loopw [1,5] (fun x i wr=>∃k:Nat,k≤l.length∧i= .int .i64 k∧x= .int .i64 (a+2*k)∧OwnP 106 base wr (.slice (some ⟨g,0,none⟩) l.length cap) (jU a l k)∧w.grownBy wr (some g)) (fun _ i _=>l.length -(intOf i).toNat)
  case atStart=>exact⟨0,Nat.zero_le _,rfl,by simp,h0,World.grownBy.refl _ _⟩
  case round=>
   obtain⟨k,hk,rfl,rfl,ho,hg⟩:=hrel;clear h0;have hml2:=kW a l k hk
   by_cases hlt:k<l.length
   ·have s4:=ho.set_ (q:=k) (by omega) (a+2*k) (a+2*k+1)
    rw[←QS a l k hlt] at s4;have HS:=Lib.hid s4;have HG:=Lib.hid (qA (qA hg (k*2) (.int .i64 (a+2*k))) (k*2+1) (.int .i64 (a+2*k+1)));have xx:=ho.cell (q:=k) (by omega);obtain⟨z0,x0⟩:∃z,wr.cell? ⟨g,k*2,none⟩=some z:=⟨_,xx.1⟩;obtain⟨z1,x1⟩:∃z,wr.cell? ⟨g,k*2+1,none⟩=some z:=⟨_,xx.2⟩;have f0:=ho.frz (k*2);have f1:=ho.frz (k*2+1);clear s4 xx ho hg hml2;go_wp2;go_roundw
    case rel=>exact⟨k+1,by omega,by go_num,by go_num,HS.out,HG.out⟩
    case measure=>simp[intOf];omega
   ·have hkk:k=l.length:=by omega
    subst hkk;rw[J8] at ho;clear hml2;go_wp2;go_ret
    exact⟨rfl,ho,hg⟩
theorem kS (base:Nat) (v:Value) (l:List (Int×Int)) (a:Int) (w:World) (h:OwnP 108 base w v l) (ha:0≤a) (hb:a+2*l.length≤1000000000000):
  Calls Tryz.prog 232 #[v,.int .i64 a] w fun e w'=>e= .returned (.int .i64 (a+2*l.length))∧OwnP 108 base w' v (runP a l.length)∧w.grownBy w' v.ownBlock:=by
 rcases hcase:h.2 with ⟨rfl,hn⟩|⟨g,cap,cur,rfl,hbg,hh,hnc,hcm,hsz,hxs⟩
 ·have hz:l=[]:=List.eq_nil_of_length_eq_zero hn
  subst hz;clear hcase hn hb
  go_enter Tryz.func232,Tryz.ntmps232
  go_wp2
  go_loop [1,5] (fun x i=>i= .int .i64 0∧x= .int .i64 a) (fun _ _=>0)
  case atStart=>exact⟨rfl,rfl⟩
  case round=>
   obtain⟨rfl,rfl⟩:=hrel;go_wp2;go_ret
   exact⟨by simp,OwnP.nil _ _ _,World.grownBy.refl _ _⟩
 ·clear hcase hh hxs hsz
  have hml:l.length≤1000000000000:=by omega
  have h0:OwnP 108 base w (.slice (some ⟨g,0,none⟩) l.length cap) (jU a l 0):=by rw[QB];exact h
  clear h
  go_enter Tryz.func232,Tryz.ntmps232
  go_wp2
  go_loopw [1,5] (fun x i wr=>∃k:Nat,k≤l.length∧i= .int .i64 k∧x= .int .i64 (a+2*k)∧OwnP 108 base wr (.slice (some ⟨g,0,none⟩) l.length cap) (jU a l k)∧w.grownBy wr (some g)) (fun _ i _=>l.length -(intOf i).toNat)
  case atStart=>exact⟨0,Nat.zero_le _,rfl,by simp,h0,World.grownBy.refl _ _⟩
  case round=>
   obtain⟨k,hk,rfl,rfl,ho,hg⟩:=hrel;clear h0;have hml2:=kW a l k hk
   by_cases hlt:k<l.length
   ·have s4:=ho.set_ (q:=k) (by omega) (a+2*k) (a+2*k+1)
    rw[←QS a l k hlt] at s4;have HS:=Lib.hid s4;have HG:=Lib.hid (qA (qA hg (k*2) (.int .i64 (a+2*k))) (k*2+1) (.int .i64 (a+2*k+1)));have xx:=ho.cell (q:=k) (by omega);obtain⟨z0,x0⟩:∃z,wr.cell? ⟨g,k*2,none⟩=some z:=⟨_,xx.1⟩;obtain⟨z1,x1⟩:∃z,wr.cell? ⟨g,k*2+1,none⟩=some z:=⟨_,xx.2⟩;have f0:=ho.frz (k*2);have f1:=ho.frz (k*2+1);clear s4 xx ho hg hml2;go_wp2;go_roundw
    case rel=>exact⟨k+1,by omega,by go_num,by go_num,HS.out,HG.out⟩
    case measure=>simp[intOf];omega
   ·have hkk:k=l.length:=by omega
    subst hkk;rw[J8] at ho;clear hml2;go_wp2;go_ret
    exact⟨rfl,ho,hg⟩
theorem xW (v:Value) (n:Nat) (a:Int) (w:World) (h:RP w v (runP a n)) (ha:0≤a) (hb:a+2*n≤1000000000000):
  Calls Tryz.prog 233 #[v,.int .i64 a] w fun e w'=>e= .returned (.int .i64 (a+2*n))∧w=w':=by
 obtain⟨A,c,rfl,hc,hm,hcell⟩:=h.form;clear h;rw[qn] at hc hm
 have hcell':0<n→∃b off,A=some ⟨b,off,none⟩∧b<w.heap.size∧∀k (hk:k<n),w.cell? ⟨b,off+k*2,none⟩=some (.int .i64 (a+2*(k:Int)))∧w.cell? ⟨b,off+k*2+1,none⟩=some (.int .i64 (a+2*(k:Int)+1)):=by
  intro hn;obtain⟨b,off,h1,h2,h3⟩:=hcell (by rw[qn];exact hn);refine⟨b,off,h1,h2,fun k hk=>?_⟩
  have:=h3 k (by rw[qn];exact hk);rw[z0u] at this;exact this
 rw[qn];clear hcell
 go_enter Tryz.func233,Tryz.ntmps233
 go_wp2
 go_loop [1,5] (fun x i=>∃k:Nat,k≤n∧i= .int .i64 k∧x= .int .i64 (a+2*k)) (fun _ i=>n -(intOf i).toNat)
 case atStart=>exact⟨0,Nat.zero_le _,rfl,by simp⟩
 case round=>
  obtain⟨k,hk,rfl,rfl⟩:=hrel
  by_cases hlt:k<n
  ·obtain⟨b,off,rfl,hbb,hcl⟩:=hcell' (by omega)
   obtain⟨q0,q1⟩:=hcl k hlt;clear hcl hcell';go_wp2;go_round
   case rel=>exact⟨k+1,by omega,by go_num,by go_num⟩
   case measure=>simp[intOf];omega
  ·have hkk:k=n:=by omega
   subst hkk;clear hcell';go_wp2;go_ret
   exact⟨rfl,rfl⟩
theorem xP (v:Value) (n:Nat) (a:Int) (w:World) (h:RP w v (runP a n)) (ha:0≤a) (hb:a+2*n≤1000000000000):
  Calls Tryz.prog 234 #[v,.int .i64 a] w fun e w'=>e= .returned (.int .i64 (a+2*n))∧w=w':=by
 obtain⟨A,c,rfl,hc,hm,hcell⟩:=h.form;clear h;rw[qn] at hc hm
 have hcell':0<n→∃b off,A=some ⟨b,off,none⟩∧b<w.heap.size∧∀k (hk:k<n),w.cell? ⟨b,off+k*2,none⟩=some (.int .i64 (a+2*(k:Int)))∧w.cell? ⟨b,off+k*2+1,none⟩=some (.int .i64 (a+2*(k:Int)+1)):=by
  intro hn;obtain⟨b,off,h1,h2,h3⟩:=hcell (by rw[qn];exact hn);refine⟨b,off,h1,h2,fun k hk=>?_⟩
  have:=h3 k (by rw[qn];exact hk);rw[z0u] at this;exact this
 rw[qn];clear hcell
 go_enter Tryz.func234,Tryz.ntmps234
 go_wp2
 go_loop [1,5] (fun x i=>∃k:Nat,k≤n∧i= .int .i64 k∧x= .int .i64 (a+2*k)) (fun _ i=>n -(intOf i).toNat)
 case atStart=>exact⟨0,Nat.zero_le _,rfl,by simp⟩
 case round=>
  obtain⟨k,hk,rfl,rfl⟩:=hrel
  by_cases hlt:k<n
  ·obtain⟨b,off,rfl,hbb,hcl⟩:=hcell' (by omega)
   obtain⟨q0,q1⟩:=hcl k hlt;clear hcl hcell';go_wp2;go_round
   case rel=>exact⟨k+1,by omega,by go_num,by go_num⟩
   case measure=>simp[intOf];omega
  ·have hkk:k=n:=by omega
   subst hkk;clear hcell';go_wp2;go_ret
   exact⟨rfl,rfl⟩
structure Turns (S:Nat→Prop) (w w':World):Prop where
 os:w'.os=w.os
 tape:w'.tape=w.tape
 output:w'.output=w.output
 size:w.heap.size≤w'.heap.size
 block:∀i,i<w.heap.size→¬S i→w'.heap[i]? =w.heap[i]?
theorem Turns.ofGrown {w w':World} {row:Option Nat} {S:Nat→Prop} (h:w.grownBy w' row) (hs:∀k,row=some k→S k):Turns S w w':=
 ⟨h.os,h.tape,h.output,h.size,fun i hi hn=>h.block i hi (fun e=>hn (hs i e.symm))⟩
theorem Turns.ofBelow {w w':World} {S:Nat→Prop} (h:Below w.heap.size w w'):Turns S w w':=⟨h.os,h.tape,h.output,h.size,fun i hi _=>h.block i hi⟩
theorem Turns.trans {a b c:World} {S:Nat→Prop} (h:Turns S a b) (k:Turns S b c):Turns S a c:=
 ⟨k.os.trans h.os,k.tape.trans h.tape,k.output.trans h.output,Nat.le_trans h.size k.size,fun i hi hn=>(k.block i (Nat.lt_of_lt_of_le hi h.size) hn).trans (h.block i hi hn)⟩
theorem Turns.mono {a b:World} {S S':Nat→Prop} (h:Turns S a b) (hs:∀k,S k→S' k):Turns S' a b:=⟨h.os,h.tape,h.output,h.size,fun i hi hn=>h.block i hi (fun e=>hn (hs i e))⟩
theorem Turns.below {a b:World} {S:Nat→Prop} {B:Nat} (h:Turns S a b) (hs:∀k,S k→B≤k) (hB:B≤a.heap.size):Below B a b:=
 ⟨h.os,h.tape,h.output,h.size,fun i hi=>h.block i (by omega) (fun e=>by have:=hs i e;omega)⟩
theorem Turns.refl (S:Nat→Prop) (w:World):Turns S w w:=⟨rfl,rfl,rfl,Nat.le_refl _,fun _ _ _=>rfl⟩
theorem qF {base:Nat} {w w':World} {e:TypeId} {size:Nat} {v:Value} {n:Nat} {xs:List Value} {S:Nat→Prop} (h:w.ownsRow base e size v n xs) (hb:Turns S w w') (hs:∀k,v.ownBlock=some k→¬S k):
  w'.ownsRow base e size v n xs:=by
 obtain⟨h1,h2⟩:=h;refine⟨h1,?_⟩
 rcases h2 with ⟨rfl,hn⟩|⟨g,cap,cur,rfl,e1,hh,r⟩
 ·exact .inl ⟨rfl,hn⟩
 ·refine .inr ⟨g,cap,cur,rfl,e1,?_,r⟩
  have hlt:g<w.heap.size:=by
   rcases Nat.lt_or_ge g w.heap.size with hlt|hge
   ·exact hlt
   ·rw[Array.getElem?_eq_none hge] at hh;cases hh
  rw[hb.block g hlt (hs g rfl)];exact hh
theorem OwnP.turned {t:TypeId} {base:Nat} {w w':World} {v:Value} {l:List (Int×Int)} {S:Nat→Prop} (h:OwnP t base w v l) (hb:Turns S w w') (hs:∀k,v.ownBlock=some k→¬S k):OwnP t base w' v l:=qF h hb hs
theorem Blk.turned {w w':World} {g:Nat} {t:TypeId} {cs:Array Value} {S:Nat→Prop} (h:Blk w g t cs) (hb:Turns S w w') (hn:¬S g):Blk w' g t cs:=(hb.block g h.lt hn).trans h
def zl (vn vl:Value) (k:Nat):Prop:=vn.ownBlock=some k∨vl.ownBlock=some k
theorem OwnW.turned {base:Nat} {w w':World} {vn vl:Value} {ns ls:List (Int×Int)} {S:Nat→Prop} (h:OwnW base w vn vl ns ls) (hb:Turns S w w') (hs:∀k,zl vn vl k→¬S k):OwnW base w' vn vl ns ls:=
 ⟨h.1.turned hb (fun k hk=>hs k (.inl hk)),h.2.1.turned hb (fun k hk=>hs k (.inr hk)),h.2.2⟩
theorem OwnW.lt {base:Nat} {w:World} {vn vl:Value} {ns ls:List (Int×Int)} (h:OwnW base w vn vl ns ls) (k:Nat) (hk:zl vn vl k):base≤k∧k<w.heap.size:=by
 rcases hk with hk|hk
 ·exact h.1.lt k hk
 ·exact h.2.1.lt k hk
theorem vX (base:Nat) (vn vl:Value) (ns ls:List (Int×Int)) (a:Int) (w:World) (h:OwnW base w vn vl ns ls) (ha:0≤a) (hb:a+2*ns.length+2*ls.length≤1000000000000):
  Calls Tryz.prog 175 #[.agg #[vn,vl],.int .i64 a] w fun e w'=>e= .returned (.int .i64 (a+2*ns.length+2*ls.length))∧OwnW base w' vn vl (runP a ns.length) (runP (a+2*ns.length) ls.length)∧Turns (zl vn vl) w w':=by
 have hlt:=h.lt;have T0:∀w':World,Below w.heap.size w w'→Turns (zl vn vl) w w':=fun w' h=>Turns.ofBelow h
 go_enter Tryz.func175,Tryz.ntmps175
 go_wp2_with fail
 refine(x9 base vn ns a _ (h.1.kept (by exact bel_)) ha (by omega)).mono ?_
 rintro e w1 ⟨rfl,ho1,hg1⟩;have hz1:=hg1.size;have t1:Turns (zl vn vl) w w1:=Turns.trans (T0 _ (by exact bel_)) (Turns.ofGrown hg1 (fun k hk=> .inl hk));have B0:Blk (w.alloc (.cells #[vn,vl] 27)) w.heap.size 27 #[vn,vl]:=Blk.newAt rfl;have hV1:Blk w1 w.heap.size 27 #[vn,vl]:=Blk.turned B0 (Turns.ofGrown (S:=zl vn vl) hg1 (fun k hk=> .inl hk)) (fun hk=>by have:=(hlt _ hk).2;omega);obtain⟨q_0,q_1⟩:=hV1.c2;simp at hz1
 have n1:w.heap.size<w1.heap.size:=by omega
 have l1:OwnP 108 base w1 vl ls:=h.2.1.turned (S:=fun k=>vn.ownBlock=some k) (Turns.trans (Turns.ofBelow (by exact bel_)) (Turns.ofGrown hg1 (fun k hk=>hk))) (fun k hk hk'=>h.2.2 k hk' hk);clear hg1 B0
 go_wp2_with fail
 refine(kS base vl ls (a+2*ns.length) _ l1 (by omega) (by omega)).mono ?_
 rintro e w2 ⟨rfl,ho2,hg2⟩;have t2:Turns (zl vn vl) w w2:=Turns.trans t1 (Turns.ofGrown hg2 (fun k hk=> .inr hk));have o2:OwnP 106 base w2 vn (runP a ns.length):=ho1.turned (S:=fun k=>vl.ownBlock=some k) (Turns.ofGrown hg2 (fun k hk=>hk)) (fun k hk hk'=>h.2.2 k hk hk');go_wp2;go_ret
 exact⟨rfl,⟨o2,ho2,h.2.2⟩,t2⟩
theorem x8 (vn vl:Value) (n m:Nat) (a:Int) (w:World) (hn:RP w vn (runP a n)) (hl:RP w vl (runP (a+2*n) m)) (ha:0≤a) (hb:a+2*n+2*m≤1000000000000):
  Calls Tryz.prog 177 #[.agg #[vn,vl],.int .i64 a] w fun e w'=>e= .returned (.int .i64 (a+2*n+2*m))∧Below w.heap.size w w':=by
 have e1:¬a+2*(n:Int)<0:=by omega
 have e2:¬a+2*(n:Int)+2*(m:Int)<0:=by omega
 go_enter Tryz.func177,Tryz.ntmps177
 go_wp2_with fail
 refine(xW vn n a _ (hn.below (by exact bel_)) ha (by omega)).mono ?_
 rintro e w' ⟨rfl,rfl⟩
 go_wp2_with fail
 refine(xP vl m (a+2*n) _ (hl.below (by exact bel_)) (by omega) (by omega)).mono ?_
 rintro e w' ⟨rfl,rfl⟩;go_wp2;go_ret
 exact⟨rfl,by exact bel_⟩
attribute [local go_sem ↓] zu zw zY zZ
def zf (x y:Int):Bool:=inB x 0 20&&inB y 0 20
theorem zr {x y:Int} (h:zf x y=true):0≤x∧x≤20∧0≤y∧y≤20:=by
 simp[zf,inB] at h;omega
def zK (ax ay bx by' cx cy:Int):Int:=(bx -ax)*(cy -ay) -(by' -ay)*(cx -ax)
def jQ (ax ay bx by' cx cy:Int):Bool:=
 zf ax ay&&zf bx by'&&zf cx cy&& !(prB ax ay bx by')&& !(prB bx by' cx cy)&& !(prB ax ay cx cy)&&(zK ax ay bx by' cx cy==0)&&inB cx (mn2 ax bx) (mx2 ax bx)&&inB cy (mn2 ay by') (mx2 ay by')
theorem yV {u v:Int} (h1: -20≤u) (h2:u≤20) (h3: -20≤v) (h4:v≤20): -400≤u*v∧u*v≤400:=by
 have h:(u*v).natAbs ≤20*20:=by
  rw[Int.natAbs_mul];exact Nat.mul_le_mul (by omega) (by omega)
 omega
theorem xM {ax ay bx by' cx cy:Int} (ha:zf ax ay=true) (hb:zf bx by'=true) (hc:zf cx cy=true): -800≤zK ax ay bx by' cx cy∧zK ax ay bx by' cx cy≤800:=by
 have h1:=zr ha;have h2:=zr hb;have h3:=zr hc;have m1:=yV (u:=bx -ax) (v:=cy -ay) (by omega) (by omega) (by omega) (by omega);have m2:=yV (u:=by' -ay) (v:=cx -ax) (by omega) (by omega) (by omega) (by omega);unfold zK;omega
theorem qo (x y:Int) (w:World):
  Calls Tryz.prog 195 #[.agg #[.int .i64 x,.int .i64 y]] w fun e w'=>e= .returned (.bool (zf x y))∧Below w.heap.size w w':=by
 go_enter Tryz.func195,Tryz.ntmps195
 go_wp2_with (go_at_call 138;refine(jd _ _ _ _).mono ?_;rintro e w' ⟨rfl,rfl⟩)
 all_goals go_ret
 all_goals refine⟨za ?_,by exact bel_⟩
 all_goals simp_all[zf]
theorem QV (x y:Int) (w:World):
  Calls Tryz.prog 211 #[.agg #[.int .i64 x,.int .i64 y]] w fun e w'=>e= .returned (.bool (zf x y))∧Below w.heap.size w w':=by
 go_enter Tryz.func211,Tryz.ntmps211
 go_wp2_with (go_at_call 78;refine(yG _ _ _ _).mono ?_;rintro e w' ⟨rfl,rfl⟩)
 all_goals go_ret
 all_goals refine⟨za ?_,by exact bel_⟩
 all_goals simp_all[zf]
def zO (l:List (Int×Int)):Bool:=l.all fun p=>zf p.1 p.2
theorem ke (v:Value) (l:List (Int×Int)) (w:World) (h:RP w v l):
  Calls Tryz.prog 154 #[v] w fun e w'=>e= .returned (.bool (zO l))∧Below w.heap.size w w':=by
 obtain⟨A,c,rfl,hc,hm,hcell⟩:=h.form;unfold maxLen at hm;clear h
 go_enter Tryz.func154,Tryz.ntmps154
 go_wp2
 go_loopw [7] (fun i wr=>∃k:Nat,k≤l.length∧i= .int .i64 k∧Hid (zO (l.take k)=true)∧Below w.heap.size w wr) (fun i _=>l.length -(intOf i).toNat)
 case atStart=>exact⟨0,Nat.zero_le _,rfl,Lib.hid (by simp[zO]),Below.refl _ _⟩
 case round=>
  obtain⟨k,hk,rfl,HT,hbl⟩:=hrel;have hsz:=hbl.size
  by_cases hlt:k<l.length
  ·obtain⟨b,off,rfl,hb,hcl⟩:=hcell (by omega)
   obtain⟨k0,k1⟩:=hcl k hlt;have q0:=(hbl.cell (p:=⟨b,off+k*2,none⟩) hb).trans k0;have q1:=(hbl.cell (p:=⟨b,off+k*2+1,none⟩) hb).trans k1;clear k0 k1 hcl hcell
   cases hok:zf l[k].1 l[k].2
   ·have HOK:=Lib.hid hok
    have HF:Hid (zO l=false):=Lib.hid (by
     unfold zO;rw[List.all_eq_false];exact⟨l[k],List.getElem_mem hlt,by rw[hok];simp⟩)
    clear hok
    go_wp2_with fail
    refine(QV _ _ _).mono ?_
    rintro e w1 ⟨rfl,hb1⟩;(first|(with_reducible have hcf1:=z8 hb1)|have hcf1:=bcell hb1);obtain⟨hc1,hf1⟩:=hcf1;have hz1:=hb1.size;(try simp at hz1);(try have hp1_0:=p0_ w w1);(try have hp1_1:=p1_ w w1);(try have hp1_2:=p2_ w w1);(try have hp1_3:=p3_ w w1)
    rw[HOK.out];go_wp2;go_ret
    exact⟨za HF.out.symm,by exact bel_⟩
   ·have HOK:=Lib.hid hok
    have HT':Hid (zO (l.take (k+1))=true):=Lib.hid (by
     unfold zO;rw[List.take_succ_eq_append_getElem hlt,List.all_append];have:=HT.out;unfold zO at this;rw[this];simp[hok])
    clear hok
    go_wp2_with fail
    refine(QV _ _ _).mono ?_
    rintro e w1 ⟨rfl,hb1⟩;(first|(with_reducible have hcf1:=z8 hb1)|have hcf1:=bcell hb1);obtain⟨hc1,hf1⟩:=hcf1;have hz1:=hb1.size;(try simp at hz1);(try have hp1_0:=p0_ w w1);(try have hp1_1:=p1_ w w1);(try have hp1_2:=p2_ w w1);(try have hp1_3:=p3_ w w1)
    rw[HOK.out];go_wp2;go_roundw
    case rel=>exact⟨k+1,by omega,by go_num,HT',by exact bel_⟩
    case measure=>simp[intOf];omega
  ·have hkk:l.length≤k:=by omega
   have h:=HT.out;rw[List.take_of_length_le hkk] at h;have HF:=Lib.hid h;clear h hcell;go_wp2;go_ret
   exact⟨za HF.out.symm,hbl⟩
theorem yz (v:Value) (ax ay bx by' cx cy:Int) (w:World) (h:RP w v [(ax,ay),(bx,by'),(cx,cy)]):
  Calls Tryz.prog 154 #[v] w fun e w'=>e= .returned (.bool (zf ax ay&&zf bx by'&&zf cx cy))∧Below w.heap.size w w':=
 (ke v _ w h).mono fun e w' ⟨he,hw⟩=>⟨he.trans (za (by simp[zO,Bool.and_assoc])),hw⟩
theorem kB (ax ay bx by' cx cy:Int) (w:World) (ha:zf ax ay=true) (hb:zf bx by'=true) (hc:zf cx cy=true):
  Calls Tryz.prog 243 #[.agg #[.int .i64 ax,.int .i64 ay],.agg #[.int .i64 bx,.int .i64 by'],.agg #[.int .i64 cx,.int .i64 cy]] w
   fun e w'=>e= .returned (.int .i64 (zK ax ay bx by' cx cy))∧Below w.heap.size w w':=by
 have h1:=zr ha;have h2:=zr hb;have h3:=zr hc;have m1:=yV (u:=bx -ax) (v:=cy -ay) (by omega) (by omega) (by omega) (by omega);have m2:=yV (u:=by' -ay) (v:=cx -ax) (by omega) (by omega) (by omega) (by omega);clear ha hb hc
 go_enter Tryz.func243,Tryz.ntmps243
 go_wp2;go_ret
 exact⟨rfl,by exact bel_⟩
theorem kD (ax ay bx by' cx cy:Int) (w:World) (ha:zf ax ay=true) (hb:zf bx by'=true) (hc:zf cx cy=true):
  Calls Tryz.prog 214 #[.agg #[.int .i64 ax,.int .i64 ay],.agg #[.int .i64 bx,.int .i64 by'],.agg #[.int .i64 cx,.int .i64 cy]] w
   fun e w'=>e= .returned (.int .i64 (zK ax ay bx by' cx cy))∧Below w.heap.size w w':=by
 have h1:=zr ha;have h2:=zr hb;have h3:=zr hc;have m1:=yV (u:=bx -ax) (v:=cy -ay) (by omega) (by omega) (by omega) (by omega);have m2:=yV (u:=by' -ay) (v:=cx -ax) (by omega) (by omega) (by omega) (by omega);have HN:Hid ((zf ax ay&&zf bx by'&&zf cx cy)=true):=Lib.hid (by rw[ha,hb,hc];rfl);clear ha hb hc
 go_enter Tryz.func214,Tryz.ntmps214
 go_wp2_with fail
 refine(yz _ ax ay bx by' cx cy _ (qR (by simp) rfl rfl rfl (by simp[maxLen]))).mono ?_
 rintro e w1 ⟨rfl,hb1⟩;(first|(with_reducible have hcf1:=z8 hb1)|have hcf1:=bcell hb1);obtain⟨hc1,hf1⟩:=hcf1;have hz1:=hb1.size;(try simp at hz1);(try have hp1_0:=p0_ w w1);(try have hp1_1:=p1_ w w1);(try have hp1_2:=p2_ w w1);(try have hp1_3:=p3_ w w1)
 rw[HN.out];go_wp2;go_ret
 exact⟨rfl,by exact bel_⟩
abbrev Pr:=Int×Int
def j9 (p:Pr):Bool:=zf p.1 p.2
def zN (a b c:Pr):Int:=zK a.1 a.2 b.1 b.2 c.1 c.2
def j8 (a b c:Pr):Bool:=jQ a.1 a.2 b.1 b.2 c.1 c.2
def qd (a b:Pr):Bool:=prB a.1 a.2 b.1 b.2
theorem jG {a b:Pr}:qd a b=true↔a=b:=yP
theorem vY {a b:Pr}:qd a b=false↔a≠b:=by
 rw[←Bool.not_eq_true,jG]
def ndI (ns:List Pr) (i:Int):Pr:=ns.getD i.toNat (0,0)
theorem zT (ns:List Pr) (k:Nat) (h:k<ns.length):ndI ns k=ns[k]:=by
 simp[ndI,List.getD,h]
def zj (ns:List Pr) (l:Pr):Bool:=
 decide (0≤l.1)&&decide (l.1<l.2)&&decide (l.2<ns.length)&&j9 (ndI ns l.1)&&j9 (ndI ns l.2)&& !(qd (ndI ns l.1) (ndI ns l.2))
theorem zR {ns:List Pr} {l:Pr}:zj ns l=true↔0≤l.1∧l.1<l.2∧l.2<ns.length∧j9 (ndI ns l.1)=true∧j9 (ndI ns l.2)=true∧qd (ndI ns l.1) (ndI ns l.2)=false:=by
 simp[zj,and_assoc]
def jf (a b c d:Pr):Bool:=
 (qd a c&&qd b d||qd a d&&qd b c)||(j8 a b c||j8 a b d||j8 c d a||j8 c d b)||
  (decide (zN a b c*zN a b d<0)&&decide (zN c d a*zN c d b<0))
def qs (ns:List Pr) (l m:Pr):Bool:=zj ns l&&zj ns m&&jf (ndI ns l.1) (ndI ns l.2) (ndI ns m.1) (ndI ns m.2)
def onB (ns:List Pr) (l n:Pr):Bool:=zj ns l&&(qd n (ndI ns l.1)||qd n (ndI ns l.2)||j8 (ndI ns l.1) (ndI ns l.2) n)
theorem vF (a b:Pr):qd a b=qd b a:=by
 have h:∀a b:Pr,qd a b=true→qd b a=true:=fun a b h=>jG.2 (jG.1 h).symm
 cases h1:qd a b
 ·cases h2:qd b a
  ·rfl
  ·rw[h b a h2] at h1;cases h1
 ·rw[h a b h1]
theorem kd (a b c d:Pr):jf a b c d=jf c d a b:=by
 unfold jf;rw[vF c a,vF d b,vF c b,vF d a]
 cases qd a c<;>cases qd b d<;>cases qd a d<;>cases qd b c<;>cases j8 a b c<;>cases j8 a b d<;>cases j8 c d a<;>cases j8 c d b<;>simp[Bool.and_comm]
theorem kx (ns:List Pr) (l m:Pr):qs ns l m=qs ns m l:=by
 unfold qs;rw[kd,Bool.and_comm (zj ns l)]
theorem z1v (a b:Pr):zN a b a=0:=by simp[zN,zK]
theorem Zt (a b:Pr):zN a b b=0:=by
 unfold zN zK;rw[Int.mul_comm];omega
theorem yo (x y:Int):Int.sign x*Int.sign y<0↔x*y<0:=by
 rw[←Int.sign_mul,Int.sign_neg_iff]
def Dis (ns:List Pr) (i:Nat):Prop:=∀a b:Nat,a<b→b<i→qd (ndI ns a) (ndI ns b)=false
def CrOk (ns ls:List Pr) (l:Pr) (i:Nat):Prop:=∀j:Nat,j<i→qs ns l (ndI ls j)=false
def OnOk (ns:List Pr) (l:Pr) (i:Nat):Prop:=∀j:Nat,j<i→(j:Int)≠l.1→(j:Int)≠l.2→onB ns l (ndI ns j)=false
def LdOk (ns ls:List Pr) (k:Nat):Prop:=zj ns (ndI ls k)=true∧CrOk ns ls (ndI ls k) k∧OnOk ns (ndI ls k) ns.length
def q7 (ns ls:List Pr):Prop:=
 1≤ns.length∧ns.length≤12∧ls.length≤20∧zO ns=true∧Dis ns ns.length∧∀k:Nat,k<ls.length→LdOk ns ls k
noncomputable def winB (ns ls:List Pr):Bool:= @decide (q7 ns ls) (Classical.propDecidable _)
theorem zI {ns ls:List Pr}:winB ns ls=true↔q7 ns ls:=by simp[winB]
theorem jl {ns ls:List Pr}:winB ns ls=false↔¬q7 ns ls:=by simp[winB]
theorem z1m {ns:List Pr} (h:zO ns=true):∀p∈ns,j9 p=true:=by
 unfold zO at h;rw[List.all_eq_true] at h;exact h
theorem jn {ns:List Pr} (h:zO ns=true) (k:Nat) (hk:k<ns.length):j9 (ndI ns k)=true:=by
 rw[zT ns k hk];exact z1m h _ (List.getElem_mem hk)
theorem Dis.zero (ns:List Pr):Dis ns 0:=fun a b h hb=>absurd hb (by omega)
theorem Dis.succ {ns:List Pr} {i:Nat} (h:Dis ns i) (hi:∀a:Nat,a<i→qd (ndI ns a) (ndI ns i)=false):Dis ns (i+1):=by
 intro a b hab hb
 rcases Nat.lt_succ_iff_lt_or_eq.1 hb with h1|h1
 ·exact h a b hab h1
 ·subst h1;exact hi a hab
theorem CrOk.zero (ns ls:List Pr) (l:Pr):CrOk ns ls l 0:=fun j hj=>absurd hj (by omega)
theorem CrOk.succ {ns ls:List Pr} {l:Pr} {i:Nat} (h:CrOk ns ls l i) (hi:qs ns l (ndI ls i)=false):CrOk ns ls l (i+1):=by
 intro j hj
 rcases Nat.lt_succ_iff_lt_or_eq.1 hj with h1|h1
 ·exact h j h1
 ·subst h1;exact hi
theorem OnOk.zero (ns:List Pr) (l:Pr):OnOk ns l 0:=fun j hj=>absurd hj (by omega)
theorem OnOk.succ {ns:List Pr} {l:Pr} {i:Nat} (h:OnOk ns l i) (hi:(i:Int)≠l.1→(i:Int)≠l.2→onB ns l (ndI ns i)=false):OnOk ns l (i+1):=by
 intro j hj
 rcases Nat.lt_succ_iff_lt_or_eq.1 hj with h1|h1
 ·exact h j h1
 ·subst h1;exact hi
theorem RP.formI {w:World} {v:Value} {l:List (Int×Int)} (h:RP w v l):∃A c,v= .slice A l.length c∧l.length≤c∧l.length≤maxLen∧
  (0<l.length→∃b off,A=some ⟨b,off,none⟩∧b<w.heap.size∧∀k:Nat,k<l.length→w.cell? ⟨b,off+k*2,none⟩=some (.int .i64 (ndI l k).1)∧w.cell? ⟨b,off+k*2+1,none⟩=some (.int .i64 (ndI l k).2)):=by
 obtain⟨A,c,h1,h2,h3,h4⟩:=h.form;refine⟨A,c,h1,h2,h3,fun hn=>?_⟩
 obtain⟨b,off,e1,e2,e3⟩:=h4 hn;exact⟨b,off,e1,e2,fun k hk=>by rw[zT l k hk];exact e3 k hk⟩
attribute [local go_sem ↓] zu zw zY zZ
theorem Q9 {ax ay bx by' cx cy:Int} (h:¬(zf ax ay=true∧zf bx by'=true∧zf cx cy=true)):jQ ax ay bx by' cx cy=false:=by
 unfold jQ
 cases h1:zf ax ay<;>cases h2:zf bx by'<;>cases h3:zf cx cy<;>simp_all
theorem vM (ax ay bx by' cx cy:Int) (w:World):
  Calls Tryz.prog 240 #[.agg #[.int .i64 ax,.int .i64 ay],.agg #[.int .i64 bx,.int .i64 by'],.agg #[.int .i64 cx,.int .i64 cy]] w
   fun e w'=>e= .returned (.bool (jQ ax ay bx by' cx cy))∧Below w.heap.size w w':=by
 cases h1:zf ax ay
 ·have HR:=Lib.hid (Q9 (ax:=ax) (ay:=ay) (bx:=bx) (by':=by') (cx:=cx) (cy:=cy) (by rw[h1];simp))
  go_enter Tryz.func240,Tryz.ntmps240
  go_wp2_with fail
  refine(qo _ _ _).mono ?_
  rintro e w1 ⟨rfl,hb1⟩;(first|(with_reducible have hcf1:=z8 hb1)|have hcf1:=bcell hb1);obtain⟨hc1,hf1⟩:=hcf1;have hz1:=hb1.size;(try simp at hz1);(try have hp1_0:=p0_ w w1);(try have hp1_1:=p1_ w w1);(try have hp1_2:=p2_ w w1);(try have hp1_3:=p3_ w w1)
  rw[h1];go_wp2;go_ret
  exact⟨za HR.out.symm,by exact bel_⟩
 cases h2:zf bx by'
 ·have HR:=Lib.hid (Q9 (ax:=ax) (ay:=ay) (bx:=bx) (by':=by') (cx:=cx) (cy:=cy) (by rw[h2];simp))
  go_enter Tryz.func240,Tryz.ntmps240
  go_wp2_with fail
  refine(qo _ _ _).mono ?_
  rintro e w1 ⟨rfl,hb1⟩;(first|(with_reducible have hcf1:=z8 hb1)|have hcf1:=bcell hb1);obtain⟨hc1,hf1⟩:=hcf1;have hz1:=hb1.size;(try simp at hz1);(try have hp1_0:=p0_ w w1);(try have hp1_1:=p1_ w w1);(try have hp1_2:=p2_ w w1);(try have hp1_3:=p3_ w w1)
  rw[h1]
  go_wp2_with fail
  refine(qo _ _ _).mono ?_
  rintro e w2 ⟨rfl,hb2⟩;(first|(with_reducible have hcf2:=z8 hb2)|have hcf2:=bcell hb2);obtain⟨hc2,hf2⟩:=hcf2;have hz2:=hb2.size;(try simp at hz2);(try have hp2_0:=p0_ w w2);(try have hp2_1:=p1_ w w2);(try have hp2_2:=p2_ w w2);(try have hp2_3:=p3_ w w2)
  rw[h2];go_wp2;go_ret
  exact⟨za HR.out.symm,by exact bel_⟩
 cases h3:zf cx cy
 ·have HR:=Lib.hid (Q9 (ax:=ax) (ay:=ay) (bx:=bx) (by':=by') (cx:=cx) (cy:=cy) (by rw[h3];simp))
  go_enter Tryz.func240,Tryz.ntmps240
  go_wp2_with fail
  refine(qo _ _ _).mono ?_
  rintro e w1 ⟨rfl,hb1⟩;(first|(with_reducible have hcf1:=z8 hb1)|have hcf1:=bcell hb1);obtain⟨hc1,hf1⟩:=hcf1;have hz1:=hb1.size;(try simp at hz1);(try have hp1_0:=p0_ w w1);(try have hp1_1:=p1_ w w1);(try have hp1_2:=p2_ w w1);(try have hp1_3:=p3_ w w1)
  rw[h1]
  go_wp2_with fail
  refine(qo _ _ _).mono ?_
  rintro e w2 ⟨rfl,hb2⟩;(first|(with_reducible have hcf2:=z8 hb2)|have hcf2:=bcell hb2);obtain⟨hc2,hf2⟩:=hcf2;have hz2:=hb2.size;(try simp at hz2);(try have hp2_0:=p0_ w w2);(try have hp2_1:=p1_ w w2);(try have hp2_2:=p2_ w w2);(try have hp2_3:=p3_ w w2)
  rw[h2]
  go_wp2_with fail
  refine(qo _ _ _).mono ?_
  rintro e w3 ⟨rfl,hb3⟩;(first|(with_reducible have hcf3:=z8 hb3)|have hcf3:=bcell hb3);obtain⟨hc3,hf3⟩:=hcf3;have hz3:=hb3.size;(try simp at hz3);(try have hp3_0:=p0_ w w3);(try have hp3_1:=p1_ w w3);(try have hp3_2:=p2_ w w3);(try have hp3_3:=p3_ w w3)
  rw[h3];go_wp2;go_ret
  exact⟨za HR.out.symm,by exact bel_⟩
 ·have HR:Hid (jQ ax ay bx by' cx cy=(!(prB ax ay bx by')&& !(prB bx by' cx cy)&& !(prB ax ay cx cy)&&(zK ax ay bx by' cx cy==0)&&inB cx (mn2 ax bx) (mx2 ax bx)&&inB cy (mn2 ay by') (mx2 ay by'))):=Lib.hid (by unfold jQ;rw[h1,h2,h3];rfl)
  go_enter Tryz.func240,Tryz.ntmps240
  go_wp2_with fail
  refine(qo _ _ _).mono ?_
  rintro e w1 ⟨rfl,hb1⟩;(first|(with_reducible have hcf1:=z8 hb1)|have hcf1:=bcell hb1);obtain⟨hc1,hf1⟩:=hcf1;have hz1:=hb1.size;(try simp at hz1);(try have hp1_0:=p0_ w w1);(try have hp1_1:=p1_ w w1);(try have hp1_2:=p2_ w w1);(try have hp1_3:=p3_ w w1)
  rw[h1]
  go_wp2_with fail
  refine(qo _ _ _).mono ?_
  rintro e w2 ⟨rfl,hb2⟩;(first|(with_reducible have hcf2:=z8 hb2)|have hcf2:=bcell hb2);obtain⟨hc2,hf2⟩:=hcf2;have hz2:=hb2.size;(try simp at hz2);(try have hp2_0:=p0_ w w2);(try have hp2_1:=p1_ w w2);(try have hp2_2:=p2_ w w2);(try have hp2_3:=p3_ w w2)
  rw[h2]
  go_wp2_with fail
  refine(qo _ _ _).mono ?_
  rintro e w3 ⟨rfl,hb3⟩;(first|(with_reducible have hcf3:=z8 hb3)|have hcf3:=bcell hb3);obtain⟨hc3,hf3⟩:=hcf3;have hz3:=hb3.size;(try simp at hz3);(try have hp3_0:=p0_ w w3);(try have hp3_1:=p1_ w w3);(try have hp3_2:=p2_ w w3);(try have hp3_3:=p3_ w w3)
  rw[h3]
  go_wp2_with (first|(go_at_call 243;refine(kB _ _ _ _ _ _ _ h1 h2 h3).mono ?_;rintro e w4 ⟨rfl,hb4⟩;(first|(with_reducible have hcf4:=z8 hb4)|have hcf4:=bcell hb4);obtain⟨hc4,hf4⟩:=hcf4;have hz4:=hb4.size;(try simp at hz4);(try have hp4_0:=p0_ w w4);(try have hp4_1:=p1_ w w4);(try have hp4_2:=p2_ w w4);(try have hp4_3:=p3_ w w4))|(go_at_call 138;refine(jd _ _ _ _).mono ?_;rintro e w' ⟨rfl,rfl⟩))
  all_goals go_ret
  all_goals refine⟨za ?_,by exact bel_⟩
  all_goals rw[HR.out]
  all_goals simp_all
theorem vL (ax ay bx by' cx cy:Int) (w:World):
  Calls Tryz.prog 213 #[.agg #[.int .i64 ax,.int .i64 ay],.agg #[.int .i64 bx,.int .i64 by'],.agg #[.int .i64 cx,.int .i64 cy]] w
   fun e w'=>e= .returned (.bool (jQ ax ay bx by' cx cy))∧Below w.heap.size w w':=by
 by_cases hv:zf ax ay=true∧zf bx by'=true∧zf cx cy=true
 ·obtain⟨h1,h2,h3⟩:=hv
  have HN:Hid ((zf ax ay&&zf bx by'&&zf cx cy)=true):=Lib.hid (by rw[h1,h2,h3];rfl);have HR:Hid (jQ ax ay bx by' cx cy=(!(prB ax ay bx by')&& !(prB bx by' cx cy)&& !(prB ax ay cx cy)&&(zK ax ay bx by' cx cy==0)&&inB cx (mn2 ax bx) (mx2 ax bx)&&inB cy (mn2 ay by') (mx2 ay by'))):=Lib.hid (by unfold jQ;rw[h1,h2,h3];rfl)
  go_enter Tryz.func213,Tryz.ntmps213
  go_wp2_with fail
  refine(yz _ ax ay bx by' cx cy _ (qR (by simp) rfl rfl rfl (by simp[maxLen]))).mono ?_
  rintro e w1 ⟨rfl,hb1⟩;(first|(with_reducible have hcf1:=z8 hb1)|have hcf1:=bcell hb1);obtain⟨hc1,hf1⟩:=hcf1;have hz1:=hb1.size;(try simp at hz1);(try have hp1_0:=p0_ w w1);(try have hp1_1:=p1_ w w1);(try have hp1_2:=p2_ w w1);(try have hp1_3:=p3_ w w1)
  rw[HN.out]
  go_wp2_with (first|(go_at_call 214;refine(kD _ _ _ _ _ _ _ h1 h2 h3).mono ?_;rintro e w4 ⟨rfl,hb4⟩;(first|(with_reducible have hcf4:=z8 hb4)|have hcf4:=bcell hb4);obtain⟨hc4,hf4⟩:=hcf4;have hz4:=hb4.size;(try simp at hz4);(try have hp4_0:=p0_ w w4);(try have hp4_1:=p1_ w w4);(try have hp4_2:=p2_ w w4);(try have hp4_3:=p3_ w w4))|(go_at_call 78;refine(yG _ _ _ _).mono ?_;rintro e w' ⟨rfl,rfl⟩))
  all_goals go_ret
  all_goals refine⟨za ?_,by exact bel_⟩
  all_goals rw[HR.out]
  all_goals simp_all
 ·have HN:Hid ((zf ax ay&&zf bx by'&&zf cx cy)=false):=Lib.hid (by
   cases h1:zf ax ay<;>cases h2:zf bx by'<;>cases h3:zf cx cy<;>simp_all)
  have HR:=Lib.hid (Q9 hv);clear hv
  go_enter Tryz.func213,Tryz.ntmps213
  go_wp2_with fail
  refine(yz _ ax ay bx by' cx cy _ (qR (by simp) rfl rfl rfl (by simp[maxLen]))).mono ?_
  rintro e w1 ⟨rfl,hb1⟩;(first|(with_reducible have hcf1:=z8 hb1)|have hcf1:=bcell hb1);obtain⟨hc1,hf1⟩:=hcf1;have hz1:=hb1.size;(try simp at hz1);(try have hp1_0:=p0_ w w1);(try have hp1_1:=p1_ w w1);(try have hp1_2:=p2_ w w1);(try have hp1_3:=p3_ w w1)
  rw[HN.out];go_wp2;go_ret
  exact⟨za HR.out.symm,by exact bel_⟩
end Go.Proofs.YtnjcpljhmhdhkaaGreat
