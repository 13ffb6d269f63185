/- part 1 -/
import Derived.Test.YtnjcpljhmhdhkaaGreatTPk0
import Derived.StillTailTactics
set_option linter.unusedSimpArgs false
set_option linter.unusedVariables false
set_option maxRecDepth 100000
set_option maxHeartbeats 4000000
namespace Go.Proofs.YtnjcpljhmhdhkaaGreat
open Go.RowKit
def prB (a b c d:Int):Bool:=a==c&&b==d
theorem yP {a b c d:Int}:prB a b c d=true↔(a,b)=(c,d):=by simp[prB]
theorem kh (a b:Int):prB a b a b=true:=by simp[prB]
theorem zu (a b c d:Int) (w:World):(binOp .eql 106 (.agg #[.int .i64 a,.int .i64 b]) (.agg #[.int .i64 c,.int .i64 d])).run Tryz.prog w= .ok (.bool (prB a b c d)) w:=by
 go_simp;unfold prB
 by_cases h1:a=c<;>by_cases h2:b=d<;>simp[h1,h2]
theorem xo (a b c d:Int) (w:World):(binOp .eql 108 (.agg #[.int .i64 a,.int .i64 b]) (.agg #[.int .i64 c,.int .i64 d])).run Tryz.prog w= .ok (.bool (prB a b c d)) w:=by
 go_simp;unfold prB
 by_cases h1:a=c<;>by_cases h2:b=d<;>simp[h1,h2]
theorem zw (a b c d:Int) (w:World):(binOp .neq 106 (.agg #[.int .i64 a,.int .i64 b]) (.agg #[.int .i64 c,.int .i64 d])).run Tryz.prog w= .ok (.bool (!(prB a b c d))) w:=by
 go_simp;unfold prB
 by_cases h1:a=c<;>by_cases h2:b=d<;>simp[h1,h2]
theorem xz (a b c d:Int) (w:World):(binOp .neq 108 (.agg #[.int .i64 a,.int .i64 b]) (.agg #[.int .i64 c,.int .i64 d])).run Tryz.prog w= .ok (.bool (!(prB a b c d))) w:=by
 go_simp;unfold prB
 by_cases h1:a=c<;>by_cases h2:b=d<;>simp[h1,h2]
theorem XZ (v:Value) (l:List (Int×Int)) (n:Int) (w:World) (h:RP w v l) (h0:0≤n) (h1:n≤1000000000):
  Calls Tryz.prog 220 #[v,.int .i64 n] w fun e w'=>e= .returned (.int .i64 (szF n l.length))∧w=w':=by
 obtain⟨A,c,rfl,hc,hm,hcell⟩:=h.form;unfold maxLen at hm;clear h hcell
 by_cases hlt:n<l.length
 ·have hneg:n -(l.length:Int)<0:=by omega
  have HF:Hid (szF n l.length= -1):=Lib.hid (by unfold szF;rw[if_pos hlt])
  go_enter Tryz.func220,Tryz.ntmps220
  go_wp2
  all_goals go_ret
  all_goals exact⟨ze HF.out.symm,rfl⟩
 ·have hneg:¬n -(l.length:Int)<0:=by omega
  have HF:Hid (szF n l.length=n -l.length):=Lib.hid (by unfold szF;rw[if_neg hlt])
  go_enter Tryz.func220,Tryz.ntmps220
  go_wp2
  all_goals go_ret
  all_goals exact⟨ze HF.out.symm,rfl⟩
theorem z0D (v:Value) (l:List (Int×Int)) (n:Int) (w:World) (h:RP w v l) (h0:0≤n) (h1:n≤1000000000):
  Calls Tryz.prog 221 #[v,.int .i64 n] w fun e w'=>e= .returned (.int .i64 (szF n l.length))∧w=w':=by
 obtain⟨A,c,rfl,hc,hm,hcell⟩:=h.form;unfold maxLen at hm;clear h hcell
 by_cases hlt:n<l.length
 ·have hneg:n -(l.length:Int)<0:=by omega
  have HF:Hid (szF n l.length= -1):=Lib.hid (by unfold szF;rw[if_pos hlt])
  go_enter Tryz.func221,Tryz.ntmps221
  go_wp2
  all_goals go_ret
  all_goals exact⟨ze HF.out.symm,rfl⟩
 ·have hneg:¬n -(l.length:Int)<0:=by omega
  have HF:Hid (szF n l.length=n -l.length):=Lib.hid (by unfold szF;rw[if_neg hlt])
  go_enter Tryz.func221,Tryz.ntmps221
  go_wp2
  all_goals go_ret
  all_goals exact⟨ze HF.out.symm,rfl⟩
theorem z1k (a b:Int) (w:World):
  Calls Tryz.prog 252 #[.agg #[.int .i64 a,.int .i64 b]] w fun e w'=>e= .returned (.agg #[.int .i64 a,.int .i64 b])∧Below w.heap.size w w':=by
 go_enter Tryz.func252,Tryz.ntmps252
 go_wp2;exact bodyPost_ret (v:= .agg #[.int .i64 a,.int .i64 b]) (by simp[results,Tryz.results252,go_sem]) rfl ⟨rfl,by exact bel_⟩
theorem z1N (a b:Int) (w:World):
  Calls Tryz.prog 253 #[.agg #[.int .i64 a,.int .i64 b]] w fun e w'=>e= .returned (.agg #[.int .i64 a,.int .i64 b])∧Below w.heap.size w w':=by
 go_enter Tryz.func253,Tryz.ntmps253
 go_wp2;exact bodyPost_ret (v:= .agg #[.int .i64 a,.int .i64 b]) (by simp[results,Tryz.results253,go_sem]) rfl ⟨rfl,by exact bel_⟩
theorem kg:(Tryz.prog.info? 106).map (fun i=>(i.zero,i.size,i.bytes))=some (some (.agg #[.int .i64 0,.int .i64 0]),2,16):=by kernel_rfl
theorem qC:(Tryz.prog.info? 108).map (fun i=>(i.zero,i.size,i.bytes))=some (some (.agg #[.int .i64 0,.int .i64 0]),2,16):=by kernel_rfl
theorem z0T (v:Value) (l:List (Int×Int)) (w:World) (h:RP w v l) (hle:l.length≤1048576):
  Calls Tryz.prog 224 #[v] w (RetP 106 l w):=by
 obtain⟨A,c,rfl,hc,hm,hcell⟩:=h.form;clear h hm;obtain⟨i0,hi,iz0,iz1,iz2⟩:=info_parts kg
 go_enter Tryz.func224,Tryz.ntmps224
 go_wp2_with (at_make;refine wpList_make_full _ rfl _ _ 24 rfl w.heap.size 106 i0 (.agg #[.int .i64 0,.int .i64 0]) 2 Tryz.underlying24 hi iz0 iz1 .i64 .i64 _ _ l.length rfl rfl rfl rfl (by rw[iz2];omega) (by unfold maxLen;omega) (Nat.le_refl _) ?_)
 intro w1 hown1 hgr1;have hb1:Below w.heap.size w w1:=(Below.refl _ _).grown hgr1 (Nat.le_refl _) (by intro k hk;cases hk)
 have hown:OwnP 106 w.heap.size w1 (.slice (some ⟨w.heap.size,0,none⟩) l.length l.length) (yu l 0):=by
  unfold OwnP;rw[made2] at hown1;rw[J4,List.length_replicate];exact hown1
 have hw1:w.heap.size≤w1.heap.size:=hb1.size;clear hown1 hgr1 iz0 iz1 iz2 hi;go_wp2
 go_loopw [4] (fun i wr=>∃k:Nat,k≤l.length∧i= .int .i64 k∧OwnP 106 w.heap.size wr (.slice (some ⟨w.heap.size,0,none⟩) l.length l.length) (yu l k)∧Below w.heap.size w wr) (fun i _=>l.length -(intOf i).toNat)
 case atStart=>exact⟨0,Nat.zero_le _,rfl,hown,hb1⟩
 case round=>
  obtain⟨k,hk,rfl,ho,hbl⟩:=hrel;have hsz:=hbl.size;clear hown hb1 hw1
  by_cases hlt:k<l.length
  ·obtain⟨b,off,rfl,hb,hcl⟩:=hcell (by omega)
   obtain⟨k0,k1⟩:=hcl k hlt;have q0:=(hbl.cell (p:=⟨b,off+k*2,none⟩) hb).trans k0;have q1:=(hbl.cell (p:=⟨b,off+k*2+1,none⟩) hb).trans k1;clear k0 k1 hcl hcell
   go_wp2_with fail
   refine(z1k _ _ _).mono ?_
   rintro e w2 ⟨rfl,hb2⟩;have ho2:=ho.kept hb2;have hsz2:=hb2.size;have hbl2:Below w.heap.size w w2:=by exact bel_
   have hfl:=xX l k (by omega);have xx:=ho2.cell (q:=k) (by omega);obtain⟨z0,x0⟩:∃z,w2.cell? ⟨w.heap.size,k*2,none⟩=some z:=⟨_,xx.1⟩;obtain⟨z1,x1⟩:∃z,w2.cell? ⟨w.heap.size,k*2+1,none⟩=some z:=⟨_,xx.2⟩;have f0:=ho2.frz (k*2);have f1:=ho2.frz (k*2+1);have s4:=ho2.set_ (q:=k) (by omega) l[k].1 l[k].2
   have s5:OwnP 106 w.heap.size ((w2.setCell ⟨w.heap.size,k*2,none⟩ (.int .i64 l[k].1)).setCell ⟨w.heap.size,k*2+1,none⟩ (.int .i64 l[k].2)) (.slice (some ⟨w.heap.size,0,none⟩) l.length l.length) (yu l (k+1)):=by
    rw[Zd l k hlt];exact s4
   have HB:=(hbl2.setCell (p:=⟨w.heap.size,k*2,none⟩) (Nat.le_refl _) (.int .i64 l[k].1)).setCell (p:=⟨w.heap.size,k*2+1,none⟩) (Nat.le_refl _) (.int .i64 l[k].2);have HS:=Lib.hid s5;have HBL:=Lib.hid HB;clear xx s4 s5 HB hbl2 ho2 ho hb2 hbl hfl;go_wp2;go_roundw
   case rel=>exact⟨k+1,by omega,by go_num,HS.out,HBL.out⟩
   case measure=>simp[intOf];omega
  ·have hkk:k=l.length:=by omega
   subst hkk;rw[Vj] at ho;have HO:=Lib.hid ho;have HB:=Lib.hid hbl;clear ho hbl hcell;go_wp2;go_ret
   exact RetP.mk HO.out HB.out
theorem XF (v:Value) (l:List (Int×Int)) (w:World) (h:RP w v l) (hle:l.length≤1048576):
  Calls Tryz.prog 225 #[v] w (RetP 108 l w):=by
 obtain⟨A,c,rfl,hc,hm,hcell⟩:=h.form;clear h hm;obtain⟨i0,hi,iz0,iz1,iz2⟩:=info_parts qC
 go_enter Tryz.func225,Tryz.ntmps225
 go_wp2_with (at_make;refine wpList_make_full _ rfl _ _ 25 rfl w.heap.size 108 i0 (.agg #[.int .i64 0,.int .i64 0]) 2 Tryz.underlying25 hi iz0 iz1 .i64 .i64 _ _ l.length rfl rfl rfl rfl (by rw[iz2];omega) (by unfold maxLen;omega) (Nat.le_refl _) ?_)
 intro w1 hown1 hgr1;have hb1:Below w.heap.size w w1:=(Below.refl _ _).grown hgr1 (Nat.le_refl _) (by intro k hk;cases hk)
 have hown:OwnP 108 w.heap.size w1 (.slice (some ⟨w.heap.size,0,none⟩) l.length l.length) (yu l 0):=by
  unfold OwnP;rw[made2] at hown1;rw[J4,List.length_replicate];exact hown1
 have hw1:w.heap.size≤w1.heap.size:=hb1.size;clear hown1 hgr1 iz0 iz1 iz2 hi;go_wp2
 go_loopw [4] (fun i wr=>∃k:Nat,k≤l.length∧i= .int .i64 k∧OwnP 108 w.heap.size wr (.slice (some ⟨w.heap.size,0,none⟩) l.length l.length) (yu l k)∧Below w.heap.size w wr) (fun i _=>l.length -(intOf i).toNat)
 case atStart=>exact⟨0,Nat.zero_le _,rfl,hown,hb1⟩
 case round=>
  obtain⟨k,hk,rfl,ho,hbl⟩:=hrel;have hsz:=hbl.size;clear hown hb1 hw1
  by_cases hlt:k<l.length
  ·obtain⟨b,off,rfl,hb,hcl⟩:=hcell (by omega)
   obtain⟨k0,k1⟩:=hcl k hlt;have q0:=(hbl.cell (p:=⟨b,off+k*2,none⟩) hb).trans k0;have q1:=(hbl.cell (p:=⟨b,off+k*2+1,none⟩) hb).trans k1;clear k0 k1 hcl hcell
   go_wp2_with fail
   refine(z1N _ _ _).mono ?_
   rintro e w2 ⟨rfl,hb2⟩;have ho2:=ho.kept hb2;have hsz2:=hb2.size;have hbl2:Below w.heap.size w w2:=by exact bel_
   have hfl:=xX l k (by omega);have xx:=ho2.cell (q:=k) (by omega);obtain⟨z0,x0⟩:∃z,w2.cell? ⟨w.heap.size,k*2,none⟩=some z:=⟨_,xx.1⟩;obtain⟨z1,x1⟩:∃z,w2.cell? ⟨w.heap.size,k*2+1,none⟩=some z:=⟨_,xx.2⟩;have f0:=ho2.frz (k*2);have f1:=ho2.frz (k*2+1);have s4:=ho2.set_ (q:=k) (by omega) l[k].1 l[k].2
   have s5:OwnP 108 w.heap.size ((w2.setCell ⟨w.heap.size,k*2,none⟩ (.int .i64 l[k].1)).setCell ⟨w.heap.size,k*2+1,none⟩ (.int .i64 l[k].2)) (.slice (some ⟨w.heap.size,0,none⟩) l.length l.length) (yu l (k+1)):=by
    rw[Zd l k hlt];exact s4
   have HB:=(hbl2.setCell (p:=⟨w.heap.size,k*2,none⟩) (Nat.le_refl _) (.int .i64 l[k].1)).setCell (p:=⟨w.heap.size,k*2+1,none⟩) (Nat.le_refl _) (.int .i64 l[k].2);have HS:=Lib.hid s5;have HBL:=Lib.hid HB;clear xx s4 s5 HB hbl2 ho2 ho hb2 hbl hfl;go_wp2;go_roundw
   case rel=>exact⟨k+1,by omega,by go_num,HS.out,HBL.out⟩
   case measure=>simp[intOf];omega
  ·have hkk:k=l.length:=by omega
   subst hkk;rw[Vj] at ho;have HO:=Lib.hid ho;have HB:=Lib.hid hbl;clear ho hbl hcell;go_wp2;go_ret
   exact RetP.mk HO.out HB.out
theorem z1u (a b a' b':Int) (w:World):
  Calls Tryz.prog 255 #[.agg #[.int .i64 a,.int .i64 b],.agg #[.int .i64 a',.int .i64 b']] w
   fun e w'=>e= .returned (.bool (a==a'&&b==b'))∧Below w.heap.size w w':=by
 go_enter Tryz.func255,Tryz.ntmps255
 go_wp2
 all_goals go_ret
 all_goals refine⟨za ?_,by exact bel_⟩
 all_goals simp_all
theorem z1z (a b a' b':Int) (w:World):
  Calls Tryz.prog 256 #[.agg #[.int .i64 a,.int .i64 b],.agg #[.int .i64 a',.int .i64 b']] w
   fun e w'=>e= .returned (.bool (a==a'&&b==b'))∧Below w.heap.size w w':=by
 go_enter Tryz.func256,Tryz.ntmps256
 go_wp2
 all_goals go_ret
 all_goals refine⟨za ?_,by exact bel_⟩
 all_goals simp_all
theorem XK (a b:Int) (w:World):
  Calls Tryz.prog 255 #[.agg #[.int .i64 a,.int .i64 b],.agg #[.int .i64 a,.int .i64 b]] w fun e w'=>e= .returned (.bool true)∧Below w.heap.size w w':=
 (z1u a b a b w).mono fun e w' ⟨he,hw⟩=>⟨he.trans (by simp),hw⟩
theorem Xo (a b:Int) (w:World):
  Calls Tryz.prog 256 #[.agg #[.int .i64 a,.int .i64 b],.agg #[.int .i64 a,.int .i64 b]] w fun e w'=>e= .returned (.bool true)∧Below w.heap.size w w':=
 (z1z a b a b w).mono fun e w' ⟨he,hw⟩=>⟨he.trans (by simp),hw⟩
theorem z0j (v u:Value) (l:List (Int×Int)) (w:World) (hv:RP w v l) (hu:RP w u l):
  Calls Tryz.prog 228 #[v,u] w fun e w'=>e= .returned (.bool true)∧Below w.heap.size w w':=by
 obtain⟨A,c,rfl,hc,hm,hcell⟩:=hv.form;obtain⟨A',c',rfl,hc',hm',hcell'⟩:=hu.form;unfold maxLen at hm hm';clear hv hu
 go_enter Tryz.func228,Tryz.ntmps228
 go_wp2
 go_loopw [5] (fun i wr=>∃k:Nat,k≤l.length∧i= .int .i64 k∧Below w.heap.size w wr) (fun i _=>l.length -(intOf i).toNat)
 case atStart=>exact⟨0,Nat.zero_le _,rfl,Below.refl _ _⟩
 case round=>
  obtain⟨k,hk,rfl,hbl⟩:=hrel;have hsz:=hbl.size
  by_cases hlt:k<l.length
  ·obtain⟨b,off,rfl,hb,hcl⟩:=hcell (by omega)
   obtain⟨k0,k1⟩:=hcl k hlt;have q0:=(hbl.cell (p:=⟨b,off+k*2,none⟩) hb).trans k0;have q1:=(hbl.cell (p:=⟨b,off+k*2+1,none⟩) hb).trans k1;obtain⟨b',off',rfl,hb',hcl'⟩:=hcell' (by omega);obtain⟨j0,j1⟩:=hcl' k hlt;have p0:=(hbl.cell (p:=⟨b',off'+k*2,none⟩) hb').trans j0;have p1:=(hbl.cell (p:=⟨b',off'+k*2+1,none⟩) hb').trans j1;have hi1:(0:Int)≤(k:Int):=by omega
   have hi2:(k:Int)<(l.length:Int):=by omega
   clear k0 k1 hcl hcell j0 j1 hcl' hcell';go_wp2
   go_still_tail 8,(by kernel_rfl)
   go_wp2_with fail
   refine(XK _ _ _).mono ?_
   rintro e w2 ⟨rfl,hb2⟩;have hbl2:Below w.heap.size w w2:=hbl.trans ((show Below wr.heap.size wr w2 from⟨hb2.os,hb2.tape,hb2.output,hb2.size,hb2.block⟩).mono hsz);clear hb2;go_wp2;go_roundw
   case rel=>exact⟨k+1,by omega,by go_num,hbl2⟩
   case measure=>simp[intOf];omega
  ·go_wp2
   go_ret
   exact⟨rfl,hbl⟩
theorem z0p (v u:Value) (l:List (Int×Int)) (w:World) (hv:RP w v l) (hu:RP w u l):
  Calls Tryz.prog 229 #[v,u] w fun e w'=>e= .returned (.bool true)∧Below w.heap.size w w':=by
 obtain⟨A,c,rfl,hc,hm,hcell⟩:=hv.form;obtain⟨A',c',rfl,hc',hm',hcell'⟩:=hu.form;unfold maxLen at hm hm';clear hv hu
 go_enter Tryz.func229,Tryz.ntmps229
 go_wp2
 go_loopw [5] (fun i wr=>∃k:Nat,k≤l.length∧i= .int .i64 k∧Below w.heap.size w wr) (fun i _=>l.length -(intOf i).toNat)
 case atStart=>exact⟨0,Nat.zero_le _,rfl,Below.refl _ _⟩
 case round=>
  obtain⟨k,hk,rfl,hbl⟩:=hrel;have hsz:=hbl.size
  by_cases hlt:k<l.length
  ·obtain⟨b,off,rfl,hb,hcl⟩:=hcell (by omega)
   obtain⟨k0,k1⟩:=hcl k hlt;have q0:=(hbl.cell (p:=⟨b,off+k*2,none⟩) hb).trans k0;have q1:=(hbl.cell (p:=⟨b,off+k*2+1,none⟩) hb).trans k1;obtain⟨b',off',rfl,hb',hcl'⟩:=hcell' (by omega);obtain⟨j0,j1⟩:=hcl' k hlt;have p0:=(hbl.cell (p:=⟨b',off'+k*2,none⟩) hb').trans j0;have p1:=(hbl.cell (p:=⟨b',off'+k*2+1,none⟩) hb').trans j1;have hi1:(0:Int)≤(k:Int):=by omega
   have hi2:(k:Int)<(l.length:Int):=by omega
   clear k0 k1 hcl hcell j0 j1 hcl' hcell';go_wp2
   go_still_tail 8,(by kernel_rfl)
   go_wp2_with fail
   refine(Xo _ _ _).mono ?_
   rintro e w2 ⟨rfl,hb2⟩;have hbl2:Below w.heap.size w w2:=hbl.trans ((show Below wr.heap.size wr w2 from⟨hb2.os,hb2.tape,hb2.output,hb2.size,hb2.block⟩).mono hsz);clear hb2;go_wp2;go_roundw
   case rel=>exact⟨k+1,by omega,by go_num,hbl2⟩
   case measure=>simp[intOf];omega
  ·go_wp2
   go_ret
   exact⟨rfl,hbl⟩
def OwnW (base:Nat) (w:World) (vn vl:Value) (ns ls:List (Int×Int)):Prop:=
 OwnP 106 base w vn ns∧OwnP 108 base w vl ls∧∀k,vn.ownBlock=some k→vl.ownBlock=some k→False
theorem OwnW.kept {base:Nat} {w w':World} {vn vl:Value} {ns ls:List (Int×Int)} (h:OwnW base w vn vl ns ls) (hb:Below w.heap.size w w'):OwnW base w' vn vl ns ls:=⟨h.1.kept hb,h.2.1.kept hb,h.2.2⟩
theorem OwnW.mono {base base':Nat} {w:World} {vn vl:Value} {ns ls:List (Int×Int)} (h:OwnW base w vn vl ns ls) (hb:base'≤base):OwnW base' w vn vl ns ls:=⟨h.1.mono hb,h.2.1.mono hb,h.2.2⟩
def RetW (ns ls:List (Int×Int)) (w:World) (e:Ending) (w':World):Prop:=∃An cn Al cl,e= .returned (.agg #[.slice An ns.length cn,.slice Al ls.length cl])∧OwnW w.heap.size w' (.slice An ns.length cn) (.slice Al ls.length cl) ns ls∧Below w.heap.size w w'
def szW (n:Int) (a b:Nat):Int:=if n<a then -1 else if n -a<b then -1 else n -a -b
theorem xt (v:Value) (l:List (Int×Int)) (n x:Int) (w:World) (h:RP w v l) (h0:0≤n) (h1:n≤1000000000) (hx:Hid (szF n l.length=x)):
  Calls Tryz.prog 220 #[v,.int .i64 n] w fun e w'=>e= .returned (.int .i64 x)∧w=w':=
 (XZ v l n w h h0 h1).mono fun e w' ⟨he,hw⟩=>⟨he.trans (ze hx.out),hw⟩
theorem ZH (v:Value) (l:List (Int×Int)) (n x:Int) (w:World) (h:RP w v l) (h0:0≤n) (h1:n≤1000000000) (hx:Hid (szF n l.length=x)):
  Calls Tryz.prog 221 #[v,.int .i64 n] w fun e w'=>e= .returned (.int .i64 x)∧w=w':=
 (z0D v l n w h h0 h1).mono fun e w' ⟨he,hw⟩=>⟨he.trans (ze hx.out),hw⟩
theorem VG (vn vl:Value) (ns ls:List (Int×Int)) (n:Int) (w:World) (hn:RP w vn ns) (hl:RP w vl ls) (h0:0≤n) (h1:n≤1000000000):
  Calls Tryz.prog 164 #[.agg #[vn,vl],.int .i64 n] w fun e w'=>e= .returned (.int .i64 (szW n ns.length ls.length))∧Below w.heap.size w w':=by
 by_cases ha:n<ns.length
 ·have HF:Hid (szF n ns.length= -1):=Lib.hid (by unfold szF;rw[if_pos ha])
  have HW:Hid (szW n ns.length ls.length= -1):=Lib.hid (by unfold szW;rw[if_pos ha]);clear ha
  go_enter Tryz.func164,Tryz.ntmps164
  go_wp2_with fail
  refine(xt _ ns n (-1) _ (hn.below (by exact bel_)) h0 h1 HF).mono ?_
  rintro e w' ⟨rfl,rfl⟩;go_wp2;go_ret
  exact⟨ze HW.out.symm,by exact bel_⟩
 ·have HF:Hid (szF n ns.length=n -ns.length):=Lib.hid (by unfold szF;rw[if_neg ha])
  by_cases hb:n -ns.length<ls.length
  ·have HG:Hid (szF (n -ns.length) ls.length= -1):=Lib.hid (by unfold szF;rw[if_pos hb])
   have HW:Hid (szW n ns.length ls.length= -1):=Lib.hid (by unfold szW;rw[if_neg ha,if_pos hb]);have hge:0≤n -ns.length:=by omega
   have hge2:¬n -ns.length<0:=by omega
   clear hb
   go_enter Tryz.func164,Tryz.ntmps164
   go_wp2_with fail
   refine(xt _ ns n (n -ns.length) _ (hn.below (by exact bel_)) h0 h1 HF).mono ?_
   rintro e w' ⟨rfl,rfl⟩
   go_wp2_with fail
   refine(ZH _ ls (n -ns.length) (-1) _ (hl.below (by exact bel_)) hge (by omega) HG).mono ?_
   rintro e w' ⟨rfl,rfl⟩;go_wp2;go_ret
   exact⟨ze HW.out.symm,by exact bel_⟩
  ·have HG:Hid (szF (n -ns.length) ls.length=n -ns.length -ls.length):=Lib.hid (by unfold szF;rw[if_neg hb])
   have HW:Hid (szW n ns.length ls.length=n -ns.length -ls.length):=Lib.hid (by unfold szW;rw[if_neg ha,if_neg hb]);have hge:0≤n -ns.length:=by omega
   have hge2:¬n -ns.length<0:=by omega
   have hge3:¬n -ns.length -ls.length<0:=by omega
   clear hb
   go_enter Tryz.func164,Tryz.ntmps164
   go_wp2_with fail
   refine(xt _ ns n (n -ns.length) _ (hn.below (by exact bel_)) h0 h1 HF).mono ?_
   rintro e w' ⟨rfl,rfl⟩
   go_wp2_with fail
   refine(ZH _ ls (n -ns.length) _ _ (hl.below (by exact bel_)) hge (by omega) HG).mono ?_
   rintro e w' ⟨rfl,rfl⟩;go_wp2;go_ret
   exact⟨ze HW.out.symm,by exact bel_⟩
theorem vR (vn vl:Value) (ns ls:List (Int×Int)) (w:World) (hn:RP w vn ns) (hl:RP w vl ls) (h1:ns.length≤1048576) (h2:ls.length≤1048576):
  Calls Tryz.prog 168 #[.agg #[vn,vl]] w (RetW ns ls w):=by
 go_enter Tryz.func168,Tryz.ntmps168
 go_wp2_with fail
 refine(z0T _ ns _ (hn.below (by exact bel_)) h1).mono ?_
 rintro e w1 ⟨A1,c1,rfl,ho1,hb1⟩;(first|(with_reducible have hcf1:=z8 hb1)|have hcf1:=bcell hb1);obtain⟨hc1,hf1⟩:=hcf1;have hz1:=hb1.size;(try simp at hz1);(try have hp1_0:=p0_ w w1);(try have hp1_1:=p1_ w w1);(try have hp1_2:=p2_ w w1);(try have hp1_3:=p3_ w w1)
 have hbw1:Below w.heap.size w w1:=by exact bel_
 have o1:OwnP 106 (w.heap.size+1+1+1) w1 (.slice A1 ns.length c1) ns:=by simpa using ho1
 have hlt1:=o1.lt
 go_wp2_with fail
 refine(XF _ ls _ (hl.below (by exact bel_)) h2).mono ?_
 rintro e w2 ⟨A2,c2,rfl,ho2,hb2⟩;(first|(with_reducible have hcf2:=z8 hb2)|have hcf2:=bcell hb2);obtain⟨hc2,hf2⟩:=hcf2;have hz2:=hb2.size;(try simp at hz2);(try have hp2_0:=p0_ w w2);(try have hp2_1:=p1_ w w2);(try have hp2_2:=p2_ w w2);(try have hp2_3:=p3_ w w2)
 have o2:OwnP 108 w1.heap.size w2 (.slice A2 ls.length c2) ls:=by simpa using ho2
 have o1':=Lib.hid ((((((o1.setLow (p:=⟨w.heap.size+1+1,0,none⟩) (by simp) (.slice A1 ns.length c1)).kept hb2).setLow (p:=⟨w.heap.size+1+1,1,none⟩) (by simp) (.slice A2 ls.length c2)).setLow (p:=⟨w.heap.size+1,0,none⟩) sz_ (.slice A1 ns.length c1)).setLow (p:=⟨w.heap.size+1,1,none⟩) sz_ (.slice A2 ls.length c2)).mono (show w.heap.size≤_ by omega));have o2':=Lib.hid ((((o2.setLow (p:=⟨w.heap.size+1+1,1,none⟩) sz_ (.slice A2 ls.length c2)).setLow (p:=⟨w.heap.size+1,0,none⟩) sz_ (.slice A1 ns.length c1)).setLow (p:=⟨w.heap.size+1,1,none⟩) sz_ (.slice A2 ls.length c2)).mono (show w.heap.size≤_ by omega))
 have hap:Hid (∀k,(Value.slice A1 ns.length c1).ownBlock =some k→(Value.slice A2 ls.length c2).ownBlock =some k→False):=Lib.hid (fun k h1 h2=>by
  have:=(hlt1 k h1).2;have:=(o2.lt k h2).1;omega)
 clear ho1 ho2 o1 o2 hlt1;go_wp2;exact bodyPost_ret (v:= .agg #[.slice A1 ns.length c1,.slice A2 ls.length c2]) (by simp[results,Tryz.results168,go_sem,hp1_0,hp1_1,hp1_2,hp2_0,hp2_1,hp2_2,hc2,hc1]) rfl ⟨_,_,_,_,rfl,⟨o1'.out,o2'.out,hap.out⟩,by exact bel_⟩
theorem vD (vn vl un ul:Value) (ns ls:List (Int×Int)) (w:World) (hn:RP w vn ns) (hl:RP w vl ls) (hn':RP w un ns) (hl':RP w ul ls):
  Calls Tryz.prog 172 #[.agg #[vn,vl],.agg #[un,ul]] w fun e w'=>e= .returned (.bool true)∧Below w.heap.size w w':=by
 go_enter Tryz.func172,Tryz.ntmps172
 go_wp2_with fail
 refine(z0j _ _ ns _ (hn.below (by exact bel_)) (hn'.below (by exact bel_))).mono ?_
 rintro e w1 ⟨rfl,hb1⟩;(first|(with_reducible have hcf1:=z8 hb1)|have hcf1:=bcell hb1);obtain⟨hc1,hf1⟩:=hcf1;have hz1:=hb1.size;(try simp at hz1);(try have hp1_0:=p0_ w w1);(try have hp1_1:=p1_ w w1);(try have hp1_2:=p2_ w w1);(try have hp1_3:=p3_ w w1)
 have hbw1:Below w.heap.size w w1:=by exact bel_
 go_wp2_with fail
 refine(z0p _ _ ls _ (hl.below hbw1) (hl'.below hbw1)).mono ?_
 rintro e w2 ⟨rfl,hb2⟩;(first|(with_reducible have hcf2:=z8 hb2)|have hcf2:=bcell hb2);obtain⟨hc2,hf2⟩:=hcf2;have hz2:=hb2.size;(try simp at hz2);(try have hp2_0:=p0_ w w2);(try have hp2_1:=p1_ w w2);(try have hp2_2:=p2_ w w2);(try have hp2_3:=p3_ w w2)
 go_wp2;go_ret
 exact⟨rfl,by exact bel_⟩
attribute [local go_sem ↓] zu xo zw xz
theorem kP (v u:Value) (zs ys:List (Int×Int)) (w:World) (hv:RP w v zs) (hu:RP w u ys):
  Calls Tryz.prog 159 #[v,u] w fun e w'=>e= .returned (.bool (decide (zs=ys)))∧Below w.heap.size w w':=by
 obtain⟨A,c,rfl,hc,hm,hcell⟩:=hv.form;obtain⟨A',c',rfl,hc',hm',hcell'⟩:=hu.form;unfold maxLen at hm hm';clear hv hu
 by_cases hlen:zs.length=ys.length
 ·have e1:((zs.length:Int) != (ys.length:Int))=false:=by simp[hlen]
  have HLEN:=Lib.hid hlen;clear hlen
  go_enter Tryz.func159,Tryz.ntmps159
  go_wp2
  go_loopw [13] (fun i wr=>∃k:Nat,k≤zs.length∧i= .int .i64 k∧Hid (zs.take k=ys.take k)∧Below w.heap.size w wr) (fun i _=>zs.length -(intOf i).toNat)
  case atStart=>exact⟨0,Nat.zero_le _,rfl,Lib.hid (by simp),Below.refl _ _⟩
  case round=>
   obtain⟨k,hk,rfl,HT,hbl⟩:=hrel
   by_cases hlt:k<zs.length
   ·obtain⟨b,off,rfl,hb,hcl⟩:=hcell (by omega)
    have hlt':k<ys.length:=by rw[←HLEN.out];exact hlt
    obtain⟨b',off',rfl,hb',hcl'⟩:=hcell' (by omega);obtain⟨k0,k1⟩:=hcl k hlt;obtain⟨j0,j1⟩:=hcl' k hlt';have q0:=(hbl.cell (p:=⟨b,off+k*2,none⟩) hb).trans k0;have q1:=(hbl.cell (p:=⟨b,off+k*2+1,none⟩) hb).trans k1;have p0:=(hbl.cell (p:=⟨b',off'+k*2,none⟩) hb').trans j0;have p1:=(hbl.cell (p:=⟨b',off'+k*2+1,none⟩) hb').trans j1;have hi1:(0:Int)≤(k:Int):=by omega
    have hi2:(k:Int)<(zs.length:Int):=by omega
    have hi3:(k:Int)<(ys.length:Int):=by omega
    clear hcl hcell hcl' hcell' k0 k1 j0 j1
    cases hxy:prB zs[k].1 zs[k].2 ys[k].1 ys[k].2
    ·have HE:Hid (¬zs[k]=ys[k]):=Lib.hid (fun h=>by rw[h,kh] at hxy;cases hxy)
     go_wp2
     go_quiet (fail)
     go_wp2;go_ret
     refine⟨za ?_,by exact bel_⟩
     symm
     rw[decide_eq_false_iff_not];intro heq;exact HE.out (by simp[heq])
    ·have HE:Hid (zs[k]=ys[k]):=Lib.hid (yP.1 hxy)
     go_wp2
     go_quiet (fail)
     go_wp2;go_roundw
     case rel=>exact⟨k+1,by omega,by go_num,Lib.hid (jN HT.out hlt hlt' HE.out),by exact bel_⟩
     case measure=>simp[intOf];omega
   ·have hkk:zs.length≤k:=by omega
    have hke:zs=ys:=by
     have h:=HT.out;rw[List.take_of_length_le hkk,List.take_of_length_le (by rw[←HLEN.out];exact hkk)] at h;exact h
    have HE:=Lib.hid hke;clear hke hcell hcell';go_wp2;go_ret
    exact⟨za (by symm;simpa using HE.out),hbl⟩
 ·have e1:((zs.length:Int) != (ys.length:Int))=true:=by simp;omega
  have HE:Hid (¬zs=ys):=Lib.hid (fun h=>hlen (by rw[h]));have HLEN:=Lib.hid hlen;clear hlen
  go_enter Tryz.func159,Tryz.ntmps159
  go_wp2;go_ret
  exact⟨za (by symm;simpa using HE.out),Below.refl _ _⟩
theorem kQ (v u:Value) (zs ys:List (Int×Int)) (w:World) (hv:RP w v zs) (hu:RP w u ys):
  Calls Tryz.prog 160 #[v,u] w fun e w'=>e= .returned (.bool (decide (zs=ys)))∧Below w.heap.size w w':=by
 obtain⟨A,c,rfl,hc,hm,hcell⟩:=hv.form;obtain⟨A',c',rfl,hc',hm',hcell'⟩:=hu.form;unfold maxLen at hm hm';clear hv hu
 by_cases hlen:zs.length=ys.length
 ·have e1:((zs.length:Int) != (ys.length:Int))=false:=by simp[hlen]
  have HLEN:=Lib.hid hlen;clear hlen
  go_enter Tryz.func160,Tryz.ntmps160
  go_wp2
  go_loopw [13] (fun i wr=>∃k:Nat,k≤zs.length∧i= .int .i64 k∧Hid (zs.take k=ys.take k)∧Below w.heap.size w wr) (fun i _=>zs.length -(intOf i).toNat)
  case atStart=>exact⟨0,Nat.zero_le _,rfl,Lib.hid (by simp),Below.refl _ _⟩
  case round=>
   obtain⟨k,hk,rfl,HT,hbl⟩:=hrel
   by_cases hlt:k<zs.length
   ·obtain⟨b,off,rfl,hb,hcl⟩:=hcell (by omega)
    have hlt':k<ys.length:=by rw[←HLEN.out];exact hlt
    obtain⟨b',off',rfl,hb',hcl'⟩:=hcell' (by omega);obtain⟨k0,k1⟩:=hcl k hlt;obtain⟨j0,j1⟩:=hcl' k hlt';have q0:=(hbl.cell (p:=⟨b,off+k*2,none⟩) hb).trans k0;have q1:=(hbl.cell (p:=⟨b,off+k*2+1,none⟩) hb).trans k1;have p0:=(hbl.cell (p:=⟨b',off'+k*2,none⟩) hb').trans j0;have p1:=(hbl.cell (p:=⟨b',off'+k*2+1,none⟩) hb').trans j1;have hi1:(0:Int)≤(k:Int):=by omega
    have hi2:(k:Int)<(zs.length:Int):=by omega
    have hi3:(k:Int)<(ys.length:Int):=by omega
    clear hcl hcell hcl' hcell' k0 k1 j0 j1
    cases hxy:prB zs[k].1 zs[k].2 ys[k].1 ys[k].2
    ·have HE:Hid (¬zs[k]=ys[k]):=Lib.hid (fun h=>by rw[h,kh] at hxy;cases hxy)
     go_wp2
     go_quiet (fail)
     go_wp2;go_ret
     refine⟨za ?_,by exact bel_⟩
     symm
     rw[decide_eq_false_iff_not];intro heq;exact HE.out (by simp[heq])
    ·have HE:Hid (zs[k]=ys[k]):=Lib.hid (yP.1 hxy)
     go_wp2
     go_quiet (fail)
     go_wp2;go_roundw
     case rel=>exact⟨k+1,by omega,by go_num,Lib.hid (jN HT.out hlt hlt' HE.out),by exact bel_⟩
     case measure=>simp[intOf];omega
   ·have hkk:zs.length≤k:=by omega
    have hke:zs=ys:=by
     have h:=HT.out;rw[List.take_of_length_le hkk,List.take_of_length_le (by rw[←HLEN.out];exact hkk)] at h;exact h
    have HE:=Lib.hid hke;clear hke hcell hcell';go_wp2;go_ret
    exact⟨za (by symm;simpa using HE.out),hbl⟩
 ·have e1:((zs.length:Int) != (ys.length:Int))=true:=by simp;omega
  have HE:Hid (¬zs=ys):=Lib.hid (fun h=>hlen (by rw[h]));have HLEN:=Lib.hid hlen;clear hlen
  go_enter Tryz.func160,Tryz.ntmps160
  go_wp2;go_ret
  exact⟨za (by symm;simpa using HE.out),Below.refl _ _⟩
def qz (ns ls ns' ls':List (Int×Int)):Bool:=decide (ns=ns')&&decide (ls=ls')
theorem yx (v u:Value) (zs ys:List (Int×Int)) (b:Bool) (w:World) (hv:RP w v zs) (hu:RP w u ys) (hx:Hid (decide (zs=ys)=b)):
  Calls Tryz.prog 159 #[v,u] w fun e w'=>e= .returned (.bool b)∧Below w.heap.size w w':=
 (kP v u zs ys w hv hu).mono fun e w' ⟨he,hw⟩=>⟨he.trans (za hx.out),hw⟩
theorem QX (vn vl un ul:Value) (ns ls ns' ls':List (Int×Int)) (w:World) (hn:RP w vn ns) (hl:RP w vl ls) (hn':RP w un ns') (hl':RP w ul ls'):
  Calls Tryz.prog 88 #[.agg #[vn,vl],.agg #[un,ul]] w fun e w'=>e= .returned (.bool (qz ns ls ns' ls'))∧Below w.heap.size w w':=by
 cases h1:decide (ns=ns')
 ·have HF:Hid (qz ns ls ns' ls'=false):=Lib.hid (by simp[qz,h1])
  have H1:=Lib.hid h1;clear h1
  go_enter Tryz.func88,Tryz.ntmps88
  go_wp2_with fail
  refine(yx _ _ ns ns' _ _ (hn.below (by exact bel_)) (hn'.below (by exact bel_)) H1).mono ?_
  rintro e w1 ⟨rfl,hb1⟩;(first|(with_reducible have hcf1:=z8 hb1)|have hcf1:=bcell hb1);obtain⟨hc1,hf1⟩:=hcf1;have hz1:=hb1.size;(try simp at hz1);(try have hp1_0:=p0_ w w1);(try have hp1_1:=p1_ w w1);(try have hp1_2:=p2_ w w1);(try have hp1_3:=p3_ w w1)
  go_wp2;go_ret
  exact⟨za HF.out.symm,by exact bel_⟩
 ·have HF:Hid (qz ns ls ns' ls'=decide (ls=ls')):=Lib.hid (by simp[qz,h1])
  have H1:=Lib.hid h1;clear h1
  go_enter Tryz.func88,Tryz.ntmps88
  go_wp2_with fail
  refine(yx _ _ ns ns' _ _ (hn.below (by exact bel_)) (hn'.below (by exact bel_)) H1).mono ?_
  rintro e w1 ⟨rfl,hb1⟩;(first|(with_reducible have hcf1:=z8 hb1)|have hcf1:=bcell hb1);obtain⟨hc1,hf1⟩:=hcf1;have hz1:=hb1.size;(try simp at hz1);(try have hp1_0:=p0_ w w1);(try have hp1_1:=p1_ w w1);(try have hp1_2:=p2_ w w1);(try have hp1_3:=p3_ w w1)
  have hbw1:Below w.heap.size w w1:=by exact bel_
  go_wp2_with fail
  refine(kQ _ _ ls ls' _ (hl.below hbw1) (hl'.below hbw1)).mono ?_
  rintro e w2 ⟨rfl,hb2⟩;(first|(with_reducible have hcf2:=z8 hb2)|have hcf2:=bcell hb2);obtain⟨hc2,hf2⟩:=hcf2;have hz2:=hb2.size;(try simp at hz2);(try have hp2_0:=p0_ w w2);(try have hp2_1:=p1_ w w2);(try have hp2_2:=p2_ w w2);(try have hp2_3:=p3_ w w2)
  rw[←HF.out];go_wp2;go_ret
  exact⟨rfl,by exact bel_⟩
end Go.Proofs.YtnjcpljhmhdhkaaGreat
