/- part 30 -/
import Derived.Test.YtnjcpljhmhdhkaaGreatTPk29
set_option linter.unusedSimpArgs false
set_option linter.unusedVariables false
set_option maxRecDepth 100000
set_option maxHeartbeats 4000000
namespace Go.Proofs.YtnjcpljhmhdhkaaGreat
open Go.RowKit
theorem QF (f:Nat) (lb:Array Value) (w:World):
  Calls Tryz.prog 246 #[.slice none 0 0,.int .i64 0,.int .i64 0,.func (.func f) #[] lb] w
   fun e w'=>e= .returned (.tuple #[])∧Below w.heap.size w w':=by
 go_enter Tryz.func246,Tryz.ntmps246
 go_wp2;refine wp_loop_rounds 1 ?_
 rw[rounds_succ];go_wp2
 go_end0
 exact⟨rfl,by exact bel_⟩
theorem z5j (base f g cap:Nat) (k:Int) (lb:Array Value) (G:List Nat) (c:Nat→Nat→Int) (lt:Nat→Nat→Bool) (w:World) (hc:QT f lb G c (some g) w) (hlt:∀d e,decide (c d e<0)=lt d e)
  (ho:OwnI base w (.slice (some ⟨g,0,none⟩) G.length cap) (natI G)) (h12:G.length≤12) (ef:Enters Tryz.prog f):
  Calls Tryz.prog 273 #[.slice (some ⟨g,0,none⟩) G.length cap,.int .i64 0,.int .i64 G.length,.int .i64 k,.func (.func f) #[] lb] w
   fun e w'=>e= .returned (.tuple #[])∧OwnI base w' (.slice (some ⟨g,0,none⟩) G.length cap) (natI (isoK lt G G.length))∧w.grownBy w' (some g):=by
 have h1:(G.length:Int)≤12:=by omega
 go_enter Tryz.func273,Tryz.ntmps273
 go_wp2;refine wp_loop_rounds 1 ?_
 rw[rounds_succ]
 go_wp2_with fail
 refine(z0i base f g cap lb G c lt _ hc hlt ho h12 ef).mono ?_
 rintro e w1 ⟨rfl,ho1,hg1⟩;go_wp2;exact bodyPost_ret (v:= .tuple #[]) (by simp[results,Tryz.results273,go_sem]) rfl ⟨rfl,ho1,hg1⟩
theorem z3i (base f g cap:Nat) (lb:Array Value) (G:List Nat) (c:Nat→Nat→Int) (lt:Nat→Nat→Bool) (w:World) (hc:QT f lb G c (some g) w) (hlt:∀d e,decide (c d e<0)=lt d e)
  (ho:OwnI base w (.slice (some ⟨g,0,none⟩) G.length cap) (natI G)) (h12:G.length≤12) (ef:Enters Tryz.prog f):
  Calls Tryz.prog 267 #[.slice (some ⟨g,0,none⟩) G.length cap,.func (.func f) #[] lb] w
   fun e w'=>e= .returned (.tuple #[])∧OwnI base w' (.slice (some ⟨g,0,none⟩) G.length cap) (natI (isoK lt G G.length))∧w.grownBy w' (some g):=by
 have h0:(0:Int)≤(G.length:Int):=by omega
 have h1:(G.length:Int)≤12:=by omega
 go_enter Tryz.func267,Tryz.ntmps267
 go_wp2_with (go_at_call 274;refine(z2C _ _ h0 h1).mono ?_;rintro e w' ⟨⟨k,rfl⟩,rfl⟩)
 refine(z5j base f g cap _ lb G c lt _ hc hlt ho h12 ef).mono ?_
 rintro e w1 ⟨rfl,ho1,hg1⟩;go_wp2
 go_end0
 exact⟨rfl,ho1,hg1⟩
theorem z52 (f:Nat) (k:Int) (lb:Array Value) (w:World):
  Calls Tryz.prog 273 #[.slice none 0 0,.int .i64 0,.int .i64 0,.int .i64 k,.func (.func f) #[] lb] w
   fun e w'=>e= .returned (.tuple #[])∧Below w.heap.size w w':=by
 go_enter Tryz.func273,Tryz.ntmps273
 go_wp2;refine wp_loop_rounds 1 ?_
 rw[rounds_succ]
 go_wp2_with fail
 refine(QF f lb _).mono ?_
 rintro e w1 ⟨rfl,hb1⟩;go_wp2;exact bodyPost_ret (v:= .tuple #[]) (by simp[results,Tryz.results273,go_sem]) rfl ⟨rfl,hb1⟩
theorem z32 (f:Nat) (lb:Array Value) (w:World):
  Calls Tryz.prog 267 #[.slice none 0 0,.func (.func f) #[] lb] w
   fun e w'=>e= .returned (.tuple #[])∧Below w.heap.size w w':=by
 go_enter Tryz.func267,Tryz.ntmps267
 go_wp2_with (go_at_call 274;refine(z2C 0 _ (by omega) (by omega)).mono ?_;rintro e w' ⟨⟨k,rfl⟩,rfl⟩)
 refine(z52 f _ lb _).mono ?_
 rintro e w1 ⟨rfl,hb1⟩;go_wp2
 go_end0
 exact⟨rfl,hb1⟩
theorem z2G (ls:List Pr) (k:Nat):∀d,(frD ls k d).length ≤d
 |0=>by simp[frD]
 |d+1=>by
  have:=z2G ls k d;unfold frD
  split<;>simp<;>omega
theorem z09 (vn vl:Value) (ns ls:List Pr) (k:Nat) (w:World) (hn:RP w vn ns) (hl:RP w vl ls) (hk:k<ns.length) (hwin:q7 ns ls):
  Calls Tryz.prog 262 #[.agg #[vn,vl],.int .i64 k] w (RetI (natI (ardS ns ls k (2*ls.length))) w):=by
 have hm20:=hwin.2.2.1;obtain⟨Al,cl,rfl,hcl,hml,_⟩:=hl.formI;unfold maxLen at hml;obtain⟨i0,hi,iz0,iz1,iz2⟩:=info_parts qu
 go_enter Tryz.func262,Tryz.ntmps262
 go_wp2
 go_loopw [5,6] (fun v i wr=>∃d:Nat,d≤2*ls.length∧i= .int .i64 d∧OwnI (w.heap.size+1+1) wr v (natI (frD ls k d))∧Blk wr w.heap.size 27 #[vn,.slice Al ls.length cl]∧Blk wr (w.heap.size+1) 3 #[.int .i64 k]∧Below w.heap.size w wr) (fun _ i _=>2*ls.length -(intOf i).toNat)
 case atStart=>exact⟨0,Nat.zero_le _,rfl,OwnI.nil _ _,(Blk.newAt rfl).alloc _,Blk.newAt (by simp),by exact bel_⟩
 case round=>
  obtain⟨d,hd,rfl,ho,hW,hK,hbl⟩:=hrel;have hsz:=hW.lt;have hsk:=hK.lt
  by_cases hlt:d<2*ls.length
  ·have hlt1:(d:Int)<2*(ls.length:Int):=by omega
   have hlr:RP wr (.slice Al ls.length cl) ls:=hl.below hbl;have kk:=hK.cell 0;simp only[List.getElem?_toArray,List.getElem?_cons_zero] at kk
   obtain⟨a_0,a_1⟩:=hW.c2;have HX:Hid (((zd ls d)==(k:Int))=decide (zd ls d=k)):=Lib.hid rfl
   go_wp2_with fail
   (refine z9 (by kernel_rfl) (by kernel_rfl) (fun hG=>?_))
   repeat (go_big_quiet_step ((go_at_call 241;exact zv (jW _ _ ls d _ (RS.grw _ hlr) hlt))))
   (refine wpQuiet_nil ?_);(clear hG);(rintro w3 ⟨⟨_,hb3⟩,rfl⟩);(try dsimp only);(first|(with_reducible have hcf3:=z8 hb3)|have hcf3:=bcell hb3);obtain⟨hc3,hf3⟩:=hcf3;have hz3:=hb3.size;(try simp at hz3);(try have hp3_0:=p0_ w w3);(try have hp3_1:=p1_ w w3);(try have hp3_2:=p2_ w w3);(try have hp3_3:=p3_ w w3)
   have hbl3:Below w.heap.size w w3:=hbl.trans (hb3.mono hbl.size);have ho3:=ho.kept hb3;have hW3:=hW.below hb3 hsz;have hK3:=hK.below hb3 hsk;clear hb3 hc3 hf3 hlr ho hW hK hbl a_0 a_1 kk
   by_cases hfr:zd ls d=k
   ·have e1:(zd ls d==(k:Int))=true:=by simp[hfr]
    have HS:Hid (natI (frD ls k (d+1))=natI (frD ls k d)++[(d:Int)]):=Lib.hid (by rw[Z4 hfr];simp[natI]);have hle:=z2G ls k d;have HGL:=Lib.hid (zc (frD ls k d));generalize frD ls k d=G at*;have hG:G.length≤40:=by omega
    clear hle HX
    go_wp2_with (at_builtin;refine wpList_append_own _ rfl _ _ 31 rfl (w.heap.size+1+1) 3 i0 (.int .i64 0) 1 8 Tryz.underlying31 hi iz0 iz1 iz2 rfl (by decide) _ _ _ rfl (World.ownsRow.alloc ho3 _) ⟨w3.heap.size,0,none⟩ 1 1 [.int .i64 _] rfl rfl (cell_one_new _ _ _) (by intro u hu;simp at hu;subst hu;rfl) (by rw[HGL.out];unfold maxLen;omega) (by rw[HGL.out];omega) (by simp;omega) ?_)
    intro v2 w2 hown2 hg2 hne2;have hbl2:Below w.heap.size w w2:=(hbl3.alloc hbl3.size (.cells #[.int .i64 (d:Int)] 3)).grown hg2 (by simp;have:=hbl3.size;omega) (fun k hk=>by have:=(ho3.lt k hk).1;omega);have hW2:Blk w2 w.heap.size 27 #[vn,.slice Al ls.length cl]:=(hg2.block _ (by simp;omega) (fun e=>by have:=(ho3.lt _ e.symm).1;omega)).trans (hW3.alloc _);have hK2:Blk w2 (w.heap.size+1) 3 #[.int .i64 k]:=(hg2.block _ (by simp;omega) (fun e=>by have:=(ho3.lt _ e.symm).1;omega)).trans (hK3.alloc _);have HO:=Lib.hid (OwnI.snoc hown2);clear hown2 hg2 ho3 hW3 hK3 hbl3 hne2 hfr;go_wp2;go_roundw
    case rel=>exact⟨d+1,by omega,by go_num,by rw[HS.out];exact HO.out,hW2,hK2,hbl2⟩
    case measure=>simp[intOf];omega
   ·have e1:(zd ls d==(k:Int))=false:=by simp[hfr]
    have HS:Hid (frD ls k (d+1)=frD ls k d):=Lib.hid (Xa hfr);clear hfr HX;go_wp2;go_roundw
    case rel=>exact⟨d+1,by omega,by go_num,by rw[HS.out];exact ho3,hW3,hK3,hbl3⟩
    case measure=>simp[intOf];omega
  ·have hdd:d=2*ls.length:=by omega
   subst hdd;obtain⟨a_0,a_1⟩:=hW.c2;have hAS:=Z9 ns ls k (2*ls.length);have h12:=z4B hwin k;have hmem:=ZL ls k (2*ls.length);generalize frD ls k (2*ls.length)=G at*
   rcases hcase:ho.2 with ⟨rfl,e1⟩|⟨gb,cap,cur,rfl,hbg,hh,hrest⟩
   ·have hG0:G=[]:=by rw[zc] at e1;exact List.eq_nil_of_length_eq_zero e1
    have HR:Hid (ardS ns ls k (2*ls.length)=[]):=Lib.hid (by rw[←hAS,hG0];rfl);clear hcase hAS hmem e1 ho
    go_wp2_with fail
    refine(z32 _ _ _).mono ?_
    rintro e w4 ⟨rfl,hb4⟩;go_wp2;go_ret
    exact⟨_,rfl,by rw[HR.out];exact OwnI.nil _ _,hbl.trans (hb4.mono hbl.size)⟩
   ·have hgz:=(ho.lt gb rfl).2
    have hgl:=zc G;rw[hgl] at ho⊢
    have hc:QT 268 #[.pointer (some ⟨w.heap.size,0,none⟩),.pointer (some ⟨w.heap.size+1,0,none⟩)] G (cmpD ns ls k) (some gb) wr:=by
     intro v d e hd he hgv;have hbv:Below w.heap.size w v:=hbl.grown hgv hbl.size (fun k hk=>by cases hk;omega);have hWv:=hW.grown hgv (by omega);have hKv:=hK.grown hgv (by omega);have kk:=hKv.cell 0;simp only[List.getElem?_toArray,List.getElem?_cons_zero] at kk
     exact z5u w.heap.size (w.heap.size+1) vn (.slice Al ls.length cl) ns ls k d e v hWv kk hKv.lt (hn.below hbv) (hl.below hbv) hk (hmem d hd).1 (hmem e he).1 hwin
    have HC:=Lib.hid hc;have HO:=Lib.hid ho;have HAS:=Lib.hid hAS;clear hc ho hcase hh hrest hgl hmem hAS
    go_wp2_with fail
    refine(z3i (w.heap.size+1+1) _ gb cap _ G (cmpD ns ls k) (bfD ns ls k) _ HC.out (z5t ns ls k) HO.out h12 (enters_of Tryz.func268 (by kernel_rfl) rfl)).mono ?_
    rintro e w4 ⟨rfl,ho4,hg4⟩;rw[HAS.out] at ho4;go_wp2;go_ret
    exact⟨_,rfl,ho4.mono (by omega),hbl.grown hg4 hbl.size (fun k hk=>by cases hk;omega)⟩
def qN (F:List (List Nat)) (d:Nat):Bool:=F.any (·.contains d)
def zo (ns ls:List Pr):Nat→List (List Nat)
 |0=> []
 |m+1=>if qN (zo ns ls m) m then zo ns ls m else zo ns ls m++[qe ns ls m]
theorem yD {ns ls:List Pr} {m:Nat} (h:qN (zo ns ls m) m=true):zo ns ls (m+1)=zo ns ls m:=by simp[zo,h]
theorem vo {ns ls:List Pr} {m:Nat} (h:qN (zo ns ls m) m=false):zo ns ls (m+1)=zo ns ls m++[qe ns ls m]:=by simp[zo,h]
def zk (ns ls:List Pr):List (List Nat):=zo ns ls (2*ls.length)
theorem vJ (ns ls:List Pr):∀m,(zo ns ls m).length ≤m
 |0=>by simp[zo]
 |m+1=>by
  have:=vJ ns ls m
  cases h:qN (zo ns ls m) m
  ·rw[vo h];simp;omega
  ·rw[yD h];omega
theorem kC {ns ls:List Pr} (hld:∀j:Nat,j<ls.length→zj ns (ndI ls j)=true) {d:Nat} (hd:d<2*ls.length):∀e∈qe ns ls d,e<2*ls.length:=by
 intro e he;unfold qe qV at he;rw[List.mem_map] at he;obtain⟨i,_,rfl⟩:=he;exact kl hld hd i
theorem Jo {ns ls:List Pr} (hld:∀j:Nat,j<ls.length→zj ns (ndI ls j)=true) {d:Nat} (hd:d<2*ls.length):0<(qe ns ls d).length ∧(qe ns ls d).length ≤2*ls.length:=by
 unfold qe;rw[vB];have:=vx hld hd;exact⟨this.1,this.2.1⟩
theorem Qa {ns ls:List Pr} (hld:∀j:Nat,j<ls.length→zj ns (ndI ls j)=true):∀m,m≤2*ls.length→∀f∈zo ns ls m,(∀e∈f,e<2*ls.length)∧0<f.length∧f.length≤2*ls.length
 |0,_,f,hf=>by simp[zo] at hf
 |m+1,hm,f,hf=>by
  cases h:qN (zo ns ls m) m
  ·rw[vo h,List.mem_append,List.mem_singleton] at hf
   rcases hf with hf|rfl
   ·exact Qa hld m (by omega) f hf
   ·exact⟨kC hld (by omega),Jo hld (by omega)⟩
  ·rw[yD h] at hf;exact Qa hld m (by omega) f hf
def jP (ns ls:List Pr) (d:Nat):Int:=(ndI ns (zd ls d)).1*(ndI ns (dTo ls d)).2 -(ndI ns (zd ls d)).2*(ndI ns (dTo ls d)).1
def jH (ns ls:List Pr) (f:List Nat):Nat→Int
 |0=>0
 |k+1=>jH ns ls f k+jP ns ls (f.getD k 0)
def yj (ns ls:List Pr) (f:List Nat):Int:=jH ns ls f f.length
theorem z40 {ns ls:List Pr} (h:q7 ns ls) {d:Nat} (hd:d<2*ls.length): -400≤jP ns ls d∧jP ns ls d≤400:=by
 have hld:∀j:Nat,j<ls.length→zj ns (ndI ls j)=true:=fun j hj=>(h.2.2.2.2.2 j hj).1
 obtain⟨t,ht,htn⟩:=jh hld hd;obtain⟨u,hu,hun⟩:=qh hld hd;unfold jP;rw[ht,hu];obtain⟨a0,a1,a2,a3⟩:=zr (jn h.2.2.2.1 t htn);obtain⟨b0,b1,b2,b3⟩:=zr (jn h.2.2.2.1 u hun);generalize (ndI ns (t:Int)).1=x at*;generalize (ndI ns (t:Int)).2=y at*;generalize (ndI ns (u:Int)).1=p at*;generalize (ndI ns (u:Int)).2=q at*;have m1:p*y≤20*20:=Int.mul_le_mul b1 a3 a2 (by omega);have m2:q*x≤20*20:=Int.mul_le_mul b3 a1 a0 (by omega);have m3:0≤p*y:=Int.mul_nonneg b0 a2;have m4:0≤q*x:=Int.mul_nonneg b2 a0;omega
theorem J9 {ns ls:List Pr} (h:q7 ns ls) {f:List Nat} (hf:∀e∈f,e<2*ls.length):∀k,k≤f.length→ -(400*k:Int)≤jH ns ls f k∧jH ns ls f k≤400*k
 |0,_=>by simp[jH]
 |k+1,hk=>by
  have ih:=J9 h hf k (by omega);have hm:f.getD k 0∈f:=by rw[List.getD,List.getElem?_eq_getElem (by omega)];exact List.getElem_mem _
  have hc:=z40 h (hf _ hm);have e:jH ns ls f (k+1)=jH ns ls f k+jP ns ls (f.getD k 0):=rfl;omega
def qZ (ns ls:List Pr) (F:List (List Nat)):Nat→Nat→Int
 |0,_=> -1
 |m+1,k=>if yj ns ls (F.getD k [])≤0 then(k:Int) else qZ ns ls F m (k+1)
def z4J (ns ls:List Pr) (F:List (List Nat)):Int:=qZ ns ls F F.length 0
theorem xT (ns ls:List Pr) (d i:Nat):∀j,orbD ns ls d (i+j)=orbD ns ls (orbD ns ls d i) j
 |0=>rfl
 |j+1=>by show qv ns ls (orbD ns ls d (i+j))=_;rw[xT ns ls d i j];rfl
theorem z2u {ns ls:List Pr} {d p:Nat} (h:orbD ns ls d p=d):∀q,orbD ns ls d (p*q)=d
 |0=>rfl
 |q+1=>by rw[Nat.mul_succ,xT,z2u h q,h]
section
variable {ns ls:List Pr} (hld:∀j:Nat,j<ls.length→zj ns (ndI ls j)=true)
include hld
theorem jM {d:Nat} (hd:d<2*ls.length) (e:Nat):e∈qe ns ls d↔∃i,orbD ns ls d i=e:=by
 obtain⟨h1,_,h3,_⟩:=vx hld hd;unfold qe qV;rw[List.mem_map]
 constructor
 ·rintro⟨i,_,h⟩;exact⟨i,h⟩
 ·rintro⟨i,rfl⟩
  refine⟨i%perD ns ls d,List.mem_range.2 (Nat.mod_lt _ h1),?_⟩
  have e:orbD ns ls d (perD ns ls d*(i/perD ns ls d)+i%perD ns ls d)=orbD ns ls d (i%perD ns ls d):=by rw[xT,z2u h3]
  rw[←e,Nat.div_add_mod]
theorem Vf {d:Nat} (hd:d<2*ls.length):d∈qe ns ls d:=(jM hld hd d).2 ⟨0,rfl⟩
theorem z1f {d:Nat} (hd:d<2*ls.length):(qe ns ls d).Nodup :=by
 obtain⟨_,_,_,h4⟩:=vx hld hd;unfold qe qV;rw[List.nodup_iff_pairwise_ne,List.pairwise_map];refine List.Pairwise.imp_of_mem (R:=fun a b=>a<b) (fun {a b} ha hb hlt he=>?_) (List.pairwise_lt_range)
 have hb':=List.mem_range.1 hb;have:=ZC hld hd a (b -a) (by rw[he,show a+(b -a)=b by omega]);exact h4 (b -a) (by omega) (by omega) this
theorem z3z {d e:Nat} (hd:d<2*ls.length) (h:e∈qe ns ls d):d∈qe ns ls e:=by
 have he:=kC hld hd e h;obtain⟨_,_,h3,_⟩:=vx hld hd;unfold qe qV at h;rw[List.mem_map] at h;obtain⟨i,hi,rfl⟩:=h;have hi':=List.mem_range.1 hi;refine(jM hld he d).2 ⟨perD ns ls d -i,?_⟩
 rw[←xT,show i+(perD ns ls d -i)=perD ns ls d by omega,h3]
theorem z13 {d e x:Nat} (hd:d<2*ls.length) (h:e∈qe ns ls d) (h2:x∈qe ns ls e):x∈qe ns ls d:=by
 obtain⟨i,hi⟩:=(jM hld hd e).1 h;obtain⟨j,hj⟩:=(jM hld (kC hld hd e h) x).1 h2;exact(jM hld hd x).2 ⟨i+j,by rw[xT,hi,hj]⟩
theorem j7:∀m,m≤2*ls.length→(∀d,d<m→d∈(zo ns ls m).flatten)∧(zo ns ls m).flatten.Nodup ∧(∀f∈zo ns ls m,∃d,d<2*ls.length∧f=qe ns ls d)
 |0,_=>⟨fun d h=>absurd h (by omega),by simp[zo],by simp[zo]⟩
 |m+1,hm=>by
  obtain⟨h1,h2,h3⟩:=j7 m (by omega)
  cases h:qN (zo ns ls m) m
  ·rw[vo h]
   have hnm:m∉(zo ns ls m).flatten :=by
    intro hc;rw[List.mem_flatten] at hc;obtain⟨f,hf,hmf⟩:=hc
    have:qN (zo ns ls m) m=true:=by
     unfold qN;rw[List.any_eq_true];exact⟨f,hf,by simpa using hmf⟩
    rw[h] at this;cases this
   refine⟨fun d hd=>?_,?_,fun f hf=>?_⟩
   ·rw[List.flatten_append,List.mem_append]
    by_cases he:d=m
    ·subst he;right;simpa using Vf hld (show d<2*ls.length by omega)
    ·exact .inl (h1 d (by omega))
   ·rw[List.flatten_append,List.nodup_append]
    refine⟨h2,by simpa using z1f hld (show m<2*ls.length by omega),fun x hx y hy=>?_⟩
    rintro rfl;have hy':x∈qe ns ls m:=by simpa using hy
    rw[List.mem_flatten] at hx;obtain⟨f,hf,hxf⟩:=hx;obtain⟨d,hd,rfl⟩:=h3 f hf
    apply hnm
    rw[List.mem_flatten];exact⟨_,hf,z13 hld hd hxf (z3z hld (by omega) hy')⟩
   ·rw[List.mem_append,List.mem_singleton] at hf
    rcases hf with hf|rfl
    ·exact h3 f hf
    ·exact⟨m,by omega,rfl⟩
  ·rw[yD h]
   refine⟨fun d hd=>?_,h2,h3⟩
   by_cases he:d=m
   ·subst he
    unfold qN at h;rw[List.any_eq_true] at h;obtain⟨f,hf,hm'⟩:=h;rw[List.mem_flatten];exact⟨f,hf,by simpa using hm'⟩
   ·exact h1 d (by omega)
theorem z1x:(zk ns ls).flatten.Perm (List.range (2*ls.length)):=by
 obtain⟨h1,h2,h3⟩:=j7 hld (2*ls.length) (Nat.le_refl _);refine(List.perm_ext_iff_of_nodup h2 List.nodup_range).2 (fun d=>?_)
 rw[List.mem_range]
 constructor
 ·intro h
  rw[List.mem_flatten] at h;obtain⟨f,hf,hd⟩:=h;obtain⟨e,he,rfl⟩:=h3 f hf;exact kC hld he d hd
 ·exact h1 d
end
def sumC (ns ls:List Pr) (f:List Nat):Int:=(f.map (jP ns ls)).sum
theorem yL (ns ls:List Pr) (a b:List Nat):sumC ns ls (a++b)=sumC ns ls a+sumC ns ls b:=by simp[sumC]
theorem JI (ns ls:List Pr) (f:List Nat):∀k,k≤f.length→jH ns ls f k=sumC ns ls (f.take k)
 |0,_=>rfl
 |k+1,h=>by
  unfold jH;have hk:k<f.length:=by omega
  rw[JI ns ls f k (by omega),List.take_succ_eq_append_getElem hk,yL,show f.getD k 0=f[k] by simp[List.getD,hk]];simp[sumC]
theorem z39 (ns ls:List Pr) (f:List Nat):yj ns ls f=sumC ns ls f:=by
 unfold yj;rw[JI ns ls f f.length (Nat.le_refl _),List.take_length]
theorem z3D (ns ls:List Pr) {a b:List Nat} (h:a.Perm b):sumC ns ls a=sumC ns ls b:=by
 induction h with
 |nil=>rfl
 |cons x _ ih=>simp only[sumC,List.map_cons,List.sum_cons] at ih⊢;omega
 |swap x y l=>simp only[sumC,List.map_cons,List.sum_cons];omega
 |trans _ _ h1 h2=>omega
theorem z1P (ns ls:List Pr) (j:Nat):jP ns ls (2*j)+jP ns ls (2*j+1)=0:=by
 have e1:zd ls (2*j+1)=dTo ls (2*j):=by unfold zd dTo;rw[if_pos (by omega),if_neg (by omega),show(2*j+1)/2=j by omega,show 2*j/2=j by omega]
 have e2:dTo ls (2*j+1)=zd ls (2*j):=by unfold zd dTo;rw[if_pos (by omega),if_neg (by omega),show(2*j+1)/2=j by omega,show 2*j/2=j by omega]
 unfold jP;rw[e1,e2];rw[Int.mul_comm (ndI ns (dTo ls (2*j))).1,Int.mul_comm (ndI ns (dTo ls (2*j))).2];omega
theorem Vt (ns ls:List Pr):∀m,sumC ns ls (List.range (2*m))=0
 |0=>rfl
 |m+1=>by
  rw[show 2*(m+1)=2*m+1+1 by omega,List.range_succ,List.range_succ,yL,yL,Vt ns ls m];have:=z1P ns ls m;simp[sumC]
  omega
theorem Vd (ns ls:List Pr):∀F:List (List Nat),sumC ns ls F.flatten=(F.map (yj ns ls)).sum
 | []=>rfl
 |f::F=>by rw[List.flatten_cons,yL,Vd ns ls F,List.map_cons,List.sum_cons,z39]
theorem z2m:∀l:List Int,l≠ []→(∀x∈l,0<x)→0<l.sum
 | [],h,_=>absurd rfl h
 | [x],_,h=>by have:=h x (by simp);simpa using this
 |x::y::l,_,h=>by
  have h1:=z2m (y::l) (by simp) (fun z hz=>h z (by simp at hz⊢;right;exact hz));have h2:=h x (by simp);rw[List.sum_cons];omega
theorem z4q {ns ls:List Pr} (hld:∀j:Nat,j<ls.length→zj ns (ndI ls j)=true) (hl:0<ls.length):∃k,k<(zk ns ls).length ∧yj ns ls ((zk ns ls).getD k [])≤0:=by
 apply Classical.byContradiction
 intro hc;have hs:=Vd ns ls (zk ns ls);rw[z3D ns ls (z1x hld),Vt] at hs
 have hne:(zk ns ls).map (yj ns ls)≠ []:=by
  intro he;have h0:=(j7 hld (2*ls.length) (Nat.le_refl _)).1 0 (by omega);have:zk ns ls=[]:=by simpa using he
  unfold zk at this;rw[this] at h0;simp at h0
 have hp:=z2m _ hne (fun x hx=>by
  rw[List.mem_map] at hx;obtain⟨f,hf,rfl⟩:=hx;obtain⟨k,hk,rfl⟩:=List.getElem_of_mem hf
  apply Classical.byContradiction
  intro hle;refine hc ⟨k,hk,?_⟩
  rw[List.getD,List.getElem?_eq_getElem hk];simp only[Option.getD_some]
  omega)
 omega
theorem QH (ns ls:List Pr) (F:List (List Nat)):∀(m k:Nat),(∃q,k≤q∧q<k+m∧yj ns ls (F.getD q [])≤0)→∃q:Nat,qZ ns ls F m k=q∧k≤q∧q<k+m∧yj ns ls (F.getD q [])≤0
 |0,k,⟨q,h1,h2,_⟩=>absurd h2 (by omega)
 |m+1,k,⟨q,h1,h2,h3⟩=>by
  unfold qZ
  split
  ·rename_i h;exact⟨k,rfl,Nat.le_refl _,by omega,h⟩
  ·rename_i h
   have hq:q≠k:=fun e=>h (e▸h3)
   obtain⟨r,g1,g2,g3,g4⟩:=QH ns ls F m (k+1) ⟨q,by omega,by omega,h3⟩;exact⟨r,g1,by omega,by omega,g4⟩
def idxN (l:List Nat) (d:Nat):Int:=if d∈l then(l.idxOf d:Int) else -1
theorem z2c {l:List Nat} {d:Nat} (h:d∉l):idxN l d= -1:=by simp[idxN,h]
theorem z2i {l:List Nat} {d k:Nat} (hk:k<l.length) (h:d∉l.take k) (hp:l.getD k 0=d):idxN l d=k:=by
 have hp':l[k]=d:=by simpa[List.getD,hk] using hp
 have e:l=l.take k++d::l.drop (k+1):=by
  rw[←hp',←List.drop_eq_getElem_cons hk,List.take_append_drop]
 have hm:d∈l:=by rw[e];simp
 unfold idxN;rw[if_pos hm]
 have:l.idxOf d=k:=by
  rw[e,List.idxOf_append,if_neg h,List.idxOf_cons_self];simp;omega
 rw[this]
theorem qQ (l:List Nat) (k:Nat):(natI l).getD k 0=((l.getD k 0:Nat):Int):=by
 unfold natI;simp only[List.getD,List.getElem?_map]
 cases l[k]? <;>rfl
theorem kU {l:List Nat} {d k:Nat} (hk:k<l.length) (h:d∉l.take k) (hne:l.getD k 0≠d):d∉l.take (k+1):=by
 rw[List.take_succ_eq_append_getElem hk,List.mem_append,List.mem_singleton];rintro(h2|h2)
 ·exact h h2
 ·apply hne
  rw[h2];simp[List.getD,hk]
theorem xB (v:Value) (l:List Nat) (d:Nat) (w:World) (h:RI w v (natI l)):
  Calls Tryz.prog 85 #[v,.int .i64 d] w fun e w'=>e= .returned (.int .i64 (idxN l d))∧w=w':=by
 obtain⟨A,c,rfl,hc,hm,hcell⟩:=h.form;rw[zc] at hc hm hcell⊢;unfold maxLen at hm;clear h
 go_enter Tryz.func85,Tryz.ntmps85
 go_wp2
 go_loop [8] (fun i=>∃k:Nat,k≤l.length∧i= .int .i64 k∧Hid (d∉l.take k)) (fun i=>l.length -(intOf i).toNat)
 case atStart=>exact⟨0,Nat.zero_le _,rfl,Lib.hid (by simp)⟩
 case round=>
  obtain⟨k,hk,rfl,HT⟩:=hrel
  by_cases hlt:k<l.length
  ·obtain⟨b,off,rfl,hb,hcl⟩:=hcell (by omega)
   have hck:=hcl k hlt;rw[qQ] at hck;clear hcl hcell;have HS:=Lib.hid (fun hne=>kU hlt HT.out hne);have HY:=Lib.hid (fun he=>z2i hlt HT.out he);generalize l.getD k 0=x at*
   by_cases he:x=d
   ·have e1:((d:Int)==(x:Int))=true:=by simp[he]
    have e2:((x:Int)==(d:Int))=true:=by simp[he]
    have HX:=Lib.hid (HY.out he);clear he;go_wp2;go_ret
    exact⟨ze HX.out.symm,rfl⟩
   ·have e1:((d:Int)==(x:Int))=false:=by simp;omega
    have e2:((x:Int)==(d:Int))=false:=by simp;omega
    have HX:=Lib.hid (HS.out he);clear he;go_wp2;go_round
    case rel=>exact⟨k+1,by omega,by go_num,HX⟩
    case measure=>simp[intOf];omega
  ·have hkk:l.length≤k:=by omega
   have h:=HT.out;rw[List.take_of_length_le hkk] at h;have HX:Hid (idxN l d= -1):=Lib.hid (z2c h);clear h hcell;go_wp2;go_ret
   exact⟨ze HX.out.symm,rfl⟩
theorem z5m {l:List Nat} {d:Nat} (h:d∈l):idxN l d=(l.idxOf d:Int):=by simp[idxN,h]
theorem Ja {ns ls:List Pr} (hwin:q7 ns ls) {d:Nat} (hd:d<2*ls.length):∃(t:Nat) (G:List Nat) (i q:Nat),zd ls d=(t:Int)∧t<ns.length∧ardS ns ls t (2*ls.length)=G∧idxN G d=(i:Int)∧i<G.length∧G.length≤12∧G.getD i 0=d∧d∉G.take i∧
  (i+G.length -1)%G.length=q∧q<G.length∧G.getD q 0=ye ns ls d:=by
 have hld:∀j:Nat,j<ls.length→zj ns (ndI ls j)=true:=fun j hj=>(hwin.2.2.2.2.2 j hj).1
 obtain⟨t,ht,htn⟩:=qh hld hd;have hr:qi ns ls d=ardS ns ls t (2*ls.length):=by unfold qi;rw[ht,Int.toNat_natCast]
 have hm:=vu hld hd;have hil:=List.idxOf_lt_length_of_mem hm;have hpos:=List.length_pos_of_mem hm;have h12:=z4B hwin t;have hAS:=Z9 ns ls t (2*ls.length);have hlen:(qi ns ls d).length =(frD ls t (2*ls.length)).length :=by rw[hr,←hAS,ja _ _ _ (Nat.le_refl _)]
 refine⟨t,qi ns ls d,(qi ns ls d).idxOf d,_,ht,htn,hr.symm,z5m hm,hil,by omega,?_,?_,rfl,Nat.mod_lt _ hpos,rfl⟩
 ·rw[List.getD,List.getElem?_eq_getElem hil,List.getElem_idxOf hil];rfl
 ·intro hc
  have hn:(qi ns ls d).Nodup :=yA _ _ _ _;obtain⟨j,hj,e⟩:=List.getElem_of_mem hc;rw[List.length_take] at hj;rw[List.getElem_take] at e;have e2:=List.getElem_idxOf hil;have:=(List.getElem_inj hn (h₀:=by omega) (h₁:=hil)).1 (e.trans e2.symm);omega
theorem XU (vn vl:Value) (ns ls:List Pr) (d:Nat) (w:World) (hn:RP w vn ns) (hl:RP w vl ls) (hd:d<2*ls.length) (hwin:q7 ns ls):
  Calls Tryz.prog 245 #[.agg #[vn,vl],.int .i64 d,.int .i64 (-1)] w fun e w'=>e= .returned (.int .i64 (ye ns ls d))∧Below w.heap.size w w':=by
 obtain⟨t,G,i,q,ht,htn,hG,hidx,hil,h12,_,_,hq,hql,hlast⟩:=Ja hwin hd;have HW:=Lib.hid hwin;have B0:Blk (w.alloc (.cells #[vn,vl] 27)) w.heap.size 27 #[vn,vl]:=Blk.newAt rfl;have hb0:Below w.heap.size w (w.alloc (.cells #[vn,vl] 27)):=by exact bel_
 have HBF:=Lib.hid (fun (v:World) (hv:Below w.heap.size w v)=>jW vn vl ls d v (hl.below hv) hd);have HAR:=Lib.hid (fun (v:World) (hv:Below w.heap.size w v)=>z09 vn vl ns ls t v (hn.below hv) (hl.below hv) htn HW.out);rw[ht] at HBF;rw[hG] at HAR;rw[←hlast];obtain⟨x,hx⟩:∃x,G.getD q 0=x:=⟨_,rfl⟩;rw[hx];have HX:=Lib.hid hx;clear hx;have HID:=Lib.hid hidx;clear hidx hlast hG hwin ht;have HQ:=Lib.hid hq;clear hq
 go_enter Tryz.func245,Tryz.ntmps245
 go_wp2_with fail
 go_region_held3 (fun w'=>w'.cell? ⟨w.heap.size,0,none⟩=some vn∧w'.cell? ⟨w.heap.size,1,none⟩=some vl)
  (go_keep)
  (first|(go_at_call 241;refine(HBF.out _ (by exact bel_)).mono ?_;rintro e w1 ⟨rfl,hb1⟩;(first|(with_reducible have hcf1:=z8 hb1)|have hcf1:=bcell hb1);obtain⟨hc1,hf1⟩:=hcf1;have hz1:=hb1.size;(try simp at hz1);(try have hp1_0:=p0_ w w1);(try have hp1_1:=p1_ w w1);(try have hp1_2:=p2_ w w1);(try have hp1_3:=p3_ w w1);have hbw1:Below w.heap.size w w1:=(by exact bel_))|(go_at_call 262;refine(HAR.out _ (by exact bel_)).mono ?_;rintro e w2 ⟨v2,rfl,ho2,hb2⟩;(first|(with_reducible have hcf2:=z8 hb2)|have hcf2:=bcell hb2);obtain⟨hc2,hf2⟩:=hcf2;have hz2:=hb2.size;(try simp at hz2);(try have hp2_0:=p0_ w w2);(try have hp2_1:=p1_ w w2);(try have hp2_2:=p2_ w w2);(try have hp2_3:=p3_ w w2)))
 have hbw2:Below w.heap.size w w2:=by exact bel_
 have hri:=ho2.reads;obtain⟨A,c,rfl,hc,hm,hcell⟩:=hri.form;rw[zc] at hc hm hcell hri⊢;obtain⟨b,off,rfl,hbb,hcl⟩:=hcell (by omega);have hck:=hcl q hql;rw[qQ] at hck;clear hcl hcell hc1 hf1 hc2 hf2;rw[HX.out] at hck;have e1:(i:Int)+ -1+(G.length:Int)=((i+G.length -1:Nat):Int):=by omega
 have e2:((i+G.length -1:Nat):Int).tmod (G.length:Int)=(q:Int):=by
  rw[Int.tmod_eq_emod_of_nonneg (Int.natCast_nonneg _),←Int.natCast_emod,HQ.out]
 have e3:((G.length:Int)==0)=false:=beq_eq_false_iff_ne.2 (by omega);have n0:(G.length:Int)≠0:=by omega
 have i1:(0:Int)≤(q:Int):=by omega
 have i2:(q:Int)<(G.length:Int):=by omega
 go_wp2_with fail
 refine(xB _ G d _ hri).mono ?_
 rintro e w3 ⟨rfl,rfl⟩;rw[HID.out];go_wp2;go_ret
 exact⟨rfl,by exact bel_⟩
theorem z1F (vn vl:Value) (ns ls:List Pr) (d:Nat) (w:World) (hn:RP w vn ns) (hl:RP w vl ls) (hd:d<2*ls.length) (hwin:q7 ns ls):
  Calls Tryz.prog 261 #[.agg #[vn,vl],.int .i64 d,.int .i64 (-1)] w fun e w'=>e= .returned (.int .i64 (ye ns ls d))∧Below w.heap.size w w':=by
 obtain⟨t,G,i,q,ht,htn,hG,hidx,hil,h12,hgi,hni,hq,hql,hlast⟩:=Ja hwin hd;have hld:∀j:Nat,j<ls.length→zj ns (ndI ls j)=true:=fun j hj=>(hwin.2.2.2.2.2 j hj).1
 have HLD:=Lib.hid hld;have HNI:=Lib.hid hni;have HGI:=Lib.hid hgi;have HM:=Lib.hid (And.intro hwin.2.2.1 hwin.2.1);rw[←hlast];obtain⟨x,hx⟩:∃x,G.getD q 0=x:=⟨_,rfl⟩;rw[hx];have HX:=Lib.hid hx;clear hx;have HG:=Lib.hid hG;have HT:=Lib.hid ht;clear hidx hlast hG hwin ht hni hgi hld;have HQ:=Lib.hid hq;clear hq
 go_enter Tryz.func261,Tryz.ntmps261
 go_wp2_with fail
 refine(vr _ _ ls d _ (hl.below (by exact bel_)) hd).mono ?_
 rintro e w1 ⟨rfl,hb1⟩;(first|(with_reducible have hcf1:=z8 hb1)|have hcf1:=bcell hb1);obtain⟨hc1,hf1⟩:=hcf1;have hz1:=hb1.size;(try simp at hz1);(try have hp1_0:=p0_ w w1);(try have hp1_1:=p1_ w w1);(try have hp1_2:=p2_ w w1);(try have hp1_3:=p3_ w w1)
 have hbw1:Below w.heap.size w w1:=by exact bel_
 rw[HT.out]
 go_wp2_with fail
 refine(Xu _ _ ns ls t _ (hn.below hbw1) (hl.below hbw1) htn HM.out.1 HM.out.2 HLD.out).mono ?_
 rw[HG.out];rintro e w2 ⟨v2,rfl,ho2,hb2⟩;have hbw2:=hbw1.trans (hb2.mono hbw1.size);have hri:=ho2.reads;obtain⟨A,c,rfl,hc,hm,hcell⟩:=hri.form;rw[zc] at hc hm hcell hri⊢;obtain⟨b,off,rfl,hbb,hcl⟩:=hcell (by omega);have hck:=hcl q hql;rw[qQ] at hck;have HCL:=Lib.hid hcl;clear hcl hcell hc1 hf1 hb1 hb2 ho2;rw[HX.out] at hck;have e1:(i:Int)+ -1+(G.length:Int)=((i+G.length -1:Nat):Int):=by omega
 have e2:((i+G.length -1:Nat):Int).tmod (G.length:Int)=(q:Int):=by
  rw[Int.tmod_eq_emod_of_nonneg (Int.natCast_nonneg _),←Int.natCast_emod,HQ.out]
 have e3:((G.length:Int)==0)=false:=beq_eq_false_iff_ne.2 (by omega);have n0:(G.length:Int)≠0:=by omega
 have i1:(0:Int)≤(q:Int):=by omega
 have i2:(q:Int)<(G.length:Int):=by omega
 go_wp2
 go_loop [10] (fun y=>∃k:Nat,k≤i∧y= .int .i64 k) (fun y=>i+1 -(intOf y).toNat)
 case atStart=>exact⟨0,Nat.zero_le _,rfl⟩
 case round=>
  obtain⟨k,hk,rfl⟩:=hrel;have hkl:k<G.length:=by omega
  have hkc:=HCL.out k hkl;rw[qQ] at hkc
  by_cases hki:k=i
  ·subst hki
   rw[HGI.out] at hkc;have e4:((d:Int)==(d:Int))=true:=by simp
   go_wp2;go_ret
   exact⟨rfl,hbw2⟩
  ·have hne:G.getD k 0≠d:=by
    intro h
    apply HNI.out
    rw[←h,List.getD,List.getElem?_eq_getElem hkl];simp only[Option.getD_some]
    rw[List.mem_take_iff_getElem];exact⟨k,by omega,rfl⟩
   generalize G.getD k 0=y at*;have e4:((y:Int)==(d:Int))=false:=by simp;omega
   clear hne;go_wp2;go_round
   case rel=>exact⟨k+1,by omega,by go_num⟩
   case measure=>simp[intOf];omega
theorem vQ (d:Nat) (h:d<1000000):bits .xor .i64 (d:Int) 1=((twin d:Nat):Int):=by
 have x:=vA (a:=d) (b:=1) (by omega) (by omega);rw[z0c] at x;exact x
theorem z3l (vn vl:Value) (ns ls:List Pr) (d:Nat) (w:World) (hn:RP w vn ns) (hl:RP w vl ls) (hd:d<2*ls.length) (hwin:q7 ns ls):
  Calls Tryz.prog 244 #[.agg #[vn,vl],.int .i64 d] w fun e w'=>e= .returned (.int .i64 (qv ns ls d))∧Below w.heap.size w w':=by
 have hm20:=hwin.2.2.1;have x1:=vQ d (by omega);have hb0:Below w.heap.size w (w.alloc (.cells #[vn,vl] 27)):=by exact bel_
 have HC:=Lib.hid (fun (v:World) (hv:Below w.heap.size w v)=>z1F vn vl ns ls (twin d) v (hn.below hv) (hl.below hv) (jw hd) hwin);have HR:Hid (qv ns ls d=ye ns ls (twin d)):=Lib.hid rfl;generalize twin d=e at*;clear hwin
 go_enter Tryz.func244,Tryz.ntmps244
 go_wp2_with fail
 refine(HC.out _ hb0).mono ?_
 rintro e w1 ⟨rfl,hb1⟩;(first|(with_reducible have hcf1:=z8 hb1)|have hcf1:=bcell hb1);obtain⟨hc1,hf1⟩:=hcf1;have hz1:=hb1.size;(try simp at hz1);(try have hp1_0:=p0_ w w1);(try have hp1_1:=p1_ w w1);(try have hp1_2:=p2_ w w1);(try have hp1_3:=p3_ w w1)
 go_wp2;go_ret
 exact⟨ze (by rw[HR.out]),by exact bel_⟩
end Go.Proofs.YtnjcpljhmhdhkaaGreat
