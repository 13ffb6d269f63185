/- part 9 -/
import Derived.Test.YtnjcpljhmhdhkaaGreatTPk8
set_option linter.unusedSimpArgs false
set_option linter.unusedVariables false
set_option maxRecDepth 100000
set_option maxHeartbeats 8000000
namespace Go.Proofs.YtnjcpljhmhdhkaaGreat
open Go.RowKit
def posN (bf:Nat→Bool) (G:List Nat):Nat→Nat
 |0=>0
 |a+1=>if bf (G.getD a 0) then posN bf G a else a+1
def insN (bf:Nat→Bool) (d:Nat) (G:List Nat):List Nat:=G.take (posN bf G G.length)++d::G.drop (posN bf G G.length)
theorem Vw (bf:Nat→Bool) (G:List Nat):∀a,posN bf G a≤a
 |0=>Nat.le_refl _
 |a+1=>by
  unfold posN
  split
  ·exact Nat.le_succ_of_le (Vw bf G a)
  ·exact Nat.le_refl _
theorem QU (bf:Nat→Bool) (d:Nat) (G:List Nat):(insN bf d G).length =G.length+1:=by
 have:=Vw bf G G.length;simp[insN];omega
theorem Jg {bf:Nat→Bool} {d e:Nat} {G:List Nat} (h:e∈insN bf d G):e=d∨e∈G:=by
 unfold insN at h;rw[List.mem_append,List.mem_cons] at h
 rcases h with h|h|h
 ·exact .inr (List.mem_of_mem_take h)
 ·exact .inl h
 ·exact .inr (List.mem_of_mem_drop h)
def bfD (ns ls:List Pr) (k:Nat) (d e:Nat):Bool:=
 befB (ndI ns k).1 (ndI ns k).2 (ndI ns (dTo ls d)).1 (ndI ns (dTo ls d)).2 (ndI ns (dTo ls e)).1 (ndI ns (dTo ls e)).2
def ardS (ns ls:List Pr) (k:Nat):Nat→List Nat
 |0=> []
 |d+1=>if zd ls d=k then insN (bfD ns ls k d) d (ardS ns ls k d) else ardS ns ls k d
theorem kO {ns ls:List Pr} {k d:Nat} (h:¬zd ls d=k):ardS ns ls k (d+1)=ardS ns ls k d:=by simp[ardS,h]
theorem vm {ns ls:List Pr} {k d:Nat} (h:zd ls d=k):ardS ns ls k (d+1)=insN (bfD ns ls k d) d (ardS ns ls k d):=by simp[ardS,h]
theorem Xg (ns ls:List Pr) (k:Nat):∀d e,e∈ardS ns ls k d→e<d
 |0,e,h=>by simp[ardS] at h
 |d+1,e,h=>by
  unfold ardS at h
  split at h
  ·rcases Jg h with rfl|h
   ·omega
   ·have:=Xg ns ls k d e h;omega
  ·have:=Xg ns ls k d e h;omega
theorem Jm (ns ls:List Pr) (k:Nat):∀d,(ardS ns ls k d).length ≤d
 |0=>by simp[ardS]
 |d+1=>by
  unfold ardS
  split
  ·rw[QU];have:=Jm ns ls k d;omega
  ·have:=Jm ns ls k d;omega
def natI (G:List Nat):List Int:=G.map fun (d:Nat)=>(d:Int)
theorem zc (G:List Nat):(natI G).length =G.length:=by simp[natI]
theorem OwnI.made {base:Nat} {w:World} {g:Nat} (hg:g=w.heap.size) (hb:base≤w.heap.size):OwnI base (w.alloc (.cells #[] 3)) (.slice (some ⟨g,0,none⟩) 0 0) []:=by
 subst hg;exact World.ownsRow_made _ _ _ hb (by simp) (by simp[maxLen])
theorem OwnI.form {base:Nat} {w:World} {v:Value} {zs:List Int} (h:OwnI base w v zs):∃A c,v= .slice A zs.length c:=by
 rcases h.2 with ⟨rfl,hn⟩|⟨g,cap,cur,rfl,_⟩
 ·exact⟨none,0,by rw[hn]⟩
 ·exact⟨_,_,rfl⟩
def gapI (G:List Nat) (at':Nat) (y:Int):List Int:=natI (G.take at')++y::natI (G.drop at')
theorem qT (G:List Nat) (a:Nat) (y:Int) (h:a≤G.length):(gapI G a y).length =G.length+1:=by
 simp[gapI,natI];omega
theorem Ql (G:List Nat) (y:Int):gapI G G.length y=natI G++[y]:=by simp[gapI,natI]
theorem ka (G:List Nat) (a:Nat) (y:Int) (h:a<G.length):(gapI G (a+1) y).getD a 0=((G.getD a 0:Nat):Int):=by
 unfold gapI natI;rw[List.getD,List.getElem?_append_left (by simp;omega)];simp[List.getElem?_take,h]
theorem Qp (G:List Nat) (a:Nat) (y:Int) (h:a<G.length):(gapI G (a+1) y).set (a+1) ((G.getD a 0:Nat):Int)=gapI G a ((G.getD a 0:Nat):Int):=by
 unfold gapI natI;rw[List.set_append,if_neg (by simp;omega)];have e:(List.map (fun (d:Nat)=>(d:Int)) (G.take (a+1))).length =a+1:=by simp;omega
 rw[e,Nat.sub_self,List.set_cons_zero,List.take_succ_eq_append_getElem h,List.map_append,List.append_assoc];simp[List.getD,h]
 rw[List.drop_eq_getElem_cons (i:=a) (by simpa using h)];simp
theorem ki (G:List Nat) (a:Nat) (y:Int) (d:Nat) (h:a≤G.length):(gapI G a y).set a (d:Int)=natI (G.take a++d::G.drop a):=by
 unfold gapI natI;rw[List.set_append,if_neg (by simp;omega)];have e:(List.map (fun (d:Nat)=>(d:Int)) (G.take a)).length =a:=by simp;omega
 rw[e,Nat.sub_self,List.set_cons_zero,List.map_append,List.map_cons]
theorem jh {ns ls:List Pr} (hld:∀j:Nat,j<ls.length→zj ns (ndI ls j)=true) {d:Nat} (hd:d<2*ls.length):∃t:Nat,dTo ls d=(t:Int)∧t<ns.length:=by
 obtain⟨h1,h2,h3,_⟩:=zR.1 (hld (d/2) (by omega));unfold dTo
 split
 ·exact⟨(ndI ls (d/2:Nat)).1.toNat,by omega,by omega⟩
 ·exact⟨(ndI ls (d/2:Nat)).2.toNat,by omega,by omega⟩
theorem z1U (a b c:Pr) (x:Bool) (w:World) (h:befB a.1 a.2 b.1 b.2 c.1 c.2=x):
  Calls Tryz.prog 272 #[.agg #[.int .i64 a.1,.int .i64 a.2],.agg #[.int .i64 b.1,.int .i64 b.2],.agg #[.int .i64 c.1,.int .i64 c.2]] w
   fun e w'=>e= .returned (.bool x)∧Below w.heap.size w w':=by
 subst h;exact z0h _ _ _ _ _ _ w
theorem Xu (vn vl:Value) (ns ls:List Pr) (k:Nat) (w:World) (hn:RP w vn ns) (hl:RP w vl ls) (hk:k<ns.length) (hm:ls.length≤20) (hn12:ns.length≤12) (hld:∀j:Nat,j<ls.length→zj ns (ndI ls j)=true):
  Calls Tryz.prog 266 #[.agg #[vn,vl],.int .i64 k] w (RetI (natI (ardS ns ls k (2*ls.length))) w):=by
 obtain⟨An,cn,rfl,hcn,hmn,hcelln⟩:=hn.formI;obtain⟨Al,cl,rfl,hcl,hml,_⟩:=hl.formI;unfold maxLen at hmn hml;obtain⟨bn,offn,rfl,hbn,hcc⟩:=hcelln (by omega);obtain⟨i0,hi,iz0,iz1,iz2⟩:=info_parts qu;have HLD:=Lib.hid hld;clear hld hcelln
 go_enter Tryz.func266,Tryz.ntmps266
 go_wp2
 go_loopw [5,6] (fun v i wr=>∃d:Nat,d≤2*ls.length∧i= .int .i64 d∧OwnI (w.heap.size+1) wr v (natI (ardS ns ls k d))∧Blk wr w.heap.size 27 #[.slice (some ⟨bn,offn,none⟩) ns.length cn,.slice Al ls.length cl]∧Below w.heap.size w wr) (fun _ i _=>2*ls.length -(intOf i).toNat)
 case atStart=>exact⟨0,Nat.zero_le _,rfl,OwnI.made (by simp) (by simp),(Blk.newAt rfl).alloc _,by exact bel_⟩
 case round=>
  obtain⟨d,hd,rfl,ho,hW,hbl⟩:=hrel;have hsz:=hW.lt;obtain⟨a_0,a_1⟩:=hW.c2
  by_cases hlt:d<2*ls.length
  ·have hlt1:(d:Int)<2*(ls.length:Int):=by omega
   go_wp2_with fail
   refine(vr _ _ ls d _ (hl.below (by exact bel_)) hlt).mono ?_
   rintro e w1 ⟨rfl,hb1⟩;(first|(with_reducible have hcf1:=z8 hb1)|have hcf1:=bcell hb1);obtain⟨hc1,hf1⟩:=hcf1;have hz1:=hb1.size;(try simp at hz1);(try have hp1_0:=p0_ w w1);(try have hp1_1:=p1_ w w1);(try have hp1_2:=p2_ w w1);(try have hp1_3:=p3_ w w1)
   have ho1:=ho.kept hb1;have hW1:=hW.below hb1 hsz;have hbw1:Below w.heap.size w w1:=by exact bel_
   clear hb1 hc1 hf1 ho hW hbl a_0 a_1
   by_cases hfr:zd ls d=k
   ·have e1:(zd ls d != (k:Int))=false:=by simp[hfr]
    have HS:=Lib.hid (vm (ns:=ns) hfr);have hle:=Jm ns ls k d;have HLT:=Lib.hid (Xg ns ls k d);generalize ardS ns ls k d=G at*;have hgl:=zc G;have hG:G.length≤40:=by omega
    obtain⟨t,ht,htn⟩:=jh HLD.out hlt;rw[ht,hfr];have HFR:=Lib.hid hfr;have HTT:=Lib.hid ht;have HGL:=Lib.hid hgl;obtain⟨k0,k1⟩:=hcc k hk;obtain⟨t0,t1⟩:=hcc t htn;clear hfr ht hgl hle;have hsz1:=hbw1.size;have hz1:w.heap.size<w1.heap.size:=hW1.lt;have hlen:=ho1.form;obtain⟨A1,c1,hv1⟩:=hlen;subst hv1;obtain⟨a_0,a_1⟩:=hW1.c2
    go_wp2_with (at_builtin;refine wpList_append_own _ rfl _ _ 31 rfl (w.heap.size+1) 3 i0 (.int .i64 0) 1 8 Tryz.underlying31 hi iz0 iz1 iz2 rfl (by decide) _ _ _ rfl (World.ownsRow.alloc ho1 _) ⟨w1.heap.size,0,none⟩ 1 1 [.int .i64 _] rfl rfl (cell_one_new _ _ _) (by intro u hu;simp at hu;subst hu;rfl) (by rw[HGL.out];unfold maxLen;omega) (by rw[HGL.out];omega) (by simp;omega) ?_)
    intro v2 w2 hown2 hg2 hne2;have hbl2:Below w.heap.size w w2:=(hbw1.alloc (by omega) _).grown hg2 (by simp;omega) (fun k hk=>by have:=(ho1.lt k hk).1;omega);have hW2:Blk w2 w.heap.size 27 #[.slice (some ⟨bn,offn,none⟩) ns.length cn,.slice Al ls.length cl]:=(hg2.block _ (by simp;omega) (fun e=>by have:=(ho1.lt _ e.symm).1;omega)).trans (hW1.alloc _)
    have HO:OwnI (w.heap.size+1) w2 v2 (gapI G G.length (d:Int)):=by
     rw[Ql];exact OwnI.snoc hown2
    clear hown2 hg2 ho1 hW1 hbw1 a_0 a_1 hsz1 hz1 hsz
    rcases hcase:HO.2 with ⟨e0,_⟩|⟨gb,cap,cur,rfl,hbg,hh,hrest⟩
    ·exact absurd e0 hne2
    have hgz:gb<w2.heap.size:=(HO.lt gb rfl).2;have hne:¬gb=w.heap.size:=by omega
    clear hcase hh hrest cur hne2;rw[qT G G.length _ (Nat.le_refl _)] at HO⊢;rw[HGL.out];go_wp2
    go_loopw [9] (fun x wr=>∃p:Nat,p≤G.length∧x= .int .i64 p∧(∃y,OwnI (w.heap.size+1) wr (.slice (some ⟨gb,0,none⟩) (G.length+1) cap) (gapI G p y))∧Hid (posN (bfD ns ls k d) G G.length=posN (bfD ns ls k d) G p)∧Blk wr w.heap.size 27 #[.slice (some ⟨bn,offn,none⟩) ns.length cn,.slice Al ls.length cl]∧Below w.heap.size w wr∧gb<wr.heap.size) (fun x _=>(intOf x).toNat)
    case atStart=>exact⟨G.length,Nat.le_refl _,rfl,⟨_,HO⟩,Lib.hid rfl,hW2,hbl2,hgz⟩
    case round=>
     obtain⟨p,hp,rfl,⟨y,hoy⟩,HP,hW,hbl,hgw⟩:=hrel;clear HO hW2 hbl2 hgz;have hsz:=hW.lt;have hgl2:=qT G p y hp;obtain⟨a_0,a_1⟩:=hW.c2
     by_cases hp0:0<p
     ·obtain⟨r,rfl⟩:∃r,p=r+1:=⟨p -1,by omega⟩
      have hr:r<G.length:=by omega
      have xr:=hoy.cell (q:=r) (by omega);rw[ka G r y hr] at xr;have he:G.getD r 0<d:=HLT.out _ (by rw[List.getD,List.getElem?_eq_getElem hr];exact List.getElem_mem hr);have HMV:=Lib.hid (Qp G r y hr);have HPS:Hid (posN (bfD ns ls k d) G (r+1)=if bfD ns ls k d (G.getD r 0) then posN (bfD ns ls k d) G r else r+1):=Lib.hid rfl;generalize hev:G.getD r 0=e at*;have HEV:=Lib.hid hev;clear hev;obtain⟨t2,ht2,ht2n⟩:=jh HLD.out (show e<2*ls.length by omega);have HTT2:=Lib.hid ht2;obtain⟨s0,s1⟩:=hcc t2 ht2n;obtain⟨x,hx⟩:∃x,befB (ndI ns k).1 (ndI ns k).2 (ndI ns t).1 (ndI ns t).2 (ndI ns t2).1 (ndI ns t2).2=x:=⟨_,rfl⟩;have HX:Hid (bfD ns ls k d e=x):=Lib.hid (by unfold bfD;rw[HTT.out,HTT2.out];exact hx);have hlr:RP wr (.slice Al ls.length cl) ls:=hl.below hbl;have hsub:(((r+1:Nat):Int)) -1=(r:Int):=by omega
      have hp1:(0:Int)<((r+1:Nat):Int):=by omega
      have hi1:(0:Int)≤(r:Int):=by omega
      have hi2:(r:Int)<((G.length+1:Nat):Int):=by omega
      go_wp2_with fail
      (refine z9 (by kernel_rfl) (by kernel_rfl) (fun hG=>?_))
      repeat (go_big_quiet_step ((go_at_call 192;exact zv (vr _ _ ls e _ (RS.grw _ hlr) (by omega)))))
      (refine wpQuiet_nil ?_);(clear hG);(rintro w3 ⟨⟨_,hb3⟩,rfl⟩);(try dsimp only);(first|(with_reducible have hcf3:=z8 hb3)|have hcf3:=bcell hb3);obtain⟨hc3,hf3⟩:=hcf3;have hz3:=hb3.size;(try simp at hz3);(try have hp3_0:=p0_ w w3);(try have hp3_1:=p1_ w w3);(try have hp3_2:=p2_ w w3);(try have hp3_3:=p3_ w w3)
      have hW3:=hW.below hb3 hsz;have ho3:=hoy.kept hb3;have hbl3:Below w.heap.size w w3:=by exact bel_
      have hgw3:gb<w3.heap.size:=by omega
      have hz3:w.heap.size<w3.heap.size:=hW3.lt;have hbn3:bn<w3.heap.size:=by omega
      have c0:=(hbl3.cell (p:=⟨bn,offn+k*2,none⟩) hbn).trans k0;have c1':=(hbl3.cell (p:=⟨bn,offn+k*2+1,none⟩) hbn).trans k1;have c2:=(hbl3.cell (p:=⟨bn,offn+t*2,none⟩) hbn).trans t0;have c3:=(hbl3.cell (p:=⟨bn,offn+t*2+1,none⟩) hbn).trans t1;have c4:=(hbl3.cell (p:=⟨bn,offn+t2*2,none⟩) hbn).trans s0;have c5:=(hbl3.cell (p:=⟨bn,offn+t2*2+1,none⟩) hbn).trans s1;have ik1:(0:Int)≤(k:Int):=by omega
      have ik2:(k:Int)<(ns.length:Int):=by omega
      have it1:(0:Int)≤(t:Int):=by omega
      have it2:(t:Int)<(ns.length:Int):=by omega
      have is1:(0:Int)≤(t2:Int):=by omega
      have is2:(t2:Int)<(ns.length:Int):=by omega
      clear hb3 hc3 hf3 hp3_0 hp3_1 hW hoy hbl a_0 a_1 xr hlr;obtain⟨a_0,a_1⟩:=hW3.c2;rw[HTT2.out]
      go_wp2_with fail
      (refine z9 (by kernel_rfl) (by kernel_rfl) (fun hG=>?_))
      repeat (go_big_quiet_step ((go_at_call 272;exact zv (z1U (ndI ns k) (ndI ns t) (ndI ns t2) _ _ hx))))
      (refine wpQuiet_nil ?_);(clear hG);(rintro w4 ⟨⟨_,hb4⟩,rfl⟩);(try dsimp only);(first|(with_reducible have hcf4:=z8 hb4)|have hcf4:=bcell hb4);obtain⟨hc4,hf4⟩:=hcf4;have hz4:=hb4.size;(try simp at hz4);(try have hp4_0:=p0_ w w4);(try have hp4_1:=p1_ w w4);(try have hp4_2:=p2_ w w4);(try have hp4_3:=p3_ w w4)
      have hW:=hW3.below hb4 hz3;have hoy:=ho3.kept hb4;have hbl:Below w.heap.size w w4:=by exact bel_
      have hgw4:gb<w4.heap.size:=by omega
      clear hb4 hc4 hf4 hz4 hW3 ho3 hbl3 a_0 a_1 c0 c1' c2 c3 c4 c5 hz3;obtain⟨a_0,a_1⟩:=hW.c2
      cases x
      ·have HP2:Hid (posN (bfD ns ls k d) G G.length=r+1):=Lib.hid (by rw[HP.out,HPS.out,HX.out];rfl)
       have xp:=hoy.cell (q:=r+1) (by omega);obtain⟨z,hz⟩:∃z,w4.cell? ⟨gb,r+1,none⟩=some z:=⟨_,xp⟩;have fp:=hoy.frz (r+1)
       have HO2:Hid (OwnI (w.heap.size+1) (w4.setCell ⟨gb,r+1,none⟩ (.int .i64 (d:Int))) (.slice (some ⟨gb,0,none⟩) (G.length+1) cap) (natI (ardS ns ls k (d+1)))):=Lib.hid (by
        rw[HS.out];unfold insN;rw[HP2.out,←ki G (r+1) y d (by omega)];exact hoy.set_ (r+1) (d:Int))
       have HB2:=Lib.hid (hbl.setCell (p:=⟨gb,r+1,none⟩) (show w.heap.size≤gb by omega) (.int .i64 (d:Int)));have HW2:=Lib.hid (hW.far (p:=⟨gb,r+1,none⟩) (Ne.symm hne) (.int .i64 (d:Int)));clear xp hoy hbl hW a_0 a_1;go_wp2;go_roundw
       case rel=>exact⟨d+1,by omega,by go_num,HO2.out,HW2.out,HB2.out⟩
       case measure=>simp[intOf];omega
      ·have HP2:Hid (posN (bfD ns ls k d) G G.length=posN (bfD ns ls k d) G r):=Lib.hid (by rw[HP.out,HPS.out,HX.out];rfl)
       have xp:=hoy.cell (q:=r+1) (by omega);obtain⟨z,hz⟩:∃z,w4.cell? ⟨gb,r+1,none⟩=some z:=⟨_,xp⟩;have fp:=hoy.frz (r+1);have xr:=hoy.cell (q:=r) (by omega);rw[ka G r y hr,HEV.out] at xr
       have HO2:Hid (OwnI (w.heap.size+1) (w4.setCell ⟨gb,r+1,none⟩ (.int .i64 (e:Int))) (.slice (some ⟨gb,0,none⟩) (G.length+1) cap) (gapI G r (e:Int))):=Lib.hid (by
        rw[←HMV.out];exact hoy.set_ (r+1) (e:Int))
       have HB2:=Lib.hid (hbl.setCell (p:=⟨gb,r+1,none⟩) (show w.heap.size≤gb by omega) (.int .i64 (e:Int)));have HW2:=Lib.hid (hW.far (p:=⟨gb,r+1,none⟩) (Ne.symm hne) (.int .i64 (e:Int)));have hrl:(r:Int)<(G.length:Int)+1:=by omega
       have hrl2:(r:Int)+1<(G.length:Int)+1:=by omega
       clear xp hoy hbl hW a_0 a_1;go_wp2;go_roundw
       case rel=>exact⟨r,by omega,by go_num,⟨_,HO2.out⟩,HP2,HW2.out,HB2.out,by simpa using hgw4⟩
       case measure=>simp[intOf]
     ·have hp0':p=0:=by omega
      subst hp0';have HP2:Hid (posN (bfD ns ls k d) G G.length=0):=Lib.hid HP.out;clear hp0;have xp:=hoy.cell (q:=0) (by omega);obtain⟨z,hz⟩:∃z,wr.cell? ⟨gb,0,none⟩=some z:=⟨_,xp⟩;have fp:=hoy.frz 0
      have HO2:Hid (OwnI (w.heap.size+1) (wr.setCell ⟨gb,0,none⟩ (.int .i64 (d:Int))) (.slice (some ⟨gb,0,none⟩) (G.length+1) cap) (natI (ardS ns ls k (d+1)))):=Lib.hid (by
       rw[HS.out];unfold insN;rw[HP2.out,←ki G 0 y d (by omega)];exact hoy.set_ 0 (d:Int))
      have HB2:=Lib.hid (hbl.setCell (p:=⟨gb,0,none⟩) (show w.heap.size≤gb by omega) (.int .i64 (d:Int)));have HW2:=Lib.hid (hW.far (p:=⟨gb,0,none⟩) (Ne.symm hne) (.int .i64 (d:Int)));clear xp hoy hbl hW a_0 a_1;go_wp2;go_roundw
      case rel=>exact⟨d+1,by omega,by go_num,HO2.out,HW2.out,HB2.out⟩
      case measure=>simp[intOf];omega
   ·have e1:(zd ls d != (k:Int))=true:=by simp[hfr]
    have HS:Hid (ardS ns ls k (d+1)=ardS ns ls k d):=Lib.hid (kO hfr);clear hfr;go_wp2;go_roundw
    case rel=>exact⟨d+1,by omega,by go_num,by rw[HS.out];exact ho1,hW1,hbw1⟩
    case measure=>simp[intOf];omega
  ·have hdd:d=2*ls.length:=by omega
   subst hdd;go_wp2;go_ret
   exact⟨_,rfl,ho.mono (by omega),hbl⟩
theorem qX {W:World} {v:Value} {t:TypeId} {g:Nat} (hg:g=W.heap.size):∀(j:Nat) (u:Value),[v][j]? =some u→(W.alloc (.cells #[v] t)).cell? ((⟨g,0,none⟩:Addr).add j)=some u:=by
 subst hg;exact cell_one_new _ _ _
def jk (ls:List Pr) (k:Int) (i:Nat):Bool:=(ndI ls i).1==k||(ndI ls i).2==k
theorem Xr {ls:List Pr} {k:Int} {i:Nat} (h:jk ls k i=false):¬(ndI ls i).1=k∧¬(ndI ls i).2=k:=by
 simpa[jk] using h
theorem Qd {ls:List Pr} {k:Int} {i:Nat} (h:jk ls k i=true) (h2:¬(ndI ls i).1=k):(ndI ls i).2=k:=by
 simpa[jk,h2] using h
def atN (ls:List Pr) (k:Int):Nat→List Nat
 |0=> []
 |i+1=>if jk ls k i then atN ls k i++[i] else atN ls k i
theorem Z3 {ls:List Pr} {k:Int} {i:Nat} (h:jk ls k i=true):atN ls k (i+1)=atN ls k i++[i]:=by simp[atN,h]
theorem VN {ls:List Pr} {k:Int} {i:Nat} (h:jk ls k i=false):atN ls k (i+1)=atN ls k i:=by simp[atN,h]
theorem Zb (ls:List Pr) (k:Int):∀i,(atN ls k i).length ≤i
 |0=>by simp[atN]
 |i+1=>by
  have:=Zb ls k i;unfold atN
  split<;>simp<;>omega
theorem zP (vn vl:Value) (ns ls:List Pr) (b:Bool) (w:World) (hn:RP w vn ns) (hl:RP w vl ls) (hb:winB ns ls=b):
  Calls Tryz.prog 87 #[.agg #[vn,vl]] w fun e w'=>e= .returned (.bool b)∧Below w.heap.size w w':=by
 subst hb;exact z1V vn vl ns ls w hn hl
theorem zE (vn vl:Value) (ns ls:List Pr) (b:Bool) (w:World) (hn:RP w vn ns) (hl:RP w vl ls) (hb:winB ns ls=b):
  Calls Tryz.prog 118 #[.agg #[vn,vl]] w fun e w'=>e= .returned (.bool b)∧Below w.heap.size w w':=by
 subst hb;exact z16 vn vl ns ls w hn hl
noncomputable def hasN (ns ls:List Pr) (k:Int):Bool:=winB ns ls&&inB k 0 ((ns.length:Int) -1)
theorem VH (vn vl:Value) (ns ls:List Pr) (k:Int) (w:World) (hn:RP w vn ns) (hl:RP w vl ls):
  Calls Tryz.prog 250 #[.agg #[vn,vl],.int .i64 k] w fun e w'=>e= .returned (.bool (hasN ns ls k))∧Below w.heap.size w w':=by
 obtain⟨An,cn,rfl,hcn,hmn,_⟩:=hn.formI;unfold maxLen at hmn
 cases hw:winB ns ls
 ·have HR:Hid (hasN ns ls k=false):=Lib.hid (by simp[hasN,hw])
  go_enter Tryz.func250,Tryz.ntmps250
  go_wp2_with fail
  refine(zP _ _ ns ls _ _ (hn.below (by exact bel_)) (hl.below (by exact bel_)) hw).mono ?_
  rintro e w1 ⟨rfl,hb1⟩;(first|(with_reducible have hcf1:=z8 hb1)|have hcf1:=bcell hb1);obtain⟨hc1,hf1⟩:=hcf1;have hz1:=hb1.size;(try simp at hz1);(try have hp1_0:=p0_ w w1);(try have hp1_1:=p1_ w w1);(try have hp1_2:=p2_ w w1);(try have hp1_3:=p3_ w w1)
  go_wp2;go_ret
  exact⟨za HR.out.symm,by exact bel_⟩
 ·have HR:Hid (hasN ns ls k=inB k 0 ((ns.length:Int) -1)):=Lib.hid (by simp[hasN,hw])
  go_enter Tryz.func250,Tryz.ntmps250
  go_wp2_with fail
  refine(zP _ _ ns ls _ _ (hn.below (by exact bel_)) (hl.below (by exact bel_)) hw).mono ?_
  rintro e w1 ⟨rfl,hb1⟩;(first|(with_reducible have hcf1:=z8 hb1)|have hcf1:=bcell hb1);obtain⟨hc1,hf1⟩:=hcf1;have hz1:=hb1.size;(try simp at hz1);(try have hp1_0:=p0_ w w1);(try have hp1_1:=p1_ w w1);(try have hp1_2:=p2_ w w1);(try have hp1_3:=p3_ w w1)
  go_wp2_with fail
  refine(yG _ _ _ _).mono ?_
  rintro e w' ⟨rfl,rfl⟩;rw[←HR.out];go_wp2;go_ret
  exact⟨rfl,by exact bel_⟩
theorem yT (vn vl:Value) (ns ls:List Pr) (k:Int) (b:Bool) (w:World) (hn:RP w vn ns) (hl:RP w vl ls) (hb:hasN ns ls k=b):
  Calls Tryz.prog 250 #[.agg #[vn,vl],.int .i64 k] w fun e w'=>e= .returned (.bool b)∧Below w.heap.size w w':=by
 subst hb;exact VH vn vl ns ls k w hn hl
theorem vC (vn vl:Value) (ns ls:List Pr) (k:Int) (w:World) (hn:RP w vn ns) (hl:RP w vl ls) (hk:hasN ns ls k=true):
  Calls Tryz.prog 218 #[.agg #[vn,vl],.int .i64 k] w (RetI (natI (atN ls k ls.length)) w):=by
 have hW:q7 ns ls:=by
  unfold hasN at hk;rw[Bool.and_eq_true] at hk
  exact zI.1 hk.1
 have hm20:=hW.2.2.1;obtain⟨Al,cl,rfl,hcl,hml,hcelll⟩:=hl.formI;obtain⟨i0,hi,iz0,iz1,iz2⟩:=info_parts qu;unfold maxLen at hml;clear hW
 go_enter Tryz.func218,Tryz.ntmps218
 go_wp2_with fail
 refine(yT _ _ ns ls _ _ _ (hn.below (by exact bel_)) (hl.below (by exact bel_)) hk).mono ?_
 rintro e w1 ⟨rfl,hb1⟩;(first|(with_reducible have hcf1:=z8 hb1)|have hcf1:=bcell hb1);obtain⟨hc1,hf1⟩:=hcf1;have hz1:=hb1.size;(try simp at hz1);(try have hp1_0:=p0_ w w1);(try have hp1_1:=p1_ w w1);(try have hp1_2:=p2_ w w1);(try have hp1_3:=p3_ w w1)
 have hW1:Blk w1 w.heap.size 27 #[vn,.slice Al ls.length cl]:=Blk.below (Blk.newAt rfl) hb1 sz_;have hbw1:Below w.heap.size w w1:=by exact bel_
 clear hb1 hc1 hf1;obtain⟨a_0,a_1⟩:=hW1.c2;go_wp2
 go_loopw [5,15] (fun v i wr=>∃j:Nat,j≤ls.length∧i= .int .i64 j∧OwnI w.heap.size wr v (natI (atN ls k j))∧Below w.heap.size w wr) (fun _ i _=>ls.length -(intOf i).toNat)
 case atStart=>exact⟨0,Nat.zero_le _,rfl,OwnI.nil _ _,hbw1⟩
 case round=>
  obtain⟨j,hj,rfl,ho,hbl⟩:=hrel;clear hW1 hbw1 a_0 a_1;have hsz:=hbl.size
  by_cases hlt:j<ls.length
  ·obtain⟨b,off,rfl,hb,hcc⟩:=hcelll (by omega)
   obtain⟨k0,k1⟩:=hcc j hlt;have q0:=(hbl.cell (p:=⟨b,off+j*2,none⟩) hb).trans k0;have q1:=(hbl.cell (p:=⟨b,off+j*2+1,none⟩) hb).trans k1;have hi1:(0:Int)≤(j:Int):=by omega
   have hi2:(j:Int)<(ls.length:Int):=by omega
   have hlen:=Zb ls k j;have hnl:=zc (atN ls k j);have HY:=Lib.hid (fun h=>Z3 (ls:=ls) (k:=k) (i:=j) h);have HN:=Lib.hid (fun h=>VN (ls:=ls) (k:=k) (i:=j) h);generalize atN ls k j=G at*;have HL:=Lib.hid hnl;clear hnl k0 k1 hcc hcelll;have hG:G.length≤20:=by omega
   cases ht:jk ls k j
   ·have HS:=Lib.hid (HN.out ht)
    obtain⟨e3,e4⟩:=Xr ht;have e1:((ndI ls j).1==k)=false:=beq_eq_false_iff_ne.2 e3;have e2:((ndI ls j).2==k)=false:=beq_eq_false_iff_ne.2 e4;clear ht;have HB:Hid (Below w.heap.size w (wr.alloc (.cells #[.int .i64 (ndI ls j).1,.int .i64 (ndI ls j).2] 108))):=Lib.hid (by exact bel_);have HO:=Lib.hid (ho.alloc (.cells #[.int .i64 (ndI ls j).1,.int .i64 (ndI ls j).2] 108));clear ho hbl;go_wp2;go_roundw
    case rel=>exact⟨j+1,by omega,by go_num,by rw[HS.out];exact HO.out,HB.out⟩
    case measure=>simp[intOf];omega
   ·have HS:=Lib.hid (HY.out ht)
    have hty:=fun h=>Qd ht h
    clear ht;generalize (ndI ls j).1=L1 at*;generalize (ndI ls j).2=L2 at*
    by_cases e3:L1=k
    ·subst e3
     clear hty;have HB:Hid (Below w.heap.size w (wr.alloc (.cells #[.int .i64 L1,.int .i64 L2] 108))):=Lib.hid (by exact bel_);have hoa:=ho.alloc (.cells #[.int .i64 L1,.int .i64 L2] 108)
     go_wp2_with (at_builtin;refine wpList_append_own _ rfl _ _ 31 rfl w.heap.size 3 i0 (.int .i64 0) 1 8 Tryz.underlying31 hi iz0 iz1 iz2 rfl (by decide) _ _ _ rfl (World.ownsRow.alloc hoa _) ⟨wr.heap.size+1,0,none⟩ 1 1 [.int .i64 _] rfl rfl (qX (by simp)) (by intro u hu;simp at hu;subst hu;rfl) (by rw[HL.out];unfold maxLen;omega) (by rw[HL.out];omega) (by simp;omega) ?_)
     intro v' w1 hown1 hg1 _;have hbl1:Below w.heap.size w w1:=(HB.out.alloc (by simp;omega) _).grown hg1 (by simp;omega) (fun k hk=>(ho.lt k hk).1)
     have HO:OwnI w.heap.size w1 v' (natI (G++[j])):=by
      unfold natI;rw[List.map_append];exact OwnI.snoc hown1
     clear hown1 hg1 ho hoa hbl HB;go_wp2;go_roundw
     case rel=>exact⟨j+1,by omega,by go_num,by rw[HS.out];exact HO,hbl1⟩
     case measure=>simp[intOf];omega
    ·have e4:=hty e3
     have e1:(L1==k)=false:=beq_eq_false_iff_ne.2 e3;clear hty;subst e4;have HB:Hid (Below w.heap.size w (wr.alloc (.cells #[.int .i64 L1,.int .i64 L2] 108))):=Lib.hid (by exact bel_);have hoa:=ho.alloc (.cells #[.int .i64 L1,.int .i64 L2] 108)
     go_wp2_with (at_builtin;refine wpList_append_own _ rfl _ _ 31 rfl w.heap.size 3 i0 (.int .i64 0) 1 8 Tryz.underlying31 hi iz0 iz1 iz2 rfl (by decide) _ _ _ rfl (World.ownsRow.alloc hoa _) ⟨wr.heap.size+1,0,none⟩ 1 1 [.int .i64 _] rfl rfl (qX (by simp)) (by intro u hu;simp at hu;subst hu;rfl) (by rw[HL.out];unfold maxLen;omega) (by rw[HL.out];omega) (by simp;omega) ?_)
     intro v' w1 hown1 hg1 _;have hbl1:Below w.heap.size w w1:=(HB.out.alloc (by simp;omega) _).grown hg1 (by simp;omega) (fun k hk=>(ho.lt k hk).1)
     have HO:OwnI w.heap.size w1 v' (natI (G++[j])):=by
      unfold natI;rw[List.map_append];exact OwnI.snoc hown1
     clear hown1 hg1 ho hoa hbl HB;go_wp2;go_roundw
     case rel=>exact⟨j+1,by omega,by go_num,by rw[HS.out];exact HO,hbl1⟩
     case measure=>simp[intOf];omega
  ·have hjj:j=ls.length:=by omega
   subst hjj;clear hcelll;go_wp2;go_ret
   exact⟨_,rfl,ho,hbl⟩
theorem z5H (vn vl:Value) (ns ls:List Pr) (k:Int) (w:World) (hn:RP w vn ns) (hl:RP w vl ls) (hk:hasN ns ls k=false):
  Calls Tryz.prog 218 #[.agg #[vn,vl],.int .i64 k] w (RetI [] w):=by
 go_enter Tryz.func218,Tryz.ntmps218
 go_wp2_with fail
 refine(yT _ _ ns ls _ _ _ (hn.below (by exact bel_)) (hl.below (by exact bel_)) hk).mono ?_
 rintro e w1 ⟨rfl,hb1⟩;(first|(with_reducible have hcf1:=z8 hb1)|have hcf1:=bcell hb1);obtain⟨hc1,hf1⟩:=hcf1;have hz1:=hb1.size;(try simp at hz1);(try have hp1_0:=p0_ w w1);(try have hp1_1:=p1_ w w1);(try have hp1_2:=p2_ w w1);(try have hp1_3:=p3_ w w1)
 go_wp2;go_ret
 exact⟨_,rfl,OwnI.nil _ _,by exact bel_⟩
noncomputable def degI (ns ls:List Pr) (k:Int):Int:=if hasN ns ls k then((atN ls k ls.length).length :Int) else -1
theorem QR (vn vl:Value) (ns ls:List Pr) (k:Int) (w:World) (hn:RP w vn ns) (hl:RP w vl ls):
  Calls Tryz.prog 248 #[.agg #[vn,vl],.int .i64 k] w fun e w'=>e= .returned (.int .i64 (degI ns ls k))∧Below w.heap.size w w':=by
 cases hk:hasN ns ls k
 ·have HR:Hid (degI ns ls k= -1):=Lib.hid (by simp[degI,hk])
  go_enter Tryz.func248,Tryz.ntmps248
  go_wp2_with fail
  refine(yT _ _ ns ls _ _ _ (hn.below (by exact bel_)) (hl.below (by exact bel_)) hk).mono ?_
  rintro e w1 ⟨rfl,hb1⟩;(first|(with_reducible have hcf1:=z8 hb1)|have hcf1:=bcell hb1);obtain⟨hc1,hf1⟩:=hcf1;have hz1:=hb1.size;(try simp at hz1);(try have hp1_0:=p0_ w w1);(try have hp1_1:=p1_ w w1);(try have hp1_2:=p2_ w w1);(try have hp1_3:=p3_ w w1)
  go_wp2;go_ret
  exact⟨ze HR.out.symm,by exact bel_⟩
 ·have HR:Hid (degI ns ls k=((natI (atN ls k ls.length)).length :Int)):=Lib.hid (by simp[degI,hk,zc])
  go_enter Tryz.func248,Tryz.ntmps248
  go_wp2_with fail
  refine(yT _ _ ns ls _ _ _ (hn.below (by exact bel_)) (hl.below (by exact bel_)) hk).mono ?_
  rintro e w1 ⟨rfl,hb1⟩;(first|(with_reducible have hcf1:=z8 hb1)|have hcf1:=bcell hb1);obtain⟨hc1,hf1⟩:=hcf1;have hz1:=hb1.size;(try simp at hz1);(try have hp1_0:=p0_ w w1);(try have hp1_1:=p1_ w w1);(try have hp1_2:=p2_ w w1);(try have hp1_3:=p3_ w w1)
  have hbw1:Below w.heap.size w w1:=by exact bel_
  go_wp2_with fail
  refine(vC _ _ ns ls _ _ (hn.below hbw1) (hl.below hbw1) hk).mono ?_
  rintro e w2 ⟨v2,rfl,ho2,hb2⟩;obtain⟨A2,c2,rfl⟩:=ho2.form;have hbw2:Below w.heap.size w w2:=by exact bel_
  go_wp2;go_ret
  exact⟨ze HR.out.symm,hbw2⟩
end Go.Proofs.YtnjcpljhmhdhkaaGreat
