/- part 26 -/
import Derived.Test.YtnjcpljhmhdhkaaGreatTPk25
set_option linter.unusedSimpArgs false
set_option linter.unusedVariables false
set_option maxRecDepth 100000
set_option maxHeartbeats 8000000
namespace Go.Proofs.YtnjcpljhmhdhkaaGreat
open Go.RowKit
theorem OwnSt.setFar {base:Nat} {w:World} {a b c d e f g:Value} {S:St} {fs:List SF} (h:OwnSt base w a b c d e f g S fs) {p:Addr} (hp:¬jy a b c d e f g fs p.block) (u:Value):OwnSt base (w.setCell p u) a b c d e f g S fs:=
 h.turned (T:=fun k=>k=p.block) (Turns.ofGrown (qO w p u) (fun k hk=>by cases hk;rfl)) (fun k hk e=>hp (e▸hk))
structure OutSS (w:World) (v0 v1 v2 v3 v4 v5 v6:Value) (m:Int) (Z:Nat) (a b c d e f g:Value) (S:St) (fs:List SF) (wr:World):Prop where
 own:OwnSt (w.heap.size+1+1) wr a b c d e f g S fs
 X:Blk wr w.heap.size 34 #[v0,v1,v2,v3,v4,v5,v6,.int .i64 m]
 R:Blk wr (w.heap.size+1) 34 #[.slice none 0 0,.slice none 0 0,.slice none 0 0,.slice none 0 0,.slice none 0 0,.slice none 0 0,.slice none 0 0,.int .i64 0]
 Z_:Blk wr Z 34 #[a,b,c,d,e,f,g,.int .i64 S.fund]
 lt:w.heap.size+1<Z
 far:¬jy a b c d e f g fs Z
 blw:Below w.heap.size w wr
section
variable {w wr wr':World} {v0 v1 v2 v3 v4 v5 v6 a b c d e f g:Value} {m:Int} {Z:Nat} {S:St} {fs:List SF}
theorem OutSS.below (h:OutSS w v0 v1 v2 v3 v4 v5 v6 m Z a b c d e f g S fs wr) (hb:Below wr.heap.size wr wr'):OutSS w v0 v1 v2 v3 v4 v5 v6 m Z a b c d e f g S fs wr':=
 ⟨h.own.kept hb,h.X.below hb h.X.lt,h.R.below hb h.R.lt,h.Z_.below hb h.Z_.lt,h.lt,h.far,h.blw.trans (hb.mono h.blw.size)⟩
theorem OutSS.start {base:Nat} (ho:OwnSt base wr a b c d e f g S fs) (hbase:w.heap.size+1+1≤base) (hX:Blk wr w.heap.size 34 #[v0,v1,v2,v3,v4,v5,v6,.int .i64 m]) (hR:Blk wr (w.heap.size+1) 34 #[.slice none 0 0,.slice none 0 0,.slice none 0 0,.slice none 0 0,.slice none 0 0,.slice none 0 0,.slice none 0 0,.int .i64 0]) (hb:Below w.heap.size w wr):
  OutSS w v0 v1 v2 v3 v4 v5 v6 m wr.heap.size a b c d e f g S fs (wr.alloc (.cells #[a,b,c,d,e,f,g,.int .i64 S.fund] 34)):=
 ⟨(ho.mono hbase).alloc _,hX.alloc _,hR.alloc _,Blk.newAt rfl,hR.lt,fun hk=>by have:=(ho.lt _ hk).2;omega,hb.alloc hb.size _⟩
theorem OutSS.fin (h:OutSS w v0 v1 v2 v3 v4 v5 v6 m Z a b c d e f g S fs wr) (u0 u1 u2 u3 u4 u5 u6 u7:Value):
  OwnSt w.heap.size ((((((((wr.setCell ⟨w.heap.size+1,0,none⟩ u0).setCell ⟨w.heap.size+1,1,none⟩ u1).setCell ⟨w.heap.size+1,2,none⟩ u2).setCell ⟨w.heap.size+1,3,none⟩ u3).setCell ⟨w.heap.size+1,4,none⟩ u4).setCell ⟨w.heap.size+1,5,none⟩ u5).setCell ⟨w.heap.size+1,6,none⟩ u6).setCell ⟨w.heap.size+1,7,none⟩ u7) a b c d e f g S fs∧
  Below w.heap.size w ((((((((wr.setCell ⟨w.heap.size+1,0,none⟩ u0).setCell ⟨w.heap.size+1,1,none⟩ u1).setCell ⟨w.heap.size+1,2,none⟩ u2).setCell ⟨w.heap.size+1,3,none⟩ u3).setCell ⟨w.heap.size+1,4,none⟩ u4).setCell ⟨w.heap.size+1,5,none⟩ u5).setCell ⟨w.heap.size+1,6,none⟩ u6).setCell ⟨w.heap.size+1,7,none⟩ u7):=by
 have hR:¬jy a b c d e f g fs (w.heap.size+1):=fun hk=>by have:=(h.own.lt _ hk).1;omega
 have step:∀(W:World) (j:Nat) (u:Value),OwnSt w.heap.size W a b c d e f g S fs→OwnSt w.heap.size (W.setCell ⟨w.heap.size+1,j,none⟩ u) a b c d e f g S fs:=fun W j u hW=>hW.setFar (p:=⟨w.heap.size+1,j,none⟩) hR u
 have hs:w.heap.size≤w.heap.size+1:=Nat.le_succ _
 exact⟨step _ _ _ (step _ _ _ (step _ _ _ (step _ _ _ (step _ _ _ (step _ _ _ (step _ _ _ (step _ _ _ (h.own.mono (by omega))))))))),
  (((((((h.blw.setCell (p:=⟨w.heap.size+1,0,none⟩) hs u0).setCell (p:=⟨w.heap.size+1,1,none⟩) hs u1).setCell (p:=⟨w.heap.size+1,2,none⟩) hs u2).setCell (p:=⟨w.heap.size+1,3,none⟩) hs u3).setCell (p:=⟨w.heap.size+1,4,none⟩) hs u4).setCell (p:=⟨w.heap.size+1,5,none⟩) hs u5).setCell (p:=⟨w.heap.size+1,6,none⟩) hs u6).setCell (p:=⟨w.heap.size+1,7,none⟩) hs u7⟩
end
attribute [local go_sem ↓] zY zZ
def vU (a b x:Int):Int:=if x=mx2 a b then mn2 a b else x
def mgK (a b:Int) (g:List Int) (j:Nat):List Int:=(g.take j).map (vU a b)++g.drop j
theorem z3S (a b:Int) (g:List Int):mgK a b g 0=g:=by simp[mgK]
theorem z5r (a b:Int) (g:List Int):mgK a b g g.length=g.map (vU a b):=by simp[mgK]
theorem z2z (a b:Int) (g:List Int) (j:Nat):(mgK a b g j).length =g.length:=by
 simp[mgK];omega
theorem z2K (a b:Int) (g:List Int) (j:Nat) (h:j<g.length):(mgK a b g j).getD j 0=g.getD j 0:=by
 unfold mgK;rw[List.getD,List.getElem?_append_right (by simp;omega)];simp[List.getD,show min j g.length=j by omega]
theorem XG (a b:Int) (g:List Int) (j:Nat) (h:j<g.length):mgK a b g (j+1)=(mgK a b g j).set j (vU a b (g.getD j 0)):=by
 unfold mgK;rw[List.set_append,if_neg (by simp;omega),List.take_succ_eq_append_getElem h,List.drop_eq_getElem_cons h];have e:((g.take j).map (vU a b)).length =j:=by simp;omega
 rw[e,Nat.sub_self,List.set_cons_zero,List.map_append,List.map_cons,List.map_nil,List.append_assoc,List.singleton_append,show g.getD j 0=g[j] by simp[List.getD,h]]
theorem z5e {a b:Int} {g:List Int} {j:Nat} (h:j<g.length) (he:g.getD j 0=mx2 a b):mgK a b g (j+1)=(mgK a b g j).set j (mn2 a b):=by
 rw[XG a b g j h,vU,if_pos he]
theorem Xs:∀(l:List Int) (j:Nat) (h:j<l.length),l.set j (l.getD j 0)=l
 |x::l,0,_=>rfl
 |x::l,j+1,h=>by
  have:=Xs l j (by simpa using h);simp only[List.getD_cons_succ,List.set_cons_succ,this]
theorem z5N {a b:Int} {g:List Int} {j:Nat} (h:j<g.length) (he:¬g.getD j 0=mx2 a b):mgK a b g (j+1)=mgK a b g j:=by
 rw[XG a b g j h,vU,if_neg he,←z2K a b g j h];exact Xs _ _ (by rw[z2z];exact h)
def pstep (g:List Int) (l:Pr):List Int:=g.map (vU (g.getD l.1.toNat 0) (g.getD l.2.toNat 0))
def zh (n:Nat) (ls:List Pr) (k:Nat):List Int:=(ls.take k).foldl pstep (natI (List.range n))
theorem vV:∀(l:List Pr) (g:List Int),(l.foldl pstep g).length =g.length
 | [],g=>rfl
 |p::l,g=>by rw[List.foldl_cons,vV l];simp[pstep]
theorem qG (n:Nat) (ls:List Pr) (k:Nat):(zh n ls k).length =n:=by
 unfold zh;rw[vV];simp[natI]
theorem QG (n:Nat) (ls:List Pr):zh n ls 0=natI (List.range n):=rfl
theorem yK (n:Nat) (ls:List Pr) (k:Nat) (h:k<ls.length) (p q:Nat) (hp:(ndI ls k).1=p) (hq:(ndI ls k).2=q):
  zh n ls (k+1)=(zh n ls k).map (vU ((zh n ls k).getD p 0) ((zh n ls k).getD q 0)):=by
 unfold zh;rw[List.take_succ_eq_append_getElem h,List.foldl_append,List.foldl_cons,List.foldl_nil,pstep];have e:ls[k]=ndI ls k:=(zT ls k h).symm;rw[e,hp,hq,Int.toNat_natCast,Int.toNat_natCast]
theorem z3v (k:Nat):natI (List.range (k+1))=natI (List.range k)++[(k:Int)]:=by simp[natI,List.range_succ]
theorem Jj (vn vl:Value) (ns ls:List Pr) (w:World) (hn:RP w vn ns) (hl:RP w vl ls) (hm:ls.length≤20) (hn12:ns.length≤12) (hn0:0<ns.length) (hld:∀j:Nat,j<ls.length→zj ns (ndI ls j)=true):
  Calls Tryz.prog 119 #[.agg #[vn,vl]] w (RetI (zh ns.length ls ls.length) w):=by
 obtain⟨An,cn,rfl,hcn,hmn,_⟩:=hn.formI;obtain⟨Al,cl,rfl,hcl,hml,hcell⟩:=hl.formI;unfold maxLen at hmn hml;obtain⟨i0,hi,iz0,iz1,iz2⟩:=info_parts qu;have HLD:=Lib.hid hld;have HCELL:=Lib.hid hcell;clear hld hcell
 go_enter Tryz.func119,Tryz.ntmps119
 go_wp2
 go_loopw [3,4] (fun v i wr=>∃k:Nat,k≤ns.length∧i= .int .i64 k∧OwnI (w.heap.size+1) wr v (natI (List.range k))∧Blk wr w.heap.size 27 #[.slice An ns.length cn,.slice Al ls.length cl]∧Below w.heap.size w wr) (fun _ i _=>ns.length -(intOf i).toNat)
 case atStart=>exact⟨0,Nat.zero_le _,rfl,OwnI.made (by simp) (by simp),(Blk.newAt rfl).alloc _,by exact bel_⟩
 case round=>
  obtain⟨k,hk,rfl,ho,hW,hbl⟩:=hrel;have hsz:=hW.lt;obtain⟨a_0,a_1⟩:=hW.c2;obtain⟨A1,c1,hv1⟩:=ho.form;rw[zc,List.length_range] at hv1;subst hv1
  by_cases hlt:k<ns.length
  ·have HS:=Lib.hid (z3v k)
   have HGL:Hid ((natI (List.range k)).length =k):=Lib.hid (by simp[natI]);generalize natI (List.range k)=G at*
   go_wp2_with (at_builtin;refine wpList_append_own _ rfl _ _ 31 rfl (w.heap.size+1) 3 i0 (.int .i64 0) 1 8 Tryz.underlying31 hi iz0 iz1 iz2 rfl (by decide) _ _ _ rfl (World.ownsRow.alloc ho _) ⟨wr.heap.size,0,none⟩ 1 1 [.int .i64 _] rfl rfl (cell_one_new _ _ _) (by intro u hu;simp at hu;subst hu;rfl) (by rw[HGL.out];unfold maxLen;omega) (by rw[HGL.out];omega) (by simp;omega) ?_)
   intro v2 w2 hown2 hg2 hne2;have hb2:=(hbl.alloc (show w.heap.size≤wr.heap.size by omega) (.cells #[.int .i64 (k:Int)] 3)).grown hg2 (by simp;omega) (fun k hk=>by have:=(ho.lt k hk).1;omega);have hW2:Blk w2 w.heap.size 27 #[.slice An ns.length cn,.slice Al ls.length cl]:=(hg2.block _ (by simp;omega) (fun e=>by have:=(ho.lt _ e.symm).1;omega)).trans (hW.alloc _);have ho2:=Lib.hid (OwnI.snoc hown2);clear hg2 hne2 hown2 ho hW hbl a_0 a_1;go_wp2;go_roundw
   case rel=>exact⟨k+1,by omega,by go_num,by rw[HS.out];exact ho2.out,hW2,hb2⟩
   case measure=>simp[intOf];omega
  ·have hkk:k=ns.length:=by omega
   subst hkk
   rcases hcase:ho.2 with ⟨e0,e1⟩|⟨gb,cap,cur,e0,hbg,hrest⟩
   ·rw[zc,List.length_range] at e1;omega
   clear hcase hrest
   injection e0 with e0 e1 e2
   subst e0 e2;clear e1;have hgz:=(ho.lt gb rfl).2;have hne:¬gb=w.heap.size:=by omega
   have ho':=Lib.hid (show OwnI (w.heap.size+1) wr (.slice (some ⟨gb,0,none⟩) ns.length c1) (zh ns.length ls 0) from ho);clear ho hlt hk;go_wp2
   go_loopw [5] (fun i wr=>∃k:Nat,k≤ls.length∧i= .int .i64 k∧OwnI (w.heap.size+1) wr (.slice (some ⟨gb,0,none⟩) ns.length c1) (zh ns.length ls k)∧Blk wr w.heap.size 27 #[.slice An ns.length cn,.slice Al ls.length cl]∧Below w.heap.size w wr∧gb<wr.heap.size) (fun i _=>ls.length -(intOf i).toNat)
   case atStart=>exact⟨0,Nat.zero_le _,rfl,ho'.out,hW,hbl,hgz⟩
   case round=>
    clear ho' hW hbl hgz hsz a_0 a_1;obtain⟨k,hk,rfl,ho,hW,hbl,hgz⟩:=hrel;have hsz:=hW.lt;obtain⟨a_0,a_1⟩:=hW.c2
    by_cases hlt:k<ls.length
    ·obtain⟨b,off,rfl,hb,hcl⟩:=HCELL.out (by omega)
     obtain⟨k0,k1⟩:=hcl k hlt;have q0:=(hbl.cell (p:=⟨b,off+k*2,none⟩) hb).trans k0;have q1:=(hbl.cell (p:=⟨b,off+k*2+1,none⟩) hb).trans k1;obtain⟨h1,h2,h3,_⟩:=zR.1 (HLD.out k hlt);obtain⟨p,hp⟩:∃p:Nat,(ndI ls k).1=p:=⟨(ndI ls k).1.toNat,by omega⟩;obtain⟨q,hq⟩:∃q:Nat,(ndI ls k).2=q:=⟨(ndI ls k).2.toNat,by omega⟩;have HS:=Lib.hid (yK ns.length ls k hlt p q hp hq);have HGL:=Lib.hid (qG ns.length ls k);rw[hp] at q0 h1 h2;rw[hq] at q1 h2 h3;have hpn:p<ns.length:=by omega
     have hqn:q<ns.length:=by omega
     generalize zh ns.length ls k=G at*;have x0:=ho.cell (q:=p) (by rw[HGL.out];exact hpn);have x1:=ho.cell (q:=q) (by rw[HGL.out];exact hqn);obtain⟨a,ha⟩:∃a,G.getD p 0=a:=⟨_,rfl⟩;obtain⟨c,hc⟩:∃c,G.getD q 0=c:=⟨_,rfl⟩;rw[ha] at x0 HS;rw[hc] at x1 HS;have ip1:(0:Int)≤(p:Int):=by omega
     have ip2:(p:Int)<(ns.length:Int):=by omega
     have iq1:(0:Int)≤(q:Int):=by omega
     have iq2:(q:Int)<(ns.length:Int):=by omega
     have ho':=Lib.hid (show OwnI (w.heap.size+1) wr (.slice (some ⟨gb,0,none⟩) ns.length c1) (mgK a c G 0) by rw[z3S];exact ho);clear hcl k0 k1 hp hq ha hc ho h1 h2 h3;go_wp2
     go_loopw [8] (fun x wr=>∃j:Nat,j≤ns.length∧x= .int .i64 j∧OwnI (w.heap.size+1) wr (.slice (some ⟨gb,0,none⟩) ns.length c1) (mgK a c G j)∧Blk wr w.heap.size 27 #[.slice An ns.length cn,.slice (some ⟨b,off,none⟩) ls.length cl]∧Below w.heap.size w wr∧gb<wr.heap.size) (fun x _=>ns.length -(intOf x).toNat)
     case atStart=>exact⟨0,Nat.zero_le _,rfl,ho'.out,hW,hbl,hgz⟩
     case round=>
      clear ho' hW hbl hgz hsz a_0 a_1 q0 q1 x0 x1;obtain⟨j,hj,rfl,ho,hW,hbl,hgz⟩:=hrel;have hsz:=hW.lt;obtain⟨a_0,a_1⟩:=hW.c2
      by_cases hlj:j<ns.length
      ·have hjg:j<G.length:=by rw[HGL.out];exact hlj
       have x0:=ho.cell (q:=j) (by rw[z2z];exact hjg);rw[z2K a c G j hjg] at x0;have HY:=Lib.hid (fun he=>z5e (a:=a) (b:=c) hjg he);have HN:=Lib.hid (fun he=>z5N (a:=a) (b:=c) hjg he);generalize G.getD j 0=x at*
       by_cases he:x=mx2 a c
       ·have e1:(x==mx2 a c)=true:=beq_iff_eq.2 he
        have fp:=ho.frz j;have HO:=Lib.hid (show OwnI (w.heap.size+1) (wr.setCell ⟨gb,j,none⟩ (.int .i64 (mn2 a c))) (.slice (some ⟨gb,0,none⟩) ns.length c1) (mgK a c G (j+1)) by rw[HY.out he];exact ho.set_ j _);have HB2:=Lib.hid (hbl.setCell (p:=⟨gb,j,none⟩) (show w.heap.size≤gb by omega) (.int .i64 (mn2 a c)));have HW2:=Lib.hid (hW.far (p:=⟨gb,j,none⟩) (Ne.symm hne) (.int .i64 (mn2 a c)));clear ho hW hbl he a_0 a_1;go_wp2;go_roundw
        case rel=>exact⟨j+1,by omega,by go_num,HO.out,HW2.out,HB2.out,by simpa using hgz⟩
        case measure=>simp[intOf];omega
       ·have e1:(x==mx2 a c)=false:=beq_eq_false_iff_ne.2 he
        have HO:=Lib.hid (show OwnI (w.heap.size+1) wr (.slice (some ⟨gb,0,none⟩) ns.length c1) (mgK a c G (j+1)) by rw[HN.out he];exact ho);clear ho he;go_wp2;go_roundw
        case rel=>exact⟨j+1,by omega,by go_num,HO.out,hW,hbl,hgz⟩
        case measure=>simp[intOf];omega
      ·have hjj:j=ns.length:=by omega
       subst hjj
       have HO:=Lib.hid (show OwnI (w.heap.size+1) wr (.slice (some ⟨gb,0,none⟩) ns.length c1) (zh ns.length ls (k+1)) by
        rw[HS.out,←z5r];rw[HGL.out];exact ho)
       clear ho;go_wp2;go_roundw
       case rel=>exact⟨k+1,by omega,by go_num,HO.out,hW,hbl,hgz⟩
       case measure=>simp[intOf];omega
    ·have hkk:k=ls.length:=by omega
     subst hkk;have HO:=Lib.hid ho;clear ho;go_wp2;go_ret
     exact⟨_,rfl,HO.out.mono (by omega),hbl⟩
noncomputable def zm (ns ls:List Pr):Bool:=winB ns ls&&(decide (0<ls.length)&&(zh ns.length ls ls.length).all (· ==0))
theorem zW {ns ls:List Pr} (h:zm ns ls=true):q7 ns ls∧0<ls.length:=by
 unfold zm at h;rw[Bool.and_eq_true,Bool.and_eq_true] at h;exact⟨zI.1 h.1,by simpa using h.2.1⟩
theorem z1G (vn vl:Value) (ns ls:List Pr) (w:World) (hn:RP w vn ns) (hl:RP w vl ls):
  Calls Tryz.prog 45 #[.agg #[vn,vl]] w fun e w'=>e= .returned (.bool (zm ns ls))∧Below w.heap.size w w':=by
 obtain⟨An,cn,rfl,hcn,hmn,_⟩:=hn.formI;obtain⟨Al,cl,rfl,hcl,hml,_⟩:=hl.formI;unfold maxLen at hmn hml;have hb0:Below w.heap.size w (w.alloc (.cells #[.slice An ns.length cn,.slice Al ls.length cl] 27)):=by exact bel_
 cases hw:winB ns ls
 ·have HR:Hid (zm ns ls=false):=Lib.hid (by simp[zm,hw])
  go_enter Tryz.func45,Tryz.ntmps45
  go_wp2_with fail
  refine(zE _ _ ns ls _ _ (hn.below hb0) (hl.below hb0) hw).mono ?_
  rintro e w1 ⟨rfl,hb1⟩;(first|(with_reducible have hcf1:=z8 hb1)|have hcf1:=bcell hb1);obtain⟨hc1,hf1⟩:=hcf1;have hz1:=hb1.size;(try simp at hz1);(try have hp1_0:=p0_ w w1);(try have hp1_1:=p1_ w w1);(try have hp1_2:=p2_ w w1);(try have hp1_3:=p3_ w w1)
  go_wp2;go_ret
  exact⟨za HR.out.symm,by exact bel_⟩
 ·by_cases h0:ls.length=0
  ·have HR:Hid (zm ns ls=false):=Lib.hid (by simp[zm,hw,h0])
   have e1:((ls.length:Int)==0)=true:=by simp[h0]
   clear h0
   go_enter Tryz.func45,Tryz.ntmps45
   go_wp2_with fail
   refine(zE _ _ ns ls _ _ (hn.below hb0) (hl.below hb0) hw).mono ?_
   rintro e w1 ⟨rfl,hb1⟩;(first|(with_reducible have hcf1:=z8 hb1)|have hcf1:=bcell hb1);obtain⟨hc1,hf1⟩:=hcf1;have hz1:=hb1.size;(try simp at hz1);(try have hp1_0:=p0_ w w1);(try have hp1_1:=p1_ w w1);(try have hp1_2:=p2_ w w1);(try have hp1_3:=p3_ w w1)
   go_wp2;go_ret
   exact⟨za HR.out.symm,by exact bel_⟩
  ·have hok:=zI.1 hw
   have HR:Hid (zm ns ls=(zh ns.length ls ls.length).all (· ==0)):=Lib.hid (by simp[zm,hw];omega);have e1:((ls.length:Int)==0)=false:=by simp[h0]
   have HOK:=Lib.hid hok;clear hok h0
   go_enter Tryz.func45,Tryz.ntmps45
   go_wp2_with fail
   refine(zE _ _ ns ls _ _ (hn.below hb0) (hl.below hb0) hw).mono ?_
   rintro e w1 ⟨rfl,hb1⟩;have hbw1:Below w.heap.size w w1:=by exact bel_
   have hW1:Blk w1 w.heap.size 27 #[.slice An ns.length cn,.slice Al ls.length cl]:=(Blk.newAt rfl).below hb1 (by simp);have hsz:=hW1.lt;obtain⟨a_0,a_1⟩:=hW1.c2;clear hb1
   go_wp2_with fail
   refine(Jj _ _ ns ls _ (hn.below hbw1) (hl.below hbw1) HOK.out.2.2.1 HOK.out.2.1 HOK.out.1 (fun j hj=>(HOK.out.2.2.2.2.2 j hj).1)).mono ?_
   rintro e w2 ⟨v,rfl,ho2,hb2⟩;have hbw2:=hbw1.trans (hb2.mono hbw1.size);have HGL:=Lib.hid (qG ns.length ls ls.length);obtain⟨A,c,rfl,hc,hm,hcell⟩:=ho2.reads.form;generalize zh ns.length ls ls.length=G at*;unfold maxLen at hm;clear hb2 ho2 hW1 a_0 a_1 hsz hbw1 hw;go_wp2
   go_loop [4] (fun i=>∃k:Nat,k≤G.length∧i= .int .i64 k∧(G.take k).all (· ==0)=true) (fun i=>G.length -(intOf i).toNat)
   case atStart=>exact⟨0,Nat.zero_le _,rfl,by simp⟩
   case round=>
    obtain⟨k,hk,rfl,hall⟩:=hrel
    by_cases hlt:k<G.length
    ·obtain⟨b,off,rfl,hb,hcl⟩:=hcell (by omega)
     have hck:=hcl k hlt;clear hcl hcell
     have hts:(G.take (k+1)).all (· ==0)=(G.getD k 0==0):=by
      rw[List.take_succ_eq_append_getElem hlt,List.all_append,hall];simp[List.getD,List.getElem?_eq_getElem hlt]
     have hex:(G.getD k 0==0)=false→G.all (· ==0)=false:=by
      intro h0;rw[List.all_eq_false];exact⟨G[k],List.getElem_mem hlt,by simpa[List.getD,List.getElem?_eq_getElem hlt] using h0⟩
     generalize hx:G.getD k 0=x at*;have HTS:=Lib.hid hts;have HEX:=Lib.hid hex;clear hts hex hall hx
     by_cases hq:x=0
     ·have HQ:Hid ((x==0)=true):=Lib.hid (by simp[hq])
      have e2:(x != 0)=false:=by simp[hq]
      clear hq;go_wp2;go_round
      case rel=>exact⟨k+1,by omega,by go_num,by rw[HTS.out];exact HQ.out⟩
      case measure=>simp[intOf];omega
     ·have HQ:Hid ((x==0)=false):=Lib.hid (by simp[hq])
      have e2:(x != 0)=true:=by simp[hq]
      clear hq;go_wp2;go_ret
      exact⟨za (by rw[HR.out];exact(HEX.out HQ.out).symm),hbw2⟩
    ·have hkk:G.length≤k:=by omega
     rw[List.take_of_length_le hkk] at hall;have HA:=Lib.hid hall;clear hall hcell;go_wp2;go_ret
     exact⟨za (by rw[HR.out];exact HA.out.symm),hbw2⟩
theorem ju (vn vl:Value) (ns ls:List Pr) (b:Bool) (w:World) (hn:RP w vn ns) (hl:RP w vl ls) (hb:zm ns ls=b):
  Calls Tryz.prog 45 #[.agg #[vn,vl]] w fun e w'=>e= .returned (.bool b)∧Below w.heap.size w w':=by
 subst hb;exact z1G vn vl ns ls w hn hl
theorem QJ {a b:Nat} (ha:a<2^63) (hb:b<2^63):bits .or .i64 (a:Int) (b:Int)=((a ||| b:Nat):Int):=by
 have e:bits .or .i64 (a:Int) (b:Int)=IntKind.i64.wrap ((BitVec.ofInt 64 (a:Int) ||| BitVec.ofInt 64 (b:Int)).toNat :Int):=rfl;have h:a ||| b<2^63:=Nat.or_lt_two_pow ha hb
 rw[e,BitVec.ofInt_natCast,BitVec.ofInt_natCast,BitVec.toNat_or,BitVec.toNat_ofNat,BitVec.toNat_ofNat,Nat.mod_eq_of_lt (by omega),Nat.mod_eq_of_lt (by omega)];exact IntWalk.i64_in _ (by omega)
theorem VI {a b:Nat} (ha:a<2^63) (hb:b<2^63):bits .and .i64 (a:Int) (b:Int)=((a &&& b:Nat):Int):=by
 have e:bits .and .i64 (a:Int) (b:Int)=IntKind.i64.wrap ((BitVec.ofInt 64 (a:Int) &&& BitVec.ofInt 64 (b:Int)).toNat :Int):=rfl;have h:a &&& b≤a:=Nat.and_le_left;rw[e,BitVec.ofInt_natCast,BitVec.ofInt_natCast,BitVec.toNat_and,BitVec.toNat_ofNat,BitVec.toNat_ofNat,Nat.mod_eq_of_lt (by omega),Nat.mod_eq_of_lt (by omega)];exact IntWalk.i64_in _ (by omega)
theorem vA {a b:Nat} (ha:a<2^63) (hb:b<2^63):bits .xor .i64 (a:Int) (b:Int)=((a^^^b:Nat):Int):=by
 have e:bits .xor .i64 (a:Int) (b:Int)=IntKind.i64.wrap ((BitVec.ofInt 64 (a:Int)^^^BitVec.ofInt 64 (b:Int)).toNat :Int):=rfl;have h:a^^^b<2^63:=Nat.xor_lt_two_pow ha hb;rw[e,BitVec.ofInt_natCast,BitVec.ofInt_natCast,BitVec.toNat_xor,BitVec.toNat_ofNat,BitVec.toNat_ofNat,Nat.mod_eq_of_lt (by omega),Nat.mod_eq_of_lt (by omega)];exact IntWalk.i64_in _ (by omega)
theorem ZM {s k:Nat} (hs:s<2^62):bits .and .i64 ((s:Int)/2^k) 1=if s.testBit k then 1 else 0:=by
 have e:((s:Int)/2^k)=((s/2^k:Nat):Int):=by rw[Int.natCast_ediv];rfl
 have hle:s/2^k≤s:=Nat.div_le_self _ _;have h:=VI (a:=s/2^k) (b:=1) (by omega) (by omega);rw[e,show(1:Int)=((1:Nat):Int) from rfl,h,Nat.and_one_is_mod,Nat.testBit_eq_decide_div_mod_eq];have h2:s/2^k%2=0∨s/2^k%2=1:=by omega
 rcases h2 with h2|h2<;>simp[h2]
theorem z5c {k:Nat} (hk:k<62):IntKind.i64.wrap (1*2^k)=((2^k:Nat):Int):=by
 have h:(2:Nat)^k<2^62:=Nat.pow_lt_pow_right (by omega) hk;have e:(1*2^k:Int)=((2^k:Nat):Int):=by rw[Int.one_mul,Int.natCast_pow];rfl
 rw[e];clear e;generalize (2:Nat)^k=z at*;exact IntWalk.i64_in _ (by omega)
def memS (s m:Nat):List Nat:=(List.range m).filter (s.testBit ·)
theorem qp {s m:Nat} (h:s.testBit m=true):memS s (m+1)=memS s m++[m]:=by simp[memS,List.range_succ,List.filter_append,h]
theorem j6 {s m:Nat} (h:s.testBit m=false):memS s (m+1)=memS s m:=by simp[memS,List.range_succ,List.filter_append,h]
theorem z2s (s m:Nat):(memS s m).length ≤m:=by
 have:=List.length_filter_le (s.testBit ·) (List.range m)
 simpa[memS] using this
theorem z4p {s m:Nat}:(memS s m).length =m↔∀i,i<m→s.testBit i=true:=by
 constructor
 ·intro h i hi
  have h2:(List.range m).filter (s.testBit ·)=List.range m:=List.length_filter_eq_length_iff.1 (by simpa[memS] using h) |> fun h3=>List.filter_eq_self.2 h3
  have:=List.filter_eq_self.1 h2 i (List.mem_range.2 hi);exact this
 ·intro h
  have h2:(List.range m).filter (s.testBit ·)=List.range m:=List.filter_eq_self.2 (fun i hi=>h i (List.mem_range.1 hi));simp[memS,h2]
theorem V5 {s m:Nat} (h:s<2^m):∀j,memS s (m+j)=memS s m
 |0=>rfl
 |j+1=>by
  rw[show m+(j+1)=(m+j)+1 by omega,j6 (Nat.testBit_lt_two_pow (Nat.lt_of_lt_of_le h (Nat.pow_le_pow_right (by omega) (by omega))))];exact V5 h j
end Go.Proofs.YtnjcpljhmhdhkaaGreat
