/- part 5 -/
import Derived.Test.YtnjcpljhmhdhkaaGreatUPk4
set_option linter.unusedSimpArgs false
set_option linter.unusedVariables false
set_option maxRecDepth 100000
set_option maxHeartbeats 8000000
namespace Go.Proofs.YtnjcpljhmhdhkaaGreat
open Go.RowKit
attribute [local go_sem ↓] qb qf
def xB (a b x:Int):Int:=if x=mx2 a b then mn2 a b else x
def mgK (a b:Int) (g:List Int) (j:Nat):List Int:=(g.take j).map (xB a b)++g.drop j
theorem z9k (a b:Int) (g:List Int):mgK a b g 0=g:=by simp[mgK]
theorem z9Q (a b:Int) (g:List Int):mgK a b g g.length=g.map (xB a b):=by simp[mgK]
theorem z6o (a b:Int) (g:List Int) (j:Nat):(mgK a b g j).length =g.length:=by
 simp[mgK];omega
theorem z6y (a b:Int) (g:List Int) (j:Nat) (h:j<g.length):(mgK a b g j).getD j 0=g.getD j 0:=by
 unfold mgK;rw[List.getD,abc (by simp;omega)];simp[List.getD,show min j g.length=j by omega]
theorem z3K (a b:Int) (g:List Int) (j:Nat) (h:j<g.length):mgK a b g (j+1)=(mgK a b g j).set j (xB a b (g.getD j 0)):=by
 unfold mgK;rw[aan,aaq (by simp;omega),aax h,aas h];have e:((g.take j).map (xB a b)).length =j:=by simp;omega
 rw[e,aae,aal,aaA,aaT,aaU,aay,List.singleton_append,show g.getD j 0=g[j] by simp[List.getD,h]]
theorem zax {a b:Int} {g:List Int} {j:Nat} (h:j<g.length) (he:g.getD j 0=mx2 a b):mgK a b g (j+1)=(mgK a b g j).set j (mn2 a b):=by
 rw[z3K a b g j h,xB,aao he]
theorem z3m:∀(l:List Int) (j:Nat) (h:j<l.length),l.set j (l.getD j 0)=l
 |x::l,0,_=>rfl
 |x::l,j+1,h=>by
  have:=z3m l j (by simpa using h);simp only[List.getD_cons_succ,aap,this]
theorem zb4 {a b:Int} {g:List Int} {j:Nat} (h:j<g.length) (he:¬g.getD j 0=mx2 a b):mgK a b g (j+1)=mgK a b g j:=by
 rw[z3K a b g j h,xB,aaq he,<-z6y a b g j h];exact z3m _ _ (by rw[z6o];exact h)
def pstep (g:List Int) (l:Pr):List Int:=g.map (xB (g.getD l.1.toNat 0) (g.getD l.2.toNat 0))
def zi (n:Nat) (ls:List Pr) (k:Nat):List Int:=(ls.take k).foldl pstep (natI (List.range n))
theorem xD:∀(l:List Pr) (g:List Int),(l.foldl pstep g).length =g.length
 | [],g=>rfl
 |p::l,g=>by rw[List.foldl_cons,xD l];simp[pstep]
theorem jf (n:Nat) (ls:List Pr) (k:Nat):(zi n ls k).length =n:=by
 unfold zi;rw[xD];simp[natI]
theorem JT (n:Nat) (ls:List Pr):zi n ls 0=natI (List.range n):=rfl
theorem kq (n:Nat) (ls:List Pr) (k:Nat) (h:k<ls.length) (p q:Nat) (hp:(ndI ls k).1=p) (hq:(ndI ls k).2=q):
  zi n ls (k+1)=(zi n ls k).map (xB ((zi n ls k).getD p 0) ((zi n ls k).getD q 0)):=by
 unfold zi;rw[aax h,List.foldl_append,List.foldl_cons,List.foldl_nil,pstep];have e:ls[k]=ndI ls k:=(qd ls k h).symm;rw[e,hp,hq,aa6,aa6]
theorem z7L (k:Nat):natI (List.range (k+1))=natI (List.range k)++[(k:Int)]:=by simp[natI,abf]
theorem XM (vn vl:Value) (ns ls:List Pr) (w:World) (hn:RP w vn ns) (hl:RP w vl ls) (hm:ls.length<=20) (ck:ns.length<=12) (fH:0<ns.length) (Hu:∀j:Nat,j<ls.length->zp ns (ndI ls j)=true):
  Calls Tryz.prog 119 #[.agg #[vn,vl]] w (RetI (zi ns.length ls ls.length) w):=by
 obtain⟨An,cn,rfl,ci,fC,_⟩:=hn.formI;obtain⟨Al,cl,rfl,Ho,GO,hcell⟩:=hl.formI;unfold maxLen at fC GO;obtain⟨i0,hi,iz0,iz1,iz2⟩:=info_parts ql;have Bk:=h_ Hu;have NC:=h_ hcell;clear Hu hcell
 go_enter Tryz.func119,Tryz.ntmps119
 go_wp2
 go_loopw [3,4] (fun v i wr=>∃k:Nat,k<=ns.length/\i= .int .i64 k/\OwnI (w.heap.size+1) wr v (natI (List.range k))/\Blk wr w.heap.size 27 #[.slice An ns.length cn,.slice Al ls.length cl]/\Below w.heap.size w wr) (fun _ i _=>ns.length -(intOf i).toNat)
 case atStart=>exact⟨0,aab _,rfl,OwnI.made (by simp) (by simp),(Blk.newAt rfl).alloc _,by exact bel_⟩
 case round=>
  obtain⟨k,hk,rfl,ho,hW,Hb⟩:=hrel;have gj:=hW.lt;obtain⟨a_0,a_1⟩:=hW.c2;obtain⟨A1,c1,M1⟩:=ho.form;rw[za,abr] at M1;subst M1
  by_cases Hd:k<ns.length
  ·have HS:=h_ (z7L k)
   have cm:Hid ((natI (List.range k)).length =k):=h_ (by simp[natI]);generalize natI (List.range k)=G at*
   go_wp2_with (at_builtin;refine wpList_append_own _ rfl _ _ 31 rfl (w.heap.size+1) 3 i0 (.int .i64 0) 1 8 Tryz.underlying31 hi iz0 iz1 iz2 rfl (by decide) _ _ _ rfl (World.ownsRow.alloc ho _) ⟨wr.heap.size,0,none⟩ 1 1 [.int .i64 _] rfl rfl (cell_one_new _ _ _) (by intro u hu;simp at hu;subst hu;rfl) (by rw[cm.out];unfold maxLen;omega) (by rw[cm.out];omega) (by simp;omega) ?_)
   intro v2 w2 fo Gr Gv;have He:=(Hb.alloc (show w.heap.size<=wr.heap.size by omega) (.cells #[.int .i64 (k:Int)] 3)).grown Gr (by simp;omega) (fun k hk=>by have:=(ho.lt k hk).1;omega);have gV:Blk w2 w.heap.size 27 #[.slice An ns.length cn,.slice Al ls.length cl]:=(Gr.block _ (by simp;omega) (fun e=>by have:=(ho.lt _ e.symm).1;omega)).trans (hW.alloc _);have Hm:=h_ (OwnI.snoc fo);clear Gr Gv fo ho hW Hb a_0 a_1;go_wp2;go_roundw
   case rel=>exact⟨k+1,by omega,by go_num,by rw[HS.out];exact Hm.out,gV,He⟩
   case measure=>simp[intOf];omega
  ·have Hw:k=ns.length:=o_
   subst Hw
   rcases Gf:ho.2 with ⟨e0,e1⟩|⟨gb,cap,cur,e0,mI,FZ⟩
   ·rw[za,abr] at e1;omega
   clear Gf FZ
   injection e0 with e0 e1 e2
   subst e0 e2;clear e1;have Bo:=(ho.lt gb rfl).2;have gr:¬gb=w.heap.size:=o_
   have cU:=h_ (show OwnI (w.heap.size+1) wr (.slice (some ⟨gb,0,none⟩) ns.length c1) (zi ns.length ls 0) from ho);clear ho Hd hk;go_wp2
   go_loopw [5] (fun i wr=>∃k:Nat,k<=ls.length/\i= .int .i64 k/\OwnI (w.heap.size+1) wr (.slice (some ⟨gb,0,none⟩) ns.length c1) (zi ns.length ls k)/\Blk wr w.heap.size 27 #[.slice An ns.length cn,.slice Al ls.length cl]/\Below w.heap.size w wr/\gb<wr.heap.size) (fun i _=>ls.length -(intOf i).toNat)
   case atStart=>exact⟨0,aab _,rfl,cU.out,hW,Hb,Bo⟩
   case round=>
    clear cU hW Hb Bo gj a_0 a_1;obtain⟨k,hk,rfl,ho,hW,Hb,Bo⟩:=hrel;obtain⟨a_0,a_1⟩:=hW.c2
    by_cases Hd:k<ls.length
    ·obtain⟨b,off,rfl,hb,Ho⟩:=NC.out o_
     obtain⟨k0,k1⟩:=Ho k Hd;have q0:=(Hb.cell (p:=⟨b,off+k*2,none⟩) hb).trans k0;have q1:=(Hb.cell (p:=⟨b,off+k*2+1,none⟩) hb).trans k1;obtain⟨h1,h2,h3,_⟩:=q9.1 (Bk.out k Hd);obtain⟨p,hp⟩:∃p:Nat,(ndI ls k).1=p:=⟨(ndI ls k).1.toNat,by omega⟩;obtain⟨q,hq⟩:∃q:Nat,(ndI ls k).2=q:=⟨(ndI ls k).2.toNat,by omega⟩;have HS:=h_ (kq ns.length ls k Hd p q hp hq);have cm:=h_ (jf ns.length ls k);rw[hp] at q0 h1 h2;rw[hq] at q1 h2 h3;have hpn:p<ns.length:=o_
     have hqn:q<ns.length:=o_
     generalize zi ns.length ls k=G at*;have x0:=ho.cell (q:=p) (by rw[cm.out];exact hpn);have x1:=ho.cell (q:=q) (by rw[cm.out];exact hqn);obtain⟨a,ha⟩:∃a,G.getD p 0=a:=⟨_,rfl⟩;obtain⟨c,hc⟩:∃c,G.getD q 0=c:=⟨_,rfl⟩;rw[ha] at x0 HS;rw[hc] at x1 HS;have ip1:(0:Int)<=(p:Int):=o_
     have ip2:(p:Int)<(ns.length:Int):=o_
     have iq1:(0:Int)<=(q:Int):=o_
     have iq2:(q:Int)<(ns.length:Int):=o_
     have cU:=h_ (show OwnI (w.heap.size+1) wr (.slice (some ⟨gb,0,none⟩) ns.length c1) (mgK a c G 0) by rw[z9k];exact ho);clear Ho k0 k1 hp hq ha hc ho h1 h2 h3;go_wp2
     go_loopw [8] (fun x wr=>∃j:Nat,j<=ns.length/\x= .int .i64 j/\OwnI (w.heap.size+1) wr (.slice (some ⟨gb,0,none⟩) ns.length c1) (mgK a c G j)/\Blk wr w.heap.size 27 #[.slice An ns.length cn,.slice (some ⟨b,off,none⟩) ls.length cl]/\Below w.heap.size w wr/\gb<wr.heap.size) (fun x _=>ns.length -(intOf x).toNat)
     case atStart=>exact⟨0,aab _,rfl,cU.out,hW,Hb,Bo⟩
     case round=>
      clear cU hW Hb Bo a_0 a_1 q0 q1 x0 x1;obtain⟨j,hj,rfl,ho,hW,Hb,Bo⟩:=hrel;obtain⟨a_0,a_1⟩:=hW.c2
      by_cases hlj:j<ns.length
      ·have hjg:j<G.length:=by rw[cm.out];exact hlj
       have x0:=ho.cell (q:=j) (by rw[z6o];exact hjg);rw[z6y a c G j hjg] at x0;have HY:=h_ (fun he=>zax (a:=a) (b:=c) hjg he);have HN:=h_ (fun he=>zb4 (a:=a) (b:=c) hjg he);generalize G.getD j 0=x at*
       by_cases he:x=mx2 a c
       ·have e1:(x==mx2 a c)=true:=beq_iff_eq.2 he
        have fp:=ho.frz j;have HO:=h_ (show OwnI (w.heap.size+1) (wr.setCell ⟨gb,j,none⟩ (.int .i64 (mn2 a c))) (.slice (some ⟨gb,0,none⟩) ns.length c1) (mgK a c G (j+1)) by rw[HY.out he];exact ho.set_ j _);have CL:=h_ (Hb.setCell (p:=⟨gb,j,none⟩) (show w.heap.size<=gb by omega) (.int .i64 (mn2 a c)));have CT:=h_ (hW.far (p:=⟨gb,j,none⟩) (Ne.symm gr) (.int .i64 (mn2 a c)));clear ho hW Hb he a_0 a_1;go_wp2;go_roundw
        case rel=>exact⟨j+1,by omega,by go_num,HO.out,CT.out,CL.out,by simpa using Bo⟩
        case measure=>simp[intOf];omega
       ·have e1:(x==mx2 a c)=false:=beq_eq_false_iff_ne.2 he
        have HO:=h_ (show OwnI (w.heap.size+1) wr (.slice (some ⟨gb,0,none⟩) ns.length c1) (mgK a c G (j+1)) by rw[HN.out he];exact ho);clear ho he;go_wp2;go_roundw
        case rel=>exact⟨j+1,by omega,by go_num,HO.out,hW,Hb,Bo⟩
        case measure=>simp[intOf];omega
      ·have GV:j=ns.length:=o_
       subst GV
       have HO:=h_ (show OwnI (w.heap.size+1) wr (.slice (some ⟨gb,0,none⟩) ns.length c1) (zi ns.length ls (k+1)) by
        rw[HS.out,<-z9Q];rw[cm.out];exact ho)
       clear ho;go_wp2;go_roundw
       case rel=>exact⟨k+1,by omega,by go_num,HO.out,hW,Hb,Bo⟩
       case measure=>simp[intOf];omega
    ·have Hw:k=ls.length:=o_
     subst Hw;have HO:=h_ ho;clear ho;go_wp2;go_ret
     exact⟨_,rfl,HO.out.mono o_,Hb⟩
noncomputable def zf (ns ls:List Pr):Bool:=winB ns ls&&(decide (0<ls.length)&&(zi ns.length ls ls.length).all (· ==0))
theorem zI {ns ls:List Pr} (h:zf ns ls=true):zL ns ls/\0<ls.length:=by
 unfold zf at h;rw[aaH,aaH] at h;exact⟨zD.1 h.1,by simpa using h.2.1⟩
theorem z5u (vn vl:Value) (ns ls:List Pr) (w:World) (hn:RP w vn ns) (hl:RP w vl ls):
  CB_ 45 #[.agg #[vn,vl]] w (.bool (zf ns ls)):=by
 obtain⟨An,cn,rfl,ci,fC,_⟩:=hn.formI;obtain⟨Al,cl,rfl,Ho,GO,_⟩:=hl.formI;unfold maxLen at fC GO;have Hg:Below w.heap.size w (w.alloc (.cells #[.slice An ns.length cn,.slice Al ls.length cl] 27)):=bel_
 cases hw:winB ns ls
 ·have HR:Hid (zf ns ls=false):=h_ (by simp[zf,hw])
  go_enter Tryz.func45,Tryz.ntmps45
  go_wp2_with fail
  refine(zJ _ _ ns ls _ _ (hn.below Hg) (hl.below Hg) hw).mono ?_
  rintro e w1 ⟨rfl,h9⟩;go_wp2;go_ret
  exact⟨z8 HR.out.symm,by exact bel_⟩
 ·by_cases h0:ls.length=0
  ·have HR:Hid (zf ns ls=false):=h_ (by simp[zf,hw,h0])
   have e1:((ls.length:Int)==0)=true:=by simp[h0]
   clear h0
   go_enter Tryz.func45,Tryz.ntmps45
   go_wp2_with fail
   refine(zJ _ _ ns ls _ _ (hn.below Hg) (hl.below Hg) hw).mono ?_
   rintro e w1 ⟨rfl,h9⟩;(have Gb:=bcC h9)
   go_wp2;go_ret
   exact⟨z8 HR.out.symm,by exact bel_⟩
  ·have fv:=zD.1 hw
   have HR:Hid (zf ns ls=(zi ns.length ls ls.length).all (· ==0)):=h_ (by simp[zf,hw];omega);have e1:((ls.length:Int)==0)=false:=by simp[h0]
   have be:=h_ fv;clear fv h0
   go_enter Tryz.func45,Tryz.ntmps45
   go_wp2_with fail
   refine(zJ _ _ ns ls _ _ (hn.below Hg) (hl.below Hg) hw).mono ?_
   rintro e w1 ⟨rfl,h9⟩;have h8:Below w.heap.size w w1:=bel_
   have gg:Blk w1 w.heap.size 27 #[.slice An ns.length cn,.slice Al ls.length cl]:=(Blk.newAt rfl).below h9 (by simp);obtain⟨a_0,a_1⟩:=gg.c2;clear h9
   go_wp2_with fail
   refine(XM _ _ ns ls _ (hn.below h8) (hl.below h8) be.out.2.2.1 be.out.2.1 be.out.1 (fun j hj=>(be.out.2.2.2.2.2 j hj).1)).mono ?_
   rintro e w2 ⟨v,rfl,Hm,He⟩;have Ha:=h8.trans (He.mono h8.size);obtain⟨A,c,rfl,hc,hm,hcell⟩:=Hm.reads.form;generalize zi ns.length ls ls.length=G at*;unfold maxLen at hm;clear He Hm gg a_0 a_1 h8 hw;go_wp2
   go_loop [4] (fun i=>∃k:Nat,k<=G.length/\i= .int .i64 k/\(G.take k).all (· ==0)=true) (fun i=>G.length -(intOf i).toNat)
   case atStart=>exact⟨0,aab _,rfl,by simp⟩
   case round=>
    obtain⟨k,hk,rfl,fb⟩:=hrel
    by_cases Hd:k<G.length
    ·obtain⟨b,off,rfl,hb,Ho⟩:=hcell o_
     have fK:=Ho k Hd;clear Ho hcell
     have hts:(G.take (k+1)).all (· ==0)=(G.getD k 0==0):=by
      rw[aax Hd,List.all_append,fb];simp[List.getD,aac Hd]
     have hex:(G.getD k 0==0)=false->G.all (· ==0)=false:=by
      intro h0;rw[List.all_eq_false];exact⟨G[k],abh Hd,by simpa[List.getD,aac Hd] using h0⟩
     generalize hx:G.getD k 0=x at*;have UW:=h_ hts;have HEX:=h_ hex;clear hts hex fb hx
     by_cases hq:x=0
     ·have HQ:Hid ((x==0)=true):=h_ (by simp[hq])
      have e2:(x != 0)=false:=by simp[hq]
      clear hq;go_wp2;go_round
      case rel=>exact⟨k+1,by omega,by go_num,by rw[UW.out];exact HQ.out⟩
      case measure=>simp[intOf];omega
     ·have HQ:Hid ((x==0)=false):=h_ (by simp[hq])
      have e2:(x != 0)=true:=by simp[hq]
      clear hq;go_wp2;go_ret
      exact⟨z8 (by rw[HR.out];exact(HEX.out HQ.out).symm),Ha⟩
    ·have Hw:G.length<=k:=o_
     rw[aaL Hw] at fb;have HA:=h_ fb;clear fb hcell;go_wp2;go_ret
     exact⟨z8 (by rw[HR.out];exact HA.out.symm),Ha⟩
theorem j7 (vn vl:Value) (ns ls:List Pr) (b:Bool) (w:World) (hn:RP w vn ns) (hl:RP w vl ls) (hb:zf ns ls=b):
  CB_ 45 #[.agg #[vn,vl]] w (.bool b):=by
 subst hb;exact z5u vn vl ns ls w hn hl
attribute [local go_sem ↓] zv zu qb qf
def othI (l:Pr) (k:Int):Int:=if k=l.1 then l.2 else if k=l.2 then l.1 else -1
theorem z5y (a b k:Int) (w:World):
  CB_ 249 #[.agg #[.int .i64 a,.int .i64 b],.int .i64 k] w (.int .i64 (othI (a,b) k)):=by
 go_enter Tryz.func249,Tryz.ntmps249
 go_wp2
 all_goals go_ret
 all_goals refine⟨zb ?_,by exact bel_⟩
 all_goals (unfold othI;simp_all)
theorem z4E (a b k:Int) (w:World):
  CB_ 188 #[.agg #[.int .i64 a,.int .i64 b],.int .i64 k] w (.int .i64 (othI (a,b) k)):=by
 go_enter Tryz.func188,Tryz.ntmps188
 go_wp2
 all_goals go_ret
 all_goals refine⟨zb ?_,by exact bel_⟩
 all_goals (unfold othI;simp_all)
theorem xS {ns ls:List Pr} {k:Int} (h:hasN ns ls k=true):winB ns ls=true/\∃m:Nat,k=(m:Int)/\m<ns.length:=by
 unfold hasN at h;rw[aaH] at h;have:=zd.1 h.2;exact⟨h.1,k.toNat,by omega,by omega⟩
theorem z2k (ls:List Pr) (k:Int):∀m,∀i∈atN ls k m,i<m/\jR ls k i=true
 |0,i,h=>by simp[atN] at h
 |m+1,i,h=>by
  cases ht:jR ls k m
  ·rw[z1z ht] at h
   have:=z2k ls k m i h;exact⟨by omega,this.2⟩
  ·rw[V6 ht,aaJ,aba] at h
   rcases h with h|h
   ·have:=z2k ls k m i h
    exact⟨by omega,this.2⟩
   ·subst h;exact⟨by omega,ht⟩
def yY (ls:List Pr) (k:Int) (G:List Nat):List Int:=G.map fun (i:Nat)=>othI (ndI ls i) k
theorem z2c (ls:List Pr) (k:Int) (G:List Nat):(yY ls k G).length =G.length:=by simp[yY]
theorem z0R (vn vl:Value) (ns ls:List Pr) (k:Int) (w:World) (hn:RP w vn ns) (hl:RP w vl ls) (hk:hasN ns ls k=true):
  Calls Tryz.prog 217 #[.agg #[vn,vl],.int .i64 k] w (RetI (yY ls k (atN ls k ls.length)) w):=by
 have GW:ls.length<=20:=(zD.1 (xS hk).1).2.2.1;obtain⟨Al,cl,rfl,Ho,GO,gx⟩:=hl.formI;obtain⟨i0,hi,iz0,iz1,iz2⟩:=info_parts ql;unfold maxLen at GO
 go_enter Tryz.func217,Tryz.ntmps217
 go_wp2_with fail
 refine(kY _ _ ns ls _ _ (hn.below bel_) (hl.below bel_) hk).mono ?_
 rintro e w1 ⟨v1,rfl,Hj,h9⟩;have WY:=h9.size;simp at WY
 obtain⟨A1,c1,rfl⟩:=Hj.form;have gg:Blk w1 w.heap.size 27 #[vn,.slice Al ls.length cl]:=Blk.below (Blk.newAt rfl) h9 sz_;have h8:Below w.heap.size w w1:=bel_
 have nZ:=Hj.reads;have hglen:=V7 ls k ls.length;have F0:=h_ (z2k ls k ls.length);have fG:=za (atN ls k ls.length);obtain⟨A1',c1',e1,Gb,hmG,ND⟩:=nZ.form
 cases e1
 generalize atN ls k ls.length=G at*;rw[fG] at ND;have mQ:=h_ fG;obtain⟨a_0,a_1⟩:=gg.c2;have hGm:((natI G).length :Int)=(G.length:Int):=by rw[mQ.out]
 go_wp2
 go_loopw [5,12] (fun v i wr=>∃j:Nat,j<=G.length/\i= .int .i64 j/\OwnI w1.heap.size wr v (yY ls k (G.take j))/\Blk wr w.heap.size 27 #[vn,.slice Al ls.length cl]/\Below w1.heap.size w1 wr) (fun _ i _=>G.length -(intOf i).toNat)
 case atStart=>exact⟨0,aab _,rfl,OwnI.nil _ _,gg,aaj _ _⟩
 case round=>
  obtain⟨j,hj,rfl,ho,hW,Hb⟩:=hrel;have gj:=hW.lt;have WR:=Hb.size;obtain⟨a_0,a_1⟩:=hW.c2
  by_cases Hd:j<G.length
  ·obtain⟨bg,og,rfl,mI,hcg⟩:=ND o_
   have q:=(Hb.cell (p:=⟨bg,og+j,none⟩) mI).trans (hcg j Hd);have e2:(natI G).getD j 0=((G[j]:Nat):Int):=by simp[natI,List.getD,Hd]
   rw[e2] at q;have hgj:=(F0.out G[j] (abh Hd)).1
   have HS:Hid (yY ls k (G.take (j+1))=yY ls k (G.take j)++[othI (ndI ls (G[j]:Nat)) k]):=h_ (by
    unfold yY;rw[aax Hd,aaA];rfl)
   have HL:Hid ((yY ls k (G.take j)).length =j):=h_ (by rw[z2c];simp;omega);generalize G[j]=p at*;obtain⟨b,off,rfl,hb,Gq⟩:=gx o_;obtain⟨k0,k1⟩:=Gq p hgj;have gy:Below w.heap.size w wr:=h8.trans (Hb.mono h8.size);have q0:=(gy.cell (p:=⟨b,off+p*2,none⟩) hb).trans k0;have q1:=(gy.cell (p:=⟨b,off+p*2+1,none⟩) hb).trans k1;have FT:(0:Int)<=(j:Int):=o_
   have cf:(j:Int)<(G.length:Int):=o_
   have MZ:(0:Int)<=(p:Int):=o_
   have hi4:(p:Int)<(ls.length:Int):=o_
   generalize ndI ls (p:Int)=L at*;obtain⟨l1,l2⟩:=L;simp only at q0 q1
   go_wp2_with fail
   refine(z5y _ _ _ _).mono ?_
   rintro e w2 ⟨rfl,He⟩;have Gd:=He.size;have Hm:=ho.kept He;have gV:=hW.below He gj;have gn:Below w1.heap.size w1 w2:=Hb.trans (He.mono WR);obtain⟨A2,c2,rfl⟩:=Hm.form;generalize othI (l1,l2) k=x at*
   go_wp2_with (at_builtin;refine wpList_append_own _ rfl _ _ 31 rfl w1.heap.size 3 i0 (.int .i64 0) 1 8 Tryz.underlying31 hi iz0 iz1 iz2 rfl (by decide) _ _ _ rfl (World.ownsRow.alloc Hm _) ⟨w2.heap.size,0,none⟩ 1 1 [.int .i64 _] rfl rfl (jl (by simp)) (by intro u hu;simp at hu;subst hu;rfl) (by rw[HL.out];unfold maxLen;omega) (by rw[HL.out];omega) (by simp;omega) ?_)
   intro v3 w3 Cu gM _;have Hk:∀b,(Value.slice A2 (yY ls k (G.take j)).length c2).ownBlock =some b->w1.heap.size<=b:=fun b hb=>(Hm.lt b hb).1
   have GJ:=(gV.alloc (.cells #[.int .i64 x] 3)).grownR gM (fun b hb=>by have:=Hk b hb;omega);have HO:OwnI w1.heap.size w3 v3 (yY ls k (G.take j)++[x]):=OwnI.snoc Cu;have gz:Below w1.heap.size w1 w3:=(Below.alloc gn o_ _).grown gM sz_ (fun b hb=>Hk b hb);go_wp2;go_roundw
   case rel=>exact⟨j+1,by omega,by go_num,by rw[HS.out];exact HO,GJ,gz⟩
   case measure=>simp[intOf];omega
  ·have GV:j=G.length:=o_
   subst GV;rw[aaB] at ho;go_wp2;go_ret
   exact⟨_,rfl,ho.mono (show w.heap.size<=w1.heap.size by omega),h8.trans (Hb.mono h8.size)⟩
noncomputable def zP (ns ls:List Pr) (k:Int):Bool:=
 decide (degI ns ls k=2)&&jE (ndI ns ((yY ls k (atN ls k ls.length)).getD 0 0)) (ndI ns ((yY ls k (atN ls k ls.length)).getD 1 0)) (ndI ns k)
theorem deg2 {ns ls:List Pr} {k:Int} (h:degI ns ls k=2):hasN ns ls k=true/\(atN ls k ls.length).length =2:=by
 unfold degI at h
 cases hk:hasN ns ls k
 ·rw[hk] at h;simp at h
 ·rw[hk] at h
  simp at h
  exact⟨rfl,by omega⟩
theorem z6h {ns ls:List Pr} {k:Int} (hw:zL ns ls) {i:Nat} (hi:i<ls.length) (ht:jR ls k i=true):∃t:Nat,othI (ndI ls i) k=(t:Int)/\t<ns.length/\(t:Int)≠k:=by
 obtain⟨h1,h2,h3,_⟩:=q9.1 ((hw.2.2.2.2.2 i hi).1);unfold othI
 by_cases e1:k=(ndI ls i).1
 ·rw[aao e1]
  exact⟨(ndI ls i).2.toNat,by omega,by omega,by omega⟩
 ·rw[aaq e1]
  have e2:=Jp ht (fun h=>e1 h.symm);rw[aao e2.symm];exact⟨(ndI ls i).1.toNat,by omega,by omega,by omega⟩
theorem VV {ns ls:List Pr} {k:Int} (hw:zL ns ls) (h2:(atN ls k ls.length).length =2):
  ∃p q t u:Nat,atN ls k ls.length=[p,q]/\p<ls.length/\q<ls.length/\yY ls k (atN ls k ls.length)=[(t:Int),(u:Int)]/\t<ns.length/\u<ns.length/\(t:Int)≠k/\(u:Int)≠k/\
   othI (ndI ls p) k=(t:Int)/\othI (ndI ls q) k=(u:Int):=by
 have Hd:=z2k ls k ls.length;generalize atN ls k ls.length=G at*
 obtain⟨p,q,rfl⟩:∃p q,G=[p,q]:=by
  match G,h2 with
  | [p,q],_=>exact⟨p,q,rfl⟩
 obtain⟨hp,tp⟩:=Hd p (by simp);obtain⟨hq,tq⟩:=Hd q (by simp);obtain⟨t,e1,ht,Bj⟩:=z6h hw hp tp;obtain⟨u,e2,hu,mu⟩:=z6h hw hq tq;exact⟨p,q,t,u,rfl,hp,hq,by simp[yY,e1,e2],ht,hu,Bj,mu,e1,e2⟩
theorem z0i (vn vl:Value) (ns ls:List Pr) (k:Int) (w:World) (hn:RP w vn ns) (hl:RP w vl ls):
  CB_ 216 #[.agg #[vn,vl],.int .i64 k] w (.bool (zP ns ls k)):=by
 by_cases hd:degI ns ls k=2
 case neg=>
  have HR:Hid (zP ns ls k=false):=h_ (by simp[zP,hd]);obtain⟨d,CU⟩:∃d,degI ns ls k=d:=⟨_,rfl⟩;have hd2:(d != 2)=true:=by rw[<-CU];simpa using hd
  have HD:=h_ CU
  go_enter Tryz.func216,Tryz.ntmps216
  go_wp2_with fail
  refine(JG _ _ ns ls _ _ (hn.below bel_) (hl.below bel_)).mono ?_
  rw[HD.out];rintro e w1 ⟨rfl,h9⟩;go_wp2;go_ret
  exact⟨z8 HR.out.symm,by exact bel_⟩
 obtain⟨hk,h2⟩:=deg2 hd;obtain⟨hw,m,rfl,hm⟩:=xS hk;have Hn:=zD.1 hw;obtain⟨p,q,t,u,eG,hp,hq,eE,ht,hu,_,_,_,_⟩:=VV Hn h2
 have HR:Hid (zP ns ls m=yI (ndI ns t).1 (ndI ns t).2 (ndI ns u).1 (ndI ns u).2 (ndI ns m).1 (ndI ns m).2):=h_ (by
  unfold zP;rw[hd,eE];simp[jE])
 have HD:=h_ hd;have ck:=Hn.2.1;obtain⟨An,cn,rfl,ci,fC,Ht⟩:=hn.formI;unfold maxLen at fC;obtain⟨bn,offn,rfl,GE,Gq⟩:=Ht o_;obtain⟨t0,t1⟩:=Gq t ht;obtain⟨u0,u1⟩:=Gq u hu;obtain⟨m0,m1⟩:=Gq m hm;have it1:(0:Int)<=(t:Int):=o_
 have it2:(t:Int)<(ns.length:Int):=o_
 have iu1:(0:Int)<=(u:Int):=o_
 have iu2:(u:Int)<(ns.length:Int):=o_
 have im1:(0:Int)<=(m:Int):=o_
 have im2:(m:Int)<(ns.length:Int):=o_
 have HE:=h_ eE
 go_enter Tryz.func216,Tryz.ntmps216
 go_wp2_with fail
 refine(JG _ _ ns ls _ _ (hn.below bel_) (hl.below bel_)).mono ?_
 rw[HD.out];rintro e w1 ⟨rfl,h9⟩;have gg:Blk w1 w.heap.size 27 #[.slice (some ⟨bn,offn,none⟩) ns.length cn,vl]:=Blk.below (Blk.newAt rfl) h9 sz_;have h8:Below w.heap.size w w1:=bel_
 obtain⟨a_0,a_1⟩:=gg.c2
 go_wp2_with fail
 refine(z0R _ _ ns ls _ _ (hn.below h8) (hl.below h8) hk).mono ?_
 rw[HE.out];rintro e w2 ⟨v2,rfl,Hm,He⟩;have gV:=gg.below He gg.lt;have Ha:Below w.heap.size w w2:=h8.trans (He.mono h8.size);obtain⟨A2,c2,e2,fa,_,GX⟩:=Hm.reads.form;subst e2;obtain⟨b2,o2,rfl,NE,GG⟩:=GX (by simp);have x0:=GG 0 (by simp);have x1:=GG 1 (by simp);simp only[List.getD_cons_zero,List.getD_cons_succ,aaf] at x0 x1
 have c0:=(Ha.cell (p:=⟨bn,offn+t*2,none⟩) GE).trans t0;have c1':=(Ha.cell (p:=⟨bn,offn+t*2+1,none⟩) GE).trans t1;have c3:=(Ha.cell (p:=⟨bn,offn+u*2,none⟩) GE).trans u0;have c4:=(Ha.cell (p:=⟨bn,offn+u*2+1,none⟩) GE).trans u1;have c5:=(Ha.cell (p:=⟨bn,offn+m*2,none⟩) GE).trans m0;have c6:=(Ha.cell (p:=⟨bn,offn+m*2+1,none⟩) GE).trans m1;have z1:w.heap.size<w2.heap.size:=gV.lt;have z2:bn<w2.heap.size:=o_
 obtain⟨a_0,a_1⟩:=gV.c2;simp only[aaV,List.length_nil,aaG] at fa
 go_wp2_with fail
 (refine z7 k_ k_ (fun hG=>?_))
 repeat (go_big_quiet_step ((go_at_call 213;exact zy (xm _ _ _ _ _ _ _))))
 (refine wpQuiet_nil ?_);(clear hG);(rintro w3 ⟨⟨_,Hf⟩,rfl⟩);(try dsimp only)
 go_wp2;go_ret
 exact⟨z8 HR.out.symm,by exact bel_⟩
end Go.Proofs.YtnjcpljhmhdhkaaGreat
