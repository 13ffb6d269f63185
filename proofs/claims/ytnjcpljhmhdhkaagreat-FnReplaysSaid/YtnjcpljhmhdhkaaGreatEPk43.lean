/- part 43 -/
import Derived.Test.YtnjcpljhmhdhkaaGreatEPk41
import Derived.Test.YtnjcpljhmhdhkaaGreatEPk42
set_option linter.unusedSimpArgs false
set_option linter.unusedVariables false
set_option maxRecDepth 100000
set_option maxHeartbeats 16000000
namespace Go.Proofs.YtnjcpljhmhdhkaaGreat
open Go.RowKit
def z9z (w:World) (e:Ending) (w':World):Prop:=∃G u,e= .returned u/\OwnI w.heap.size w' u G/\Hid (G.length=12)/\Hid (∀z∈G,0<=z/\z<10000)/\Below w.heap.size w w'
theorem z9q (v:Value) (zs:List Int) (w:World) (h:RB w v zs) (hle:zs.length<=1048576):
  Calls Tryz.prog 51 #[v] w (z9z w):=by
 have Gq:=h_ h;have gf:=h_ hle;clear h hle
 go_enter Tryz.func51,Tryz.ntmps51
 go_wp2_with fail
 refine(z8Y v zs _ Gq.out gf.out).mono ?_
 rintro e w1 ⟨g,rfl,gc⟩;have hgl:=gc.lt;have h9:=gc.2.1;have rF:Hid (zx w v g (w1.alloc (.cells #[] 3))):=h_ (gc.alloc _);have mn:Hid (OwnI w1.heap.size (w1.alloc (.cells #[] 3)) (.slice (some ⟨w1.heap.size,0,none⟩) 0 0) []):=h_ (OwnI.made rfl (aaa _));have FQ:=h9.size;have GW:Hid (w1.heap.size<=(w1.alloc (.cells #[] 3)).heap.size):=h_ (by simp);clear gc h9;go_wp2
 go_loopw [4,5] (fun u i wr=>∃(j:Nat) (G:List Int),j<=12/\i= .int .i64 j/\Hid (G.length=j)/\Hid (∀z∈G,0<=z/\z<10000)/\Hid (OwnI w1.heap.size wr u G)/\Hid (zx w v g wr)/\Hid (w1.heap.size<=wr.heap.size)) (fun _ i _=>12 -(intOf i).toNat)
 case atStart=>exact⟨0,[],aab _,rfl,h_ rfl,h_ (fun x hx=>by cases hx),mn,rF,GW⟩
 case round=>
  clear mn rF GW;obtain⟨j,G,hj,rfl,HL,HV,HO,HC,HS⟩:=hrel
  by_cases Hf:j<12
  ·have Hp:(j:Int)<12:=o_
   go_wp2_with fail
   refine(zp w v zs g 10000 _ Gq.out gf.out o_ HC.out).mono ?_
   rintro e w2 ⟨x,rfl,x0,x1,gE,gm⟩;have Ca:=OwnI.far HO.out gm (fun k hk=>by cases hk;exact hgl);have hB:w1.heap.size<=w2.heap.size:=aai HS.out gm.size;have UM:=h_ (gE.alloc (.cells #[.int .i64 x] 3));have GH:=OwnI.alloc Ca (.cells #[.int .i64 x] 3);have Hj:=HL.out;clear HO HC gE gm Ca
   go_wp2_with (at_builtin;refine qH rfl _ _ rfl w1.heap.size _ G x rfl w2.heap.size rfl (jA rfl) GH o_ (by simp;omega) ?_)
   intro u3 w3 Hm gn GT;have HO:=h_ Hm;have HC3:=h_ (zx.grown UM.out gn (fun k hk=>aaD hgl (OwnI.lt GH k hk).1));have gk:Hid (w1.heap.size<=w3.heap.size):=h_ (by have:=gn.size;simp at this;omega);clear Hm gn GT GH UM Hj;go_wp2;go_roundw
   case rel=>exact⟨j+1,G++[x],by omega,by go_num,h_ (by rw[aaW,HL.out];rfl),h_ (fun z hz=>by rw[aaI,aa9] at hz;rcases hz with hz|rfl;exact HV.out z hz;exact⟨x0,x1⟩),HO,HC3,gk⟩
   case measure=>simp[intOf];omega
  ·have GP:j=12:=o_
   subst GP;go_wp2;go_ret
   exact⟨G,_,rfl,HO.out.mono FQ,HL,HV,HC.out.2.1⟩
theorem z9v (S:St) (l:List Ac):∀j,∀z∈runN S l j, -1<=z/\z<=40
 |0,z,hz=>by cases hz
 |j+1,z,hz=>by
  unfold runN at hz;rw[aaI,aa9] at hz
  rcases hz with hz|rfl
  ·exact z9v S l j z hz
  ·exact z9A _ _ _ _
theorem z9x (S:St) (l:List Ac):∀z∈ZR S l, -1<=z/\z<=40:=by
 unfold ZR
 split
 ·exact z9v S l _
 ·intro z hz;cases hz
theorem z9y (v:Value) (zs:List Int) (w:World) (h:RB w v zs):
  CB_ 8 #[v] w (.bool true):=by
 cases Ce:decide ((1048576:Int)<zs.length)
 case true=>
  go_enter Tryz.func8,Tryz.ntmps8
  go_wp2_with fail
  refine(z6p v zs _ _ h Ce).mono ?_
  rintro e w' ⟨rfl,rfl⟩;go_wp2;go_ret
  exact⟨rfl,aaj _ _⟩
 case false=>
  have hle:zs.length<=1048576:=by
   have:=of_decide_eq_false Ce;omega
  go_enter Tryz.func8,Tryz.ntmps8
  go_wp2_with fail
  refine(z6p v zs _ _ h Ce).mono ?_
  rintro e w' ⟨rfl,rfl⟩;clear Ce
  go_wp2_with fail
  refine(z0p v zs _ h hle).mono ?_
  rintro e w1 ⟨S,A0,a0,A1,a1,A2,a2,A3,a3,A4,a4,A5,a5,A6,a6,fs,l,u,rfl,gV,mx,_,Hi,GM,h9⟩;have Gq:=h_ (h.below h9);clear h;have HR:=h_ Hi.reads;have HA:=h_ (OwnA.reads GM);have Uq:l.length<=40:=o_
  have Cj:runB S l=true:=by unfold runB;rw[gV];simpa using Uq
  have gf:=h_ (z3Q gV);obtain⟨E,hE⟩:∃q,q=ZG S l:=⟨_,rfl⟩;obtain⟨ns,Bt⟩:∃q,q=ZR S l:=⟨_,rfl⟩;have bH:Hid (∀z∈ns, -1<=z/\z<=40):=h_ (by rw[Bt];exact z9x S l);have HC:=h_ (fun (W:World) (hb:Below w1.heap.size w1 W)=>z1t _ _ _ _ _ _ _ _ S l W (HR.out.below hb) gf.out (HA.out.below hb));have rd:=h_ (fun (ys:List Int) (x:Bool) (hx:decide (ZR S l=ys)=x) (vy:Value) (W:World) (hb:Below w1.heap.size w1 W) (hy:RI W vy ys)=>z9r _ _ _ _ _ _ _ _ vy S l ys x W (HR.out.below hb) gf.out (HA.out.below hb) hy (h_ ((z9t Cj).trans hx)));rw[<-hE,<-Bt] at HC;rw[<-Bt] at rd
  have mI:Hid (ns.length<=40):=h_ (by
   rw[Bt];have h1:=z5z gV Uq;omega)
  clear gV Hi GM hE Bt Cj Uq
  go_wp2_with fail
  refine(HC.out _ bel_).mono ?_
  rintro e w2 ⟨B0,b0,B1,b1,B2,b2,B3,b3,B4,b4,B5,b5,B6,b6,gs,T,t,rfl,Hk,CT,_,Hd⟩;have Co:Blk w2 w1.heap.size 34 #[.slice A0 S.D.fn.length a0,.slice A1 S.D.fl.length a1,.slice A2 S.D.nn.length a2,.slice A3 S.D.nl.length a3,.slice A4 S.D.ss.length a4,.slice A5 S.cs.length a5,.slice A6 S.ds.length a6,.int .i64 S.fund]:=Blk.below (Blk.newAt rfl) Hd sz_;have Ha:Below w1.heap.size w1 w2:=bel_
  have FJ:Hid (OwnI (w1.heap.size+1) w2 (.slice T ns.length t) ns):=h_ (by simpa using CT);obtain⟨z_0,z_1,z_2,z_3,z_4,z_5,z_6,z_7⟩:=Co.c8;have Gu:=Co.lt;clear Hd Hk CT HC
  go_wp2_with fail
  obtain⟨w3,GT⟩:∃q,q=w2.alloc (.cells #[.slice B0 E.D.fn.length b0,.slice B1 E.D.fl.length b1,.slice B2 E.D.nn.length b2,.slice B3 E.D.nl.length b3,.slice B4 E.D.ss.length b4,.slice B5 E.cs.length b5,.slice B6 E.ds.length b6,.int .i64 E.fund] 34):=⟨_,rfl⟩;have He:Below w2.heap.size w2 w3:=GT▸(aaj _ _).alloc (aaa _) _;rw[<-GT];clear GT;have Hc:=Ha.trans (He.mono Ha.size);have F1:=h_ (OwnI.kept FJ.out He);refine(rd.out ns true (by simp) _ _ Hc (OwnI.reads F1.out)).mono ?_
  rintro e w4 ⟨rfl,Hw⟩;have Hn:=Hc.trans (Hw.mono Hc.size);have mP:=(Co.below He Gu).below Hw (Co.below He Gu).lt;have cY:=h_ (OwnI.kept F1.out Hw);clear z_0 z_1 z_2 z_3 z_4 z_5 z_6 z_7 Gu Co He Hw FJ F1 Ha Hc;obtain⟨z_0,z_1,z_2,z_3,z_4,z_5,z_6,z_7⟩:=mP.c8;have Gu:=mP.lt
  rcases abv ns.length with Fn|Fn
  ·have bQ:ns=[]:=abx Fn
   subst bQ;clear Fn
   go_wp2_with fail
   refine(rd.out [1] false rfl _ _ bel_ (OwnI.reads (OwnI.lit1 rfl (aaa _)))).mono ?_
   rintro e w5 ⟨rfl,H0⟩
   have Hv:Below w1.heap.size w1 w5:=by
    have:=H0.size;simp at this
    exact bel_
   go_wp2;go_ret
   exact⟨rfl,h9.trans (Hv.mono h9.size)⟩
  ·obtain⟨g,cg,U7,WD,fM,hgl,nC⟩:=OwnI.blk cY.out Fn
   injection U7 with e1 e2 e3
   subst e1 e3;clear e2;have hq:((ns.length:Int)==0)=false:=beq_eq_false_iff_ne.2 o_;have Cu:=h_ nC;have bK:=h_ Fn;clear nC Fn
   go_wp2_with fail
   refine(z9q v zs _ (Gq.out.below Hn) hle).mono ?_
   rintro e w5 ⟨G,u5,rfl,fG,rf,hGV,H0⟩;obtain⟨pg,pc,rfl,_,_,Wr,NQ⟩:=OwnI.blk fG (show 0<G.length by have:=rf.out;omega);have m9:=NQ 0 (show 0<G.length by have:=rf.out;omega)
   have hpv:0<=G.getD 0 0/\G.getD 0 0<10000:=by
    have mJ:=rf.out;rw[aa6,aac o_];exact hGV.out _ (abg _)
   generalize G.getD 0 0=p0 at*;have Hv:=Hn.trans (H0.mono Hn.size);have Cl:=h_ (OwnI.kept cY.out H0);have MQ:=mP.below H0 Gu;have hlpos:=bK.out;obtain⟨kk,gi⟩:∃kk:Nat,p0%(ns.length:Int)=kk:=⟨(p0%(ns.length:Int)).toNat,by have:=Int.emod_nonneg p0 (show(ns.length:Int)≠0 by omega);omega⟩;have BN:kk<ns.length:=by have:=Int.emod_lt_of_pos p0 (show(0:Int)<ns.length by omega);omega
   have hcell:=(H0.cell (p:=⟨g,kk,none⟩) hgl).trans (Cu.out kk BN);have hfz:=OwnI.frz Cl.out kk
   have hzb: -1<=ns.getD kk 0/\ns.getD kk 0<=40:=by
    rw[aa6,aac BN];exact bH.out _ (abg BN)
   have nU:Hid (decide (ns=ns.set kk (ns.getD kk 0+1))=false):=h_ (by
    rw[aaJ];intro he;have h1:(ns.set kk (ns.getD kk 0+1))[kk]? =some (ns.getD kk 0+1):=by simp[BN]
    rw[<-he,aac BN] at h1;have h2:ns.getD kk 0=ns[kk]:=by rw[aa6,aac BN];rfl
    rw[h2] at h1
    injection h1 with h1
    omega)
   have hlen12:(G.length:Int)=12:=by rw[rf.out];rfl
   have ik1:(0:Int)<=(kk:Int):=o_
   have ik2:(kk:Int)<(ns.length:Int):=o_
   have BJ:IntKind.i64.wrap (ns.getD kk 0+1)=ns.getD kk 0+1:=aaP _ o_;have HS:=h_ (OwnI.set_ Cl.out kk (ns.getD kk 0+1));have BF:w1.heap.size<=g:=o_
   have gQ:Below w1.heap.size w1 (w5.setCell ⟨g,kk,none⟩ (.int .i64 (ns.getD kk 0+1))):=Hv.setCell (p:=⟨g,kk,none⟩) BF _;generalize ns.getD kk 0=q at*;clear z_0 z_1 z_2 z_3 z_4 z_5 z_6 z_7 mP Gu H0 fG NQ Cu Hn cY Hv;obtain⟨z_0,z_1,z_2,z_3,z_4,z_5,z_6,z_7⟩:=MQ.c8;clear MQ
   go_wp2_with fail
   refine(rd.out (ns.set kk (q+1)) false nU.out _ _ gQ (OwnI.reads HS.out)).mono ?_
   rintro e w7 ⟨rfl,fQ⟩;have Gt:=gQ.trans (fQ.mono gQ.size);clear fQ gQ;go_wp2;go_ret
   exact⟨rfl,h9.trans (Gt.mono h9.size)⟩
end Go.Proofs.YtnjcpljhmhdhkaaGreat
