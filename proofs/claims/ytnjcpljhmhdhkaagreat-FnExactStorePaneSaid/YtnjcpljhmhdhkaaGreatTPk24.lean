/- part 24 -/
import Derived.Test.YtnjcpljhmhdhkaaGreatTPk22
set_option linter.unusedSimpArgs false
set_option linter.unusedVariables false
set_option maxRecDepth 100000
set_option maxHeartbeats 8000000
namespace Go.Proofs.YtnjcpljhmhdhkaaGreat
open Go.RowKit
def yS:Int→List Sp→List Sp
 |_,[]=> []
 |a,s::r=>⟨a,a+1,a+2,runP (a+3) s.ns.length,runP (a+3+2*s.ns.length) s.ls.length⟩::yS (a+3+2*s.ns.length+2*s.ls.length) r
def yF:Int→List SF→List SF
 |_,[]=> []
 |a,f::r=>(⟨a,a+1,a+2,runP (a+3) f.1.ns.length,runP (a+3+2*f.1.ns.length) f.1.ls.length⟩,f.2)::yF (a+3+2*f.1.ns.length +2*f.1.ls.length) r
def cntS:List Sp→Nat
 | []=>0
 |s::r=>3+2*s.ns.length+2*s.ls.length+cntS r
theorem Vr:∀(fs:List SF) (a:Int),(yF a fs).map Prod.fst=yS a (fs.map Prod.fst)
 | [],_=>rfl
 |f::r,a=>by simp only[yF,yS,List.map_cons,Vr r]
theorem xU:∀(l:List Sp) (a:Int),(yS a l).length =l.length
 | [],_=>rfl
 |f::r,a=>by simp only[yS,List.length_cons,xU r]
theorem V7:∀(fs:List SF) (a:Int),(yF a fs).map Prod.snd=fs.map Prod.snd
 | [],_=>rfl
 |f::r,a=>by simp only[yF,List.map_cons,V7 r]
theorem z2A:∀l:List Sp,cntS l=3*l.length+2*sumT l
 | []=>rfl
 |s::r=>by simp only[cntS,sumT,List.length_cons,z2A r];omega
theorem JZ {v:Value} {fs gs:List SF} (h:gs.map Prod.snd=fs.map Prod.snd) (b:Nat):yd v gs b→yd v fs b:=by
 have hl:gs.length=fs.length:=by simpa using congrArg List.length h
 rintro(hb|⟨k,hk,hb⟩)
 ·exact .inl hb
 ·refine .inr ⟨k,by omega,?_⟩
  have e:gs[k].2=fs[k].2:=by
   have h1:(gs.map Prod.snd)[k]'(by simpa using hk)=(fs.map Prod.snd)[k]'(by simp;omega):=by simp only[h]
   simpa using h1
  rw[←e];exact hb
theorem xK {α β:Type} (f:α→β):∀(l:List α) (k:Nat) (x:α) (hk:k<l.length),f x=f l[k]→(l.set k x).map f=l.map f
 | [],k,x,hk,_=>absurd hk (by simp)
 |a::l,0,x,hk,h=>by simpa using h
 |a::l,k+1,x,hk,h=>by
  rw[List.set_cons_succ,List.map_cons,List.map_cons,xK f l k x (by simpa using hk) (by simpa using h)]
theorem OwnT.rewin {base:Nat} {w w':World} {v:Value} {fs:List SF} {S:Nat→Prop} (h:OwnT base w v fs) {q:Nat} (hq:q<fs.length) {f:SF} (ht:Turns S w w') (hS:∀b,S b→zl fs[q].2.1 fs[q].2.2 b) (hc:sfc f=sfc fs[q]) (hv:f.2=fs[q].2)
  (hf:OwnW base w' f.2.1 f.2.2 f.1.ns f.1.ls):OwnT base w' v (fs.set q f):=by
 have hflat:(fs.set q f).flatMap sfc=fs.flatMap sfc:=by
  rw[List.flatMap_def,List.flatMap_def,xK sfc fs q f hq hc]
 refine⟨by rw[List.length_set,hflat];exact qF h.row ht (fun b hb hs=>h.rw_ q hq b hb (hS b hs)),fun k hk=>?_,fun k hk b hb=>?_,fun i j hi hj hne b=>?_⟩
 ·rw[List.length_set] at hk
  rw[List.getElem_set]
  split
  ·exact hf
  ·rename_i hne
   exact(h.win k hk).turned ht (fun b hb hs=>h.ww k q hk hq (by omega) b hb (hS b hs))
 ·rw[List.length_set] at hk
  rw[List.getElem_set]
  split
  ·rw[hv];exact h.rw_ q hq b hb
  ·exact h.rw_ k hk b hb
 ·rw[List.length_set] at hi hj
  rw[List.getElem_set,List.getElem_set]
  split
  ·rename_i e1
   rw[if_neg (by omega),hv];exact h.ww q j hq hj (by omega) b
  ·split
   ·rename_i e2
    rw[hv];exact h.ww i q hi hq (by omega) b
   ·exact h.ww i j hi hj hne b
theorem JD (base:Nat) (v:Value) (fs:List SF) (a:Int) (w:World) (h:OwnT base w v fs) (ha:0≤a) (hb:a+cntS (fs.map Prod.fst)≤1000000000000):
  Calls Tryz.prog 176 #[v,.int .i64 a] w fun e w'=>e= .returned (.int .i64 (a+cntS (fs.map Prod.fst)))∧OwnT base w' v (yF a fs)∧Turns (yd v fs) w w':=by
 rcases hcase:h.row.2 with ⟨rfl,hn⟩|⟨g,cap,cur,rfl,hbg,hh,hnc,hcm,hsz,hxs⟩
 ·have hz:fs=[]:=List.eq_nil_of_length_eq_zero hn
  subst hz;clear hcase hn hb
  go_enter Tryz.func176,Tryz.ntmps176
  go_wp2
  go_loop [1,5] (fun x i=>i= .int .i64 0∧x= .int .i64 a) (fun _ _=>0)
  case atStart=>exact⟨rfl,rfl⟩
  case round=>
   obtain⟨rfl,rfl⟩:=hrel;go_wp2;go_ret
   exact⟨by simp[cntS],OwnT.nil _ _,Turns.refl _ _⟩
 ·clear hcase hh hxs hsz
  obtain⟨T,hT⟩:∃T,a+(cntS (fs.map Prod.fst):Int)=T:=⟨_,rfl⟩;rw[hT];have HT:=Lib.hid hT;have hTm:T≤1000000000000:=by omega
  have HO:=Lib.hid h;clear h hb hT;unfold maxLen at hcm
  go_enter Tryz.func176,Tryz.ntmps176
  go_wp2
  go_loopw [1,5] (fun y i wr=>∃(k:Nat) (x:Int) (ds:List SF),k≤fs.length∧i= .int .i64 k∧y= .int .i64 x∧0≤x∧ds.length=k∧Hid (ds++yF x (fs.drop k)=yF a fs)∧Hid (x+(cntS ((fs.drop k).map Prod.fst):Int)=T)∧Hid ((ds++fs.drop k).map Prod.snd=fs.map Prod.snd)∧
    Hid (OwnT base wr (.slice (some ⟨g,0,none⟩) fs.length cap) (ds++fs.drop k))∧Hid (Turns (yd (.slice (some ⟨g,0,none⟩) fs.length cap) fs) w wr)) (fun _ i _=>fs.length -(intOf i).toNat)
  case atStart=>exact⟨0,a,[],Nat.zero_le _,rfl,rfl,ha,rfl,Lib.hid (by simp),Lib.hid (by simpa using HT.out),Lib.hid (by simp),Lib.hid (by simpa using HO.out),Lib.hid (Turns.refl _ _)⟩
  case round=>
   obtain⟨k,x,ds,hk,rfl,rfl,hx0,hdl,HM,HC,HS,HW,HTU⟩:=hrel;clear HO
   by_cases hlt:k<fs.length
   ·have hO:=HW.out
    have hdr:fs.drop k=fs[k]::fs.drop (k+1):=List.drop_eq_getElem_cons hlt;have hM:=HM.out;have hC:=HC.out;have hS:=HS.out;rw[hdr] at hO hM hC hS;generalize fs[k]=f at*;obtain⟨⟨sk,sa,sb,ns,ls⟩,vn,vl⟩:=f;simp only[yF,cntS,List.map_cons] at hM hC
    have hkq:k<(ds++(⟨sk,sa,sb,ns,ls⟩,vn,vl)::fs.drop (k+1)).length :=by simp;omega
    have hgl:(ds++(⟨sk,sa,sb,ns,ls⟩,vn,vl)::fs.drop (k+1)).length =fs.length:=by simp;omega
    have hgk:(ds++((⟨sk,sa,sb,ns,ls⟩,vn,vl):SF)::fs.drop (k+1))[k]=(⟨sk,sa,sb,ns,ls⟩,vn,vl):=by
     rw[List.getElem_append_right (by omega)];simp[hdl]
    have hset:∀f':SF,(ds++((⟨sk,sa,sb,ns,ls⟩,vn,vl):SF)::fs.drop (k+1)).set k f'=ds++f'::fs.drop (k+1):=fun f'=>by
     rw[List.set_append,if_neg (by omega),hdl,Nat.sub_self,List.set_cons_zero]
    have hw0:=hO.win k hkq;have hr0:=hO.rw_ k hkq;have hww:=fun j hj (hne:j≠k) b=>hO.ww k j hkq hj (Ne.symm hne) b
    rw[hgk] at hw0 hr0 hww;obtain⟨Av,cv,ev⟩:=hw0.1.form;obtain⟨Au,cu,eu⟩:=hw0.2.1.form
    dsimp only at ev eu
    subst ev eu;have hrow:=hO.row;rw[hgl] at hrow;have y0:=hrow.cellAt (k*5+0) (by omega);have y1:=hrow.cellAt (k*5+1) (by omega);have y2:=hrow.cellAt (k*5+2) (by omega);rw[qk sfc 5 (fun _=>rfl) _ k _ hkq (by omega),hgk] at y0 y1 y2;simp only[sfc,Nat.add_zero,List.getElem?_cons_zero,List.getElem?_cons_succ] at y0 y1 y2
    have f0:=hrow.frozenAt (k*5);have f1:=hrow.frozenAt (k*5+1);have f2:=hrow.frozenAt (k*5+2);obtain⟨r0,t0⟩:=hrow.stored (k*5+0) (.int .i64 x);obtain⟨r1,t1⟩:=r0.stored (k*5+1) (.int .i64 (x+1));obtain⟨r2,t2⟩:=r1.stored (k*5+2) (.int .i64 (x+2))
    rw[jp _ k 0 _ (⟨x,sa,sb,ns,ls⟩,.slice Av ns.length cv,.slice Au ls.length cu) hkq (by omega) (by rw[hgk];rfl),
     jp _ k 1 _ (⟨x,x+1,sb,ns,ls⟩,.slice Av ns.length cv,.slice Au ls.length cu) (by rw[List.length_set];exact hkq) (by omega) (by rw[List.getElem_set_self];rfl),
     jp _ k 2 _ (⟨x,x+1,x+2,ns,ls⟩,.slice Av ns.length cv,.slice Au ls.length cu) (by rw[List.length_set,List.length_set];exact hkq) (by omega) (by rw[List.getElem_set_self];rfl),
     List.set_set,List.set_set] at r2
    have ht3:=Turns.trans (Turns.trans (Turns.ofGrown (S:=fun b=>b=g) t0 (fun k hk=>by cases hk;rfl)) (Turns.ofGrown t1 (fun k hk=>by cases hk;rfl))) (Turns.ofGrown t2 (fun k hk=>by cases hk;rfl));have hput:=hO.put hkq hgl.symm r2 ht3 (f:=(⟨x,x+1,x+2,ns,ls⟩,.slice Av ns.length cv,.slice Au ls.length cu)) hw0 (fun hb=>hr0 g rfl hb) (fun j hj hne b hb=>hww j hj hne b hb);rw[hset,Nat.add_zero] at hput;have hSg:yd (.slice (some ⟨g,0,none⟩) fs.length cap) fs g:= .inl rfl;have hSw:∀b,zl (.slice Av ns.length cv) (.slice Au ls.length cu) b→yd (.slice (some ⟨g,0,none⟩) fs.length cap) fs b:=fun b hb=>JZ hS b (.inr ⟨k,hkq,by rw[hgk];exact hb⟩)
    have HTU3:=Lib.hid (HTU.out.trans (ht3.mono (fun b hb=>by subst hb;exact hSg)));rw[Nat.add_zero] at HTU3;have HP:=Lib.hid hput;have HSW:=Lib.hid hSw;have HM2:=Lib.hid hM;have HC2:=Lib.hid hC;have HS2:Hid ((ds++((⟨x,x+1,x+2,ns,ls⟩,.slice Av ns.length cv,.slice Au ls.length cu):SF)::fs.drop (k+1)).map Prod.snd=fs.map Prod.snd):=Lib.hid (by rw[←hS];simp);have hsm:x+3+2*(ns.length:Int)+2*(ls.length:Int)≤T:=by omega
    clear r0 r1 r2 t0 t1 t2 ht3 hput hSw hM hC hS hO hrow hset hgk hw0 hr0 hww HM HC HS HW HTU hkq hgl hdr
    go_upto_region 10 with (fail)
    rw[show x+1+1+1=x+3 by omega,show x+1+1=x+2 by omega];obtain⟨w3,hw3⟩:∃w3,w3=((wr.setCell ⟨g,k*5,none⟩ (.int .i64 x)).setCell ⟨g,k*5+1,none⟩ (.int .i64 (x+1))).setCell ⟨g,k*5+2,none⟩ (.int .i64 (x+2)):=⟨_,rfl⟩;rw[←hw3];have hP3:OwnT base w3 (.slice (some ⟨g,0,none⟩) fs.length cap) (ds++((⟨x,x+1,x+2,ns,ls⟩,.slice Av ns.length cv,.slice Au ls.length cu):SF)::fs.drop (k+1)):=hw3▸HP.out;have HTU4:Hid (Turns (yd (.slice (some ⟨g,0,none⟩) fs.length cap) fs) w w3):=Lib.hid (hw3▸HTU3.out);clear hw3 HP HTU3 y0 y1 y2 f0 f1 f2;have hgl:∀f':SF,(ds++f'::fs.drop (k+1)).length =fs.length:=fun f'=>by simp;omega
    have hkq:∀f':SF,k<(ds++f'::fs.drop (k+1)).length :=fun f'=>by rw[hgl];exact hlt
    have hgk:∀(f':SF) (h:k<(ds++f'::fs.drop (k+1)).length),(ds++f'::fs.drop (k+1))[k]'h=f':=fun f' _=>by
     rw[List.getElem_append_right (by omega)];simp[hdl]
    have hset:∀f' f'':SF,(ds++f''::fs.drop (k+1)).set k f'=ds++f'::fs.drop (k+1):=fun f' f''=>by
     rw[List.set_append,if_neg (by omega),hdl,Nat.sub_self,List.set_cons_zero]
    have hrow:=hP3.row;rw[hgl] at hrow;have y3:=hrow.cellAt (k*5+3) (by omega);rw[qk sfc 5 (fun _=>rfl) _ k _ (hkq _) (by omega),hgk] at y3;simp only[sfc,List.getElem?_cons_zero,List.getElem?_cons_succ] at y3
    have hw0:=hP3.win k (hkq _);rw[hgk] at hw0;have HP3:=Lib.hid hP3;have HGL:=Lib.hid hgl;have HKQ:=Lib.hid hkq;have HGK:=Lib.hid hgk;have HSET:=Lib.hid hset;clear hrow hP3 hgl hkq hgk hset
    go_wp2_with fail
    refine(x9 base _ ns (x+3) _ hw0.1 (by omega) (by omega)).mono ?_
    rintro e w4 ⟨rfl,ho4,hg4⟩;have ht4:Turns (fun b=>(Value.slice Av ns.length cv).ownBlock =some b) w3 w4:=Turns.ofGrown hg4 (fun b hb=>hb)
    have hP4:=HP3.out.rewin (HKQ.out _) (f:=(⟨x,x+1,x+2,runP (x+3) ns.length,ls⟩,.slice Av ns.length cv,.slice Au ls.length cu)) ht4 (fun b hb=>by rw[HGK.out];exact .inl hb) (by rw[HGK.out];rfl) (by rw[HGK.out])
     ⟨by have e5:=ho4;exact e5,hw0.2.1.turned ht4 (fun b hb hb'=>hw0.2.2 b hb' hb),hw0.2.2⟩
    rw[HSET.out] at hP4;have HTU5:=Lib.hid (HTU4.out.trans (ht4.mono (fun b hb=>HSW.out b (.inl hb))));clear ht4 hg4 ho4 hw0 HTU4 HP3 y3;have hrow:=hP4.row;rw[HGL.out] at hrow;have y4:=hrow.cellAt (k*5+4) (by omega);rw[qk sfc 5 (fun _=>rfl) _ k _ (HKQ.out _) (by omega),HGK.out] at y4;simp only[sfc,List.getElem?_cons_zero,List.getElem?_cons_succ] at y4
    have hw1:=hP4.win k (HKQ.out _);rw[HGK.out] at hw1;have HP4:=Lib.hid hP4;clear hrow hP4
    go_wp2_with fail
    refine(kS base _ ls (x+3+2*ns.length) _ hw1.2.1 (by omega) (by omega)).mono ?_
    rintro e w5 ⟨rfl,ho5,hg5⟩;have ht5:Turns (fun b=>(Value.slice Au ls.length cu).ownBlock =some b) w4 w5:=Turns.ofGrown hg5 (fun b hb=>hb)
    have hP5:=HP4.out.rewin (HKQ.out _) (f:=(⟨x,x+1,x+2,runP (x+3) ns.length,runP (x+3+2*ns.length) ls.length⟩,.slice Av ns.length cv,.slice Au ls.length cu)) ht5 (fun b hb=>by rw[HGK.out];exact .inr hb) (by rw[HGK.out];rfl) (by rw[HGK.out])
     ⟨hw1.1.turned ht5 (fun b hb hb'=>hw1.2.2 b hb hb'),ho5,hw1.2.2⟩
    rw[HSET.out] at hP5;have HTU6:=Lib.hid (HTU5.out.trans (ht5.mono (fun b hb=>HSW.out b (.inr hb))));have HP5:Hid (OwnT base w5 (.slice (some ⟨g,0,none⟩) fs.length cap) ((ds++[(⟨x,x+1,x+2,runP (x+3) ns.length,runP (x+3+2*ns.length) ls.length⟩,.slice Av ns.length cv,.slice Au ls.length cu)])++fs.drop (k+1))):=Lib.hid (by rw[List.append_assoc];exact hP5);clear ht5 hg5 ho5 hw1 HTU5 HP4 hP5 y4;go_wp2;go_roundw
    case rel=>exact⟨k+1,x+3+2*ns.length+2*ls.length,ds++[(⟨x,x+1,x+2,runP (x+3) ns.length,runP (x+3+2*ns.length) ls.length⟩,.slice Av ns.length cv,.slice Au ls.length cu)],by omega,by go_num,rfl,by omega,by simp[hdl],Lib.hid (by rw[List.append_assoc];exact HM2.out),Lib.hid (by have:=HC2.out;omega),Lib.hid (by rw[←HS2.out];simp),HP5,HTU6⟩
    case measure=>simp[intOf];omega
   ·have hkk:k=fs.length:=by omega
    have hM:=HM.out;have hC:=HC.out;have hW:=HW.out;rw[hkk,List.drop_length] at hM hC hW;simp only[yF,cntS,List.append_nil,List.map_nil] at hM hC hW
    have HF:Hid (OwnT base wr (.slice (some ⟨g,0,none⟩) fs.length cap) (yF a fs)):=Lib.hid (hM▸hW);have hxT:x=T:=by omega
    subst hxT;clear hM hC hW HM HC HW HS;go_wp2;go_ret
    exact⟨rfl,HF.out,HTU.out⟩
theorem VS (v:Value) (l:List Sp) (a:Int) (w:World) (h:RT w v (yS a l)) (ha:0≤a) (hb:a+cntS l≤1000000000000):
  Calls Tryz.prog 178 #[v,.int .i64 a] w fun e w'=>e= .returned (.int .i64 (a+cntS l))∧Below w.heap.size w w':=by
 obtain⟨A,c,rfl,hc,hm,hcell⟩:=h;have hml:(yS a l).length =l.length:=xU l a;unfold maxLen at hm;rw[hml] at hc hm;have hcell':0<l.length→∃b off,A=some ⟨b,off,none⟩∧b<w.heap.size∧∀(k:Nat) (hk:k<(yS a l).length),Qk w b (off+k*5) (yS a l)[k]:=by rw[←hml];exact hcell
 rw[hml];obtain⟨T,hT⟩:∃T,a+(cntS l:Int)=T:=⟨_,rfl⟩;rw[hT];have HT:=Lib.hid hT;have HML:=Lib.hid hml;have hTm:T≤1000000000000:=by omega
 clear hb hT hcell hml
 go_enter Tryz.func178,Tryz.ntmps178
 go_wp2
 go_loopw [1,5] (fun y i wr=>∃(k:Nat) (x:Int),k≤l.length∧i= .int .i64 k∧y= .int .i64 x∧0≤x∧Hid ((yS a l).drop k=yS x (l.drop k))∧Hid (x+(cntS (l.drop k):Int)=T)∧Below w.heap.size w wr) (fun _ i _=>l.length -(intOf i).toNat)
 case atStart=>exact⟨0,a,Nat.zero_le _,rfl,rfl,ha,Lib.hid (by simp),Lib.hid (by simpa using HT.out),Below.refl _ _⟩
 case round=>
  obtain⟨k,x,hk,rfl,rfl,hx0,HM,HC,hbl⟩:=hrel;have hsz:=hbl.size
  by_cases hlt:k<l.length
  ·obtain⟨b,off,rfl,hb,hcl⟩:=hcell' (by omega)
   have hkm:k<(yS a l).length :=by rw[HML.out];exact hlt
   have hst:=hcl k hkm;have hM:=HM.out;have hC:=HC.out;rw[List.drop_eq_getElem_cons hkm,List.drop_eq_getElem_cons hlt] at hM;rw[List.drop_eq_getElem_cons hlt] at hC;simp only[yS,cntS,List.cons.injEq] at hM hC
   obtain⟨hM1,hM2⟩:=hM;rw[hM1] at hst;generalize l[k]=s at*;obtain⟨k0,k1,k2,vn,vl,k3,k4,hn,hl⟩:=hst;obtain⟨Av,cv,ev,_⟩:=hn.form;obtain⟨Au,cu,eu,_⟩:=hl.form
   dsimp only at k0 k1 k2 hn hl ev eu
   rw[qn] at ev eu;subst ev eu;have q0:=(hbl.cell (p:=⟨b,off+k*5,none⟩) hb).trans k0;have q1:=(hbl.cell (p:=⟨b,off+k*5+1,none⟩) hb).trans k1;have q2:=(hbl.cell (p:=⟨b,off+k*5+2,none⟩) hb).trans k2;have q3:=(hbl.cell (p:=⟨b,off+k*5+3,none⟩) hb).trans k3;have q4:=(hbl.cell (p:=⟨b,off+k*5+4,none⟩) hb).trans k4;have hn':=Lib.hid (hn.below hbl);have hl':=Lib.hid (hl.below hbl);have HM2:=Lib.hid hM2;have HC2:=Lib.hid hC;have hsm:x+3+2*(s.ns.length:Int)+2*(s.ls.length:Int)≤T:=by omega
   have e2:x+2=x+1+1:=by omega
   rw[e2] at q2;have c1:¬x+3+2*(s.ns.length:Int)<0:=by omega
   have c2:¬x+3+2*(s.ns.length:Int)+2*(s.ls.length:Int)<0:=by omega
   clear k0 k1 k2 k3 k4 hcl hcell' hn hl hM1 hM2 hC HM HC hkm e2
   go_upto_region 13 with (fail)
   rw[show x+1+1+1=x+3 by omega]
   go_wp2_with fail
   refine(xW _ s.ns.length (x+3) _ hn'.out (by omega) (by omega)).mono ?_
   rintro e w2 ⟨rfl,rfl⟩
   go_wp2_with fail
   refine(xP _ s.ls.length (x+3+2*s.ns.length) _ hl'.out (by omega) (by omega)).mono ?_
   rintro e w3 ⟨rfl,rfl⟩;go_wp2;go_roundw
   case rel=>exact⟨k+1,x+3+2*s.ns.length+2*s.ls.length,by omega,by go_num,rfl,by omega,HM2,Lib.hid (by have:=HC2.out;omega),hbl⟩
   case measure=>simp[intOf];omega
  ·have hkk:k=l.length:=by omega
   have hC:=HC.out;rw[hkk,List.drop_length] at hC;simp only[cntS] at hC
   have hxT:x=T:=by omega
   subst hxT;clear hC HC HM hcell';go_wp2;go_ret
   exact⟨rfl,hbl⟩
def JV (a:Int) (D:Dr):Dr:=
 ⟨runP a D.fn.length,runP (a+2*D.fn.length) D.fl.length,runP (a+2*D.fn.length+2*D.fl.length) D.nn.length,runP (a+2*D.fn.length+2*D.fl.length+2*D.nn.length) D.nl.length,
  yS (a+2*D.fn.length+2*D.fl.length+2*D.nn.length+2*D.nl.length) D.ss⟩
def cntD (D:Dr):Nat:=2*D.fn.length+2*D.fl.length+2*D.nn.length+2*D.nl.length+cntS D.ss
theorem xu {v:Value} {fs:List SF} {a:Int} (b:Nat) (h:yd v (yF a fs) b):yd v fs b:=JZ (V7 fs a) b h
theorem Jy (base:Nat) (va vb vc vd ve:Value) (D:Dr) (fs:List SF) (x:Int) (w:World) (h:OwnD base w va vb vc vd ve D fs) (hx:0≤x) (hm:x+cntD D≤1000000000000):
  Calls Tryz.prog 99 #[.agg #[va,vb,vc,vd,ve],.int .i64 x] w fun e w'=>e= .returned (.int .i64 (x+cntD D))∧
   OwnD base w' va vb vc vd ve (JV x D) (yF (x+2*D.fn.length+2*D.fl.length+2*D.nn.length+2*D.nl.length) fs)∧Turns (qw va vb vc vd ve fs) w w':=by
 have HLT:=Lib.hid h.lt;have HFN:=Lib.hid h.f_n;have HFS:=Lib.hid h.f_s;have HNS:=Lib.hid h.n_s;have HMP:=Lib.hid h.map;have hcs:cntS (fs.map Prod.fst)=cntS D.ss:=by rw[h.map]
 have hD:cntD D=2*D.fn.length+2*D.fl.length+2*D.nn.length+2*D.nl.length+cntS D.ss:=rfl;obtain⟨m,hmm⟩:∃m,cntS D.ss=m:=⟨_,rfl⟩;rw[hmm] at hcs hD;have hE:x+(cntD D:Int)=x+2*D.fn.length+2*D.fl.length+2*D.nn.length+2*D.nl.length+m:=by omega
 rw[hE];have hm':x+2*D.fn.length+2*D.fl.length+2*D.nn.length+2*D.nl.length+m≤1000000000000:=by omega
 have HO:=Lib.hid (h.alloc (.cells #[va,vb,vc,vd,ve] 30));have HCS:=Lib.hid hcs;clear h hm hD hE hcs hmm
 go_enter Tryz.func99,Tryz.ntmps99
 go_wp2_with fail
 obtain⟨w0,hw0⟩:∃w0,w0=w.alloc (.cells #[va,vb,vc,vd,ve] 30):=⟨_,rfl⟩;have hX0:Blk w0 w.heap.size 30 #[va,vb,vc,vd,ve]:=hw0▸Blk.newAt rfl;have hT0:Turns (qw va vb vc vd ve fs) w w0:=hw0▸Turns.ofBelow ((Below.refl _ _).alloc (Nat.le_refl _) _);rw[←hw0] at HO⊢;clear hw0;have hnX:¬qw va vb vc vd ve fs w.heap.size:=fun hk=>by have:=(HLT.out _ hk).2;omega
 have h0:=HO.out;clear HO;refine(vX base _ _ D.fn D.fl x _ h0.first hx (by omega)).mono ?_
 rintro e w1 ⟨rfl,ho1,ht1⟩;have hX1:=hX0.turned ht1 (fun hk=>hnX (.inl hk));have hN1:=h0.now.turned ht1 (fun k hk hk'=>HFN.out k hk' hk);have hS1:=h0.ss.turned ht1 (fun k hk hk'=>HFS.out k hk' hk);have hT1:=hT0.trans (ht1.mono (S':=qw va vb vc vd ve fs) (fun k hk=> .inl hk));clear ht1 h0 hX0 hT0;obtain⟨y_0,y_1,y_2,y_3,y_4⟩:=hX1.c5
 go_wp2_with fail
 refine(vX base _ _ D.nn D.nl (x+2*D.fn.length+2*D.fl.length) _ hN1 (by omega) (by omega)).mono ?_
 rintro e w2 ⟨rfl,ho2,ht2⟩;have hX2:=hX1.turned ht2 (fun hk=>hnX (.inr (.inl hk)));have hF2:=ho1.turned ht2 (fun k hk hk'=>HFN.out k hk hk');have hS2:=hS1.turned ht2 (fun k hk hk'=>HNS.out k hk' hk);have hT2:=hT1.trans (ht2.mono (S':=qw va vb vc vd ve fs) (fun k hk=> .inr (.inl hk)));clear ht2 hX1 hN1 hS1 hT1 ho1 y_0 y_1 y_2 y_3 y_4;obtain⟨y_0,y_1,y_2,y_3,y_4⟩:=hX2.c5
 go_wp2_with fail
 refine(JD base _ fs (x+2*D.fn.length+2*D.fl.length+2*D.nn.length+2*D.nl.length) _ hS2 (by omega) (by rw[HCS.out];exact hm')).mono ?_
 rintro e w3 ⟨rfl,ho3,ht3⟩;have hF3:=hF2.turned ht3 (fun k hk hk'=>HFS.out k hk hk');have hN3:=ho2.turned ht3 (fun k hk hk'=>HNS.out k hk hk');have hT3:=hT2.trans (ht3.mono (S':=qw va vb vc vd ve fs) (fun k hk=> .inr (.inr hk)))
 have HF:Hid (OwnD base w3 va vb vc vd ve (JV x D) (yF (x+2*D.fn.length+2*D.fl.length+2*D.nn.length+2*D.nl.length) fs)):=
  Lib.hid ⟨hF3,hN3,ho3,by rw[Vr,HMP.out];rfl,HFN.out,fun k hk hk'=>HFS.out k hk (xu k hk'),fun k hk hk'=>HNS.out k hk (xu k hk')⟩
 clear ht3 hX2 hF2 hS2 hT2 ho2 ho3 hF3 hN3 y_0 y_1 y_2 y_3 y_4;rw[HCS.out];go_wp2;go_ret
 exact⟨rfl,HF.out,hT3⟩
theorem VX (va vb vc vd ve:Value) (D:Dr) (x:Int) (w:World) (h:RD w va vb vc vd ve (JV x D)) (hx:0≤x) (hm:x+cntD D≤1000000000000):
  Calls Tryz.prog 101 #[.agg #[va,vb,vc,vd,ve],.int .i64 x] w fun e w'=>e= .returned (.int .i64 (x+cntD D))∧Below w.heap.size w w':=by
 have hD:cntD D=2*D.fn.length+2*D.fl.length+2*D.nn.length+2*D.nl.length+cntS D.ss:=rfl;have hE:x+(cntD D:Int)=x+2*D.fn.length+2*D.fl.length+2*D.nn.length+2*D.nl.length+cntS D.ss:=by omega
 rw[hE];have hm':x+2*D.fn.length+2*D.fl.length+2*D.nn.length+2*D.nl.length+cntS D.ss≤1000000000000:=by omega
 clear hm hE hD;have c1:¬x+2*(D.fn.length:Int)+2*D.fl.length<0:=by omega
 have c2:¬x+2*(D.fn.length:Int)+2*D.fl.length+2*D.nn.length+2*D.nl.length<0:=by omega
 have c3:¬x+2*(D.fn.length:Int)+2*D.fl.length+2*D.nn.length+2*D.nl.length+cntS D.ss<0:=by omega
 have h0:=h.below ((Below.refl _ _).alloc (Nat.le_refl _) (.cells #[va,vb,vc,vd,ve] 30));clear h
 go_enter Tryz.func101,Tryz.ntmps101
 go_wp2_with fail
 obtain⟨w0,hw0⟩:∃w0,w0=w.alloc (.cells #[va,vb,vc,vd,ve] 30):=⟨_,rfl⟩;have hX0:Blk w0 w.heap.size 30 #[va,vb,vc,vd,ve]:=hw0▸Blk.newAt rfl;have hb0:Below w.heap.size w w0:=hw0▸(Below.refl _ _).alloc (Nat.le_refl _) _;rw[←hw0] at h0⊢;clear hw0;refine(x8 _ _ D.fn.length D.fl.length x _ h0.fn h0.fl hx (by omega)).mono ?_
 rintro e w1 ⟨rfl,hb1⟩;have hX1:=hX0.below hb1 hX0.lt;have h1:=h0.below hb1;have hbw1:=hb0.trans (hb1.mono hb0.size);clear hb1 hX0 h0 hb0;obtain⟨y_0,y_1,y_2,y_3,y_4⟩:=hX1.c5
 go_wp2_with fail
 refine(x8 _ _ D.nn.length D.nl.length (x+2*D.fn.length+2*D.fl.length) _ h1.nn h1.nl (by omega) (by omega)).mono ?_
 rintro e w2 ⟨rfl,hb2⟩;have hX2:=hX1.below hb2 hX1.lt;have h2:=h1.below hb2;have hbw2:=hbw1.trans (hb2.mono hbw1.size);clear hb2 hX1 h1 hbw1 y_0 y_1 y_2 y_3 y_4;obtain⟨y_0,y_1,y_2,y_3,y_4⟩:=hX2.c5
 go_wp2_with fail
 refine(VS _ D.ss (x+2*D.fn.length+2*D.fl.length+2*D.nn.length+2*D.nl.length) _ h2.ss (by omega) hm').mono ?_
 rintro e w3 ⟨rfl,hb3⟩;have hbw3:=hbw2.trans (hb3.mono hbw2.size);go_wp2;go_ret
 exact⟨rfl,hbw3⟩
structure OutSt (w:World) (v0 v1 v2 v3 v4:Value) (Z:Nat) (a b c d e:Value) (D:Dr) (fs:List SF) (wr:World):Prop where
 own:OwnD (w.heap.size+1+1) wr a b c d e D fs
 X:Blk wr w.heap.size 30 #[v0,v1,v2,v3,v4]
 R:Blk wr (w.heap.size+1) 30 #[.slice none 0 0,.slice none 0 0,.slice none 0 0,.slice none 0 0,.slice none 0 0]
 Z_:Blk wr Z 30 #[a,b,c,d,e]
 lt:w.heap.size+1<Z
 far:¬qw a b c d e fs Z
 blw:Below w.heap.size w wr
section
variable {w wr wr':World} {v0 v1 v2 v3 v4 a b c d e:Value} {Z:Nat} {D:Dr} {fs:List SF}
end
theorem DrLe.cnt {D:Dr} (h:DrLe D):cntD D≤20000000:=by
 have e:cntD D=2*D.fn.length+2*D.fl.length+2*D.nn.length+2*D.nl.length+cntS D.ss:=rfl;have:=z2A D.ss;have:=h.fn;have:=h.fl;have:=h.nn;have:=h.nl;have:=h.ss;have:=h.sum;omega
def yJ (a:Int) (n:Nat):List Dp:=(List.range n).map fun (i:Nat)=>⟨a+3*(i:Int),a+3*(i:Int)+1,a+3*(i:Int)+2⟩
theorem jL (a:Int) (n:Nat):(yJ a n).length =n:=by simp[yJ]
def qY (a:Int) (l:List Dp) (k:Nat):List Dp:=yJ a k++l.drop k
theorem k7 (a:Int) (l:List Dp) (k:Nat) (h:k≤l.length):(qY a l k).length =l.length:=by simp[qY,jL];omega
theorem VF (a:Int) (l:List Dp):qY a l 0=l:=by simp[qY,yJ]
theorem z0M (a:Int) (l:List Dp):qY a l l.length=yJ a l.length:=by simp[qY]
theorem Xh (a:Int) (l:List Dp) (k:Nat) (h:k<l.length):qY a l (k+1)=(qY a l k).set k ⟨a+3*k,a+3*k+1,a+3*k+2⟩:=by
 unfold qY yJ;rw[List.range_succ,List.map_append,List.set_append];simp only[List.map_cons,List.map_nil,List.length_map,List.length_range,Nat.lt_irrefl,if_false,Nat.sub_self,List.append_assoc,List.cons_append,List.nil_append]
 rw[List.drop_eq_getElem_cons h,List.set_cons_zero]
theorem z3h (a:Int) (n k:Nat) (h:k<(yJ a n).length):(yJ a n)[k]=⟨a+3*(k:Int),a+3*(k:Int)+1,a+3*(k:Int)+2⟩:=by simp[yJ]
theorem kz:∀(l:List Dp) (k j:Nat) (u:Value) (f:Dp) (hk:k<l.length),j<3→(Dp.cs l[k]).set j u=Dp.cs f→(l.flatMap Dp.cs).set (k*3+j) u=(l.set k f).flatMap Dp.cs
 | [],k,_,_,_,h,_,_=>absurd h (by simp)
 |a::l,0,j,u,f,h,hj,he=>by
  rw[List.set_cons_zero,List.flatMap_cons,List.flatMap_cons,←he,List.set_append,if_pos (by simp[Dp.cs];omega)];simp
 |a::l,k+1,j,u,f,h,hj,he=>by
  have ih:=kz l k j u f (by simpa using h) hj he;rw[List.set_cons_succ,List.flatMap_cons,List.flatMap_cons,←ih,List.set_append,if_neg (by simp[Dp.cs];omega)];have e:(k+1)*3+j -(Dp.cs a).length =k*3+j:=by simp[Dp.cs];omega
  rw[e]
theorem Qo (base:Nat) (v:Value) (l:List Dp) (a:Int) (w:World) (h:zH base w v l) (ha:0≤a) (hb:a+3*l.length≤1000000000000):
  Calls Tryz.prog 100 #[v,.int .i64 a] w fun e w'=>e= .returned (.int .i64 (a+3*l.length))∧zH base w' v (yJ a l.length)∧w.grownBy w' v.ownBlock:=by
 rcases hcase:h.2 with ⟨rfl,hn⟩|⟨g,cap,cur,rfl,hbg,hh,hnc,hcm,hsz,hxs⟩
 ·have hz:l=[]:=List.eq_nil_of_length_eq_zero hn
  subst hz;clear hcase hn hb
  go_enter Tryz.func100,Tryz.ntmps100
  go_wp2
  go_loop [1,5] (fun x i=>i= .int .i64 0∧x= .int .i64 a) (fun _ _=>0)
  case atStart=>exact⟨rfl,rfl⟩
  case round=>
   obtain⟨rfl,rfl⟩:=hrel;go_wp2;go_ret
   exact⟨by simp,zH.nil _ _,World.grownBy.refl _ _⟩
 ·clear hcase hh hxs hsz
  have hml:l.length≤1000000000000:=by omega
  have h0:zH base w (.slice (some ⟨g,0,none⟩) l.length cap) (qY a l 0):=by rw[VF];exact h
  clear h
  go_enter Tryz.func100,Tryz.ntmps100
  go_wp2
  go_loopw [1,5] (fun x i wr=>∃k:Nat,k≤l.length∧i= .int .i64 k∧x= .int .i64 (a+3*k)∧zH base wr (.slice (some ⟨g,0,none⟩) l.length cap) (qY a l k)∧w.grownBy wr (some g)) (fun _ i _=>l.length -(intOf i).toNat)
  case atStart=>exact⟨0,Nat.zero_le _,rfl,by simp,h0,World.grownBy.refl _ _⟩
  case round=>
   obtain⟨k,hk,rfl,rfl,ho,hg⟩:=hrel;clear h0;have hml2:=k7 a l k hk
   by_cases hlt:k<l.length
   ·have hkq:k<(qY a l k).length :=by omega
    have hrow:wr.ownsRow base 48 3 (.slice (some ⟨g,0,none⟩) l.length cap) l.length ((qY a l k).flatMap Dp.cs):=by rw[←hml2];have:=ho;unfold zH at this;rw[hml2] at this⊢;exact this
    have x0:=hrow.cellAt (k*3+0) (by omega);have x1:=hrow.cellAt (k*3+1) (by omega);have x2:=hrow.cellAt (k*3+2) (by omega);rw[qk Dp.cs 3 (fun _=>rfl) _ k _ hkq (by omega)] at x0 x1 x2;generalize hq:(qY a l k)[k]=q at*;simp only[Dp.cs,Nat.add_zero,List.getElem?_cons_zero,List.getElem?_cons_succ] at x0 x1 x2
    have f0:=hrow.frozenAt (k*3);have f1:=hrow.frozenAt (k*3+1);have f2:=hrow.frozenAt (k*3+2);have s1:=(hrow.stored (k*3+0) (.int .i64 (a+3*k))).1;have s2:=(s1.stored (k*3+1) (.int .i64 (a+3*k+1))).1;have s3:=(s2.stored (k*3+2) (.int .i64 (a+3*k+2))).1
    rw[kz _ k 0 _ ⟨a+3*k,q.a,q.b⟩ hkq (by omega) (by rw[hq];rfl),
     kz _ k 1 _ ⟨a+3*k,a+3*k+1,q.b⟩ (by rw[List.length_set];exact hkq) (by omega) (by rw[List.getElem_set_self];rfl),
     kz _ k 2 _ ⟨a+3*k,a+3*k+1,a+3*k+2⟩ (by rw[List.length_set,List.length_set];exact hkq) (by omega) (by rw[List.getElem_set_self];rfl),
     List.set_set,List.set_set,←Xh a l k hlt,Nat.add_zero] at s3
    have hml3:=k7 a l (k+1) hlt;have HS:Hid (zH base (((wr.setCell ⟨g,k*3,none⟩ (.int .i64 (a+3*k))).setCell ⟨g,k*3+1,none⟩ (.int .i64 (a+3*k+1))).setCell ⟨g,k*3+2,none⟩ (.int .i64 (a+3*k+2))) (.slice (some ⟨g,0,none⟩) l.length cap) (qY a l (k+1))):=Lib.hid (by unfold zH;rw[hml3];exact s3);have HG:=Lib.hid (qA (qA (qA hg (k*3) (.int .i64 (a+3*k))) (k*3+1) (.int .i64 (a+3*k+1))) (k*3+2) (.int .i64 (a+3*k+2)));have e2:a+3*(k:Int)+1+1=a+3*(k:Int)+2:=by omega
    clear s1 s2 s3 hrow ho hg hml2 hml3 hq hkq;go_wp2
    try rw[e2]
    clear e2;go_roundw
    case rel=>exact⟨k+1,by omega,by go_num,by go_num,HS.out,HG.out⟩
    case measure=>simp[intOf];omega
   ·have hkk:k=l.length:=by omega
    subst hkk;rw[z0M] at ho;clear hml2;go_wp2;go_ret
    exact⟨rfl,ho,hg⟩
theorem Z0 (v:Value) (n:Nat) (a:Int) (w:World) (h:RDp w v (yJ a n)) (ha:0≤a) (hb:a+3*n≤1000000000000):
  Calls Tryz.prog 102 #[v,.int .i64 a] w fun e w'=>e= .returned (.int .i64 (a+3*n))∧w=w':=by
 obtain⟨A,c,rfl,hc,hm,hcell⟩:=h.form;clear h;rw[jL] at hc hm
 have hcell':0<n→∃b off,A=some ⟨b,off,none⟩∧b<w.heap.size∧∀k (hk:k<n),w.cell? ⟨b,off+k*3,none⟩=some (.int .i64 (a+3*(k:Int)))∧w.cell? ⟨b,off+k*3+1,none⟩=some (.int .i64 (a+3*(k:Int)+1))∧w.cell? ⟨b,off+k*3+2,none⟩=some (.int .i64 (a+3*(k:Int)+1+1)):=by
  intro hn;obtain⟨b,off,h1,h2,h3⟩:=hcell (by rw[jL];exact hn);refine⟨b,off,h1,h2,fun k hk=>?_⟩
  have:=h3 k (by rw[jL];exact hk);rw[z3h] at this;rw[show a+3*(k:Int)+1+1=a+3*(k:Int)+2 by omega];exact this
 rw[jL];clear hcell
 go_enter Tryz.func102,Tryz.ntmps102
 go_wp2
 go_loop [1,5] (fun x i=>∃k:Nat,k≤n∧i= .int .i64 k∧x= .int .i64 (a+3*k)) (fun _ i=>n -(intOf i).toNat)
 case atStart=>exact⟨0,Nat.zero_le _,rfl,by simp⟩
 case round=>
  obtain⟨k,hk,rfl,rfl⟩:=hrel
  by_cases hlt:k<n
  ·obtain⟨b,off,rfl,hbb,hcl⟩:=hcell' (by omega)
   obtain⟨q0,q1,q2⟩:=hcl k hlt;clear hcl hcell';go_wp2;go_round
   case rel=>exact⟨k+1,by omega,by go_num,by go_num⟩
   case measure=>simp[intOf];omega
  ·have hkk:k=n:=by omega
   subst hkk;clear hcell';go_wp2;go_ret
   exact⟨rfl,rfl⟩
end Go.Proofs.YtnjcpljhmhdhkaaGreat
