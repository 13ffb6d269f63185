/- part 17 -/
import Derived.Test.YtnjcpljhmhdhkaaGreatUPk15
set_option linter.unusedSimpArgs false
set_option linter.unusedVariables false
set_option maxRecDepth 100000
set_option maxHeartbeats 8000000
namespace Go.Proofs.YtnjcpljhmhdhkaaGreat
open Go.RowKit
def ko:Int->List Sp->List Sp
 |_,[]=> []
 |a,s::r=>⟨a,a+1,a+2,runP (a+3) s.ns.length,runP (a+3+2*s.ns.length) s.ls.length⟩::ko (a+3+2*s.ns.length+2*s.ls.length) r
def vU:Int->List SF->List SF
 |_,[]=> []
 |a,f::r=>(⟨a,a+1,a+2,runP (a+3) f.1.ns.length,runP (a+3+2*f.1.ns.length) f.1.ls.length⟩,f.2)::vU (a+3+2*f.1.ns.length +2*f.1.ls.length) r
def cntS:List Sp->Nat
 | []=>0
 |s::r=>3+2*s.ns.length+2*s.ls.length+cntS r
theorem z18:∀(fs:List SF) (a:Int),(vU a fs).map Prod.fst=ko a (fs.map Prod.fst)
 | [],_=>rfl
 |f::r,a=>by simp only[vU,ko,aaT,z18 r]
theorem ZM:∀(l:List Sp) (a:Int),(ko a l).length =l.length
 | [],_=>rfl
 |f::r,a=>by simp only[ko,aaV,ZM r]
theorem z0s:∀(fs:List SF) (a:Int),(vU a fs).map Prod.snd=fs.map Prod.snd
 | [],_=>rfl
 |f::r,a=>by simp only[vU,aaT,z0s r]
theorem z5Q:∀l:List Sp,cntS l=3*l.length+2*sumT l
 | []=>rfl
 |s::r=>by simp only[cntS,sumT,aaV,z5Q r];omega
theorem z1o {v:Value} {fs gs:List SF} (h:gs.map Prod.snd=fs.map Prod.snd) (b:Nat):yD v gs b->yD v fs b:=by
 have hl:gs.length=fs.length:=by simpa using congrArg List.length h
 rintro(hb|⟨k,hk,hb⟩)
 ·exact .inl hb
 ·refine .inr ⟨k,by omega,?_⟩
  have e:gs[k].2=fs[k].2:=by
   have h1:(gs.map Prod.snd)[k]'(by simpa using hk)=(fs.map Prod.snd)[k]'(by simp;omega):=by simp only[h]
   simpa using h1
  rw[<-e];exact hb
theorem Zt {α β:Type} (f:α->β):∀(l:List α) (k:Nat) (x:α) (hk:k<l.length),f x=f l[k]->(l.set k x).map f=l.map f
 | [],k,x,hk,_=>absurd hk (by simp)
 |a::l,0,x,hk,h=>by simpa using h
 |a::l,k+1,x,hk,h=>by
  rw[aap,aaT,aaT,Zt f l k x (by simpa using hk) (by simpa using h)]
theorem OwnT.rewin {base:Nat} {w w':World} {v:Value} {fs:List SF} {S:Nat->Prop} (h:OwnT base w v fs) {q:Nat} (hq:q<fs.length) {f:SF} (ht:Turns S w w') (hS:∀b,S b->zw fs[q].2.1 fs[q].2.2 b) (hc:sfc f=sfc fs[q]) (hv:f.2=fs[q].2)
  (hf:OwnW base w' f.2.1 f.2.2 f.1.ns f.1.ls):OwnT base w' v (fs.set q f):=by
 have hflat:(fs.set q f).flatMap sfc=fs.flatMap sfc:=by
  rw[List.flatMap_def,List.flatMap_def,Zt sfc fs q f hq hc]
 refine⟨by rw[aar,hflat];exact zQ h.row ht (fun b hb hs=>h.rw_ q hq b hb (hS b hs)),fun k hk=>?_,fun k hk b hb=>?_,fun i j hi hj gr b=>?_⟩
 ·rw[aar] at hk
  rw[List.getElem_set]
  split
  ·exact hf
  ·rename_i gr
   exact(h.win k hk).turned ht (fun b hb hs=>h.ww k q hk hq o_ b hb (hS b hs))
 ·rw[aar] at hk
  rw[List.getElem_set]
  split
  ·rw[hv];exact h.rw_ q hq b hb
  ·exact h.rw_ k hk b hb
 ·rw[aar] at hi hj
  rw[List.getElem_set,List.getElem_set]
  split
  ·rename_i e1
   rw[aaq o_,hv];exact h.ww q j hq hj o_ b
  ·split
   ·rename_i e2
    rw[hv];exact h.ww i q hi hq o_ b
   ·exact h.ww i j hi hj gr b
theorem z0j (base:Nat) (v:Value) (fs:List SF) (a:Int) (w:World) (h:OwnT base w v fs) (ha:0<=a) (hb:a+cntS (fs.map Prod.fst)<=1000000000000):
  Calls Tryz.prog 176 #[v,.int .i64 a] w fun e w'=>e= .returned (.int .i64 (a+cntS (fs.map Prod.fst)))/\OwnT base w' v (vU a fs)/\Turns (yD v fs) w w':=by
 rcases Gf:h.row.2 with ⟨rfl,hn⟩|⟨g,cap,cur,rfl,mI,hh,cO,Co,gj,Fy⟩
 ·have hz:fs=[]:=aby hn
  subst hz;clear Gf hn hb
  go_enter Tryz.func176,Tryz.ntmps176
  go_wp2
  go_loop [1,5] (fun x i=>i= .int .i64 0/\x= .int .i64 a) (fun _ _=>0)
  case atStart=>exact⟨rfl,rfl⟩
  case round=>
   obtain⟨rfl,rfl⟩:=hrel;go_wp2;go_ret
   exact⟨by simp[cntS],OwnT.nil _ _,Turns.refl _ _⟩
 ·clear Gf hh Fy gj
  obtain⟨T,hT⟩:∃T,a+(cntS (fs.map Prod.fst):Int)=T:=⟨_,rfl⟩;rw[hT];have HT:=h_ hT;have hTm:T<=1000000000000:=o_
  have HO:=h_ h;clear h hb hT;unfold maxLen at Co
  go_enter Tryz.func176,Tryz.ntmps176
  go_wp2
  go_loopw [1,5] (fun y i wr=>∃(k:Nat) (x:Int) (ds:List SF),k<=fs.length/\i= .int .i64 k/\y= .int .i64 x/\0<=x/\ds.length=k/\Hid (ds++vU x (fs.drop k)=vU a fs)/\Hid (x+(cntS ((fs.drop k).map Prod.fst):Int)=T)/\Hid ((ds++fs.drop k).map Prod.snd=fs.map Prod.snd)/\
    Hid (OwnT base wr (.slice (some ⟨g,0,none⟩) fs.length cap) (ds++fs.drop k))/\Hid (Turns (yD (.slice (some ⟨g,0,none⟩) fs.length cap) fs) w wr)) (fun _ i _=>fs.length -(intOf i).toNat)
  case atStart=>exact⟨0,a,[],aab _,rfl,rfl,ha,rfl,h_ (by simp),h_ (by simpa using HT.out),h_ (by simp),h_ (by simpa using HO.out),h_ (Turns.refl _ _)⟩
  case round=>
   obtain⟨k,x,ds,hk,rfl,rfl,GU,cD,HM,HC,HS,HW,HTU⟩:=hrel;clear HO
   by_cases Hd:k<fs.length
   ·have hO:=HW.out
    have bz:fs.drop k=fs[k]::fs.drop (k+1):=aas Hd;have hM:=HM.out;have hC:=HC.out;have hS:=HS.out;rw[bz] at hO hM hC hS;generalize fs[k]=f at*;obtain⟨⟨sk,sa,sb,ns,ls⟩,vn,vl⟩:=f;simp only[vU,cntS,aaT] at hM hC
    have Fu:k<(ds++(⟨sk,sa,sb,ns,ls⟩,vn,vl)::fs.drop (k+1)).length :=by simp;omega
    have hgl:(ds++(⟨sk,sa,sb,ns,ls⟩,vn,vl)::fs.drop (k+1)).length =fs.length:=by simp;omega
    have uF:(ds++((⟨sk,sa,sb,ns,ls⟩,vn,vl):SF)::fs.drop (k+1))[k]=(⟨sk,sa,sb,ns,ls⟩,vn,vl):=by
     rw[List.getElem_append_right o_];simp[cD]
    have BT:∀f':SF,(ds++((⟨sk,sa,sb,ns,ls⟩,vn,vl):SF)::fs.drop (k+1)).set k f'=ds++f'::fs.drop (k+1):=fun f'=>by
     rw[aan,aaq o_,cD,aae,aal]
    have Ge:=hO.win k Fu;have YS:=hO.rw_ k Fu;have hww:=fun j hj (gr:j≠k) b=>hO.ww k j Fu hj (Ne.symm gr) b
    rw[uF] at Ge YS hww;obtain⟨Av,cv,ev⟩:=Ge.1.form;obtain⟨Au,cu,eu⟩:=Ge.2.1.form
    dsimp only at ev eu
    subst ev eu;have Hk:=hO.row;rw[hgl] at Hk;have y0:=Hk.cellAt (k*5+0) o_;have y1:=Hk.cellAt (k*5+1) o_;have y2:=Hk.cellAt (k*5+2) o_;rw[qi sfc 5 (fun _=>rfl) _ k _ Fu o_,uF] at y0 y1 y2;simp only[sfc,aaf,aag,aah] at y0 y1 y2
    have f0:=Hk.frozenAt (k*5);have f1:=Hk.frozenAt (k*5+1);have f2:=Hk.frozenAt (k*5+2);obtain⟨r0,t0⟩:=Hk.stored (k*5+0) (.int .i64 x);obtain⟨r1,t1⟩:=r0.stored (k*5+1) (.int .i64 (x+1));obtain⟨r2,t2⟩:=r1.stored (k*5+2) (.int .i64 (x+2))
    rw[jW _ k 0 _ (⟨x,sa,sb,ns,ls⟩,.slice Av ns.length cv,.slice Au ls.length cu) Fu o_ (by rw[uF];rfl),
     jW _ k 1 _ (⟨x,x+1,sb,ns,ls⟩,.slice Av ns.length cv,.slice Au ls.length cu) (by rw[aar];exact Fu) o_ (by rw[aaz];rfl),
     jW _ k 2 _ (⟨x,x+1,x+2,ns,ls⟩,.slice Av ns.length cv,.slice Au ls.length cu) (by rw[aar,aar];exact Fu) o_ (by rw[aaz];rfl),
     List.set_set,List.set_set] at r2
    have BZ:=Turns.trans (Turns.trans (Turns.ofGrown (S:=fun b=>b=g) t0 (fun k hk=>by cases hk;rfl)) (Turns.ofGrown t1 (fun k hk=>by cases hk;rfl))) (Turns.ofGrown t2 (fun k hk=>by cases hk;rfl));have mY:=hO.put Fu hgl.symm r2 BZ (f:=(⟨x,x+1,x+2,ns,ls⟩,.slice Av ns.length cv,.slice Au ls.length cu)) Ge (fun hb=>YS g rfl hb) (fun j hj gr b hb=>hww j hj gr b hb);rw[BT,aaf] at mY;have hSg:yD (.slice (some ⟨g,0,none⟩) fs.length cap) fs g:= .inl rfl;have fV:∀b,zw (.slice Av ns.length cv) (.slice Au ls.length cu) b->yD (.slice (some ⟨g,0,none⟩) fs.length cap) fs b:=fun b hb=>z1o hS b (.inr ⟨k,Fu,by rw[uF];exact hb⟩)
    have YT:=h_ (HTU.out.trans (BZ.mono (fun b hb=>by subst hb;exact hSg)));rw[aaf] at YT;have HP:=h_ mY;have M6:=h_ fV;have HM2:=h_ hM;have HC2:=h_ hC;have gB:Hid ((ds++((⟨x,x+1,x+2,ns,ls⟩,.slice Av ns.length cv,.slice Au ls.length cu):SF)::fs.drop (k+1)).map Prod.snd=fs.map Prod.snd):=h_ (by rw[<-hS];simp);have hsm:x+3+2*(ns.length:Int)+2*(ls.length:Int)<=T:=o_
    clear r0 r1 r2 t0 t1 t2 BZ mY fV hM hC hS hO Hk BT uF Ge YS hww HM HC HS HW HTU Fu hgl bz
    go_upto_region 10 with (fail)
    rw[show x+1+1+1=x+3 by omega,show x+1+1=x+2 by omega];obtain⟨w3,FW⟩:∃w3,w3=((wr.setCell ⟨g,k*5,none⟩ (.int .i64 x)).setCell ⟨g,k*5+1,none⟩ (.int .i64 (x+1))).setCell ⟨g,k*5+2,none⟩ (.int .i64 (x+2)):=⟨_,rfl⟩;rw[<-FW];have hP3:OwnT base w3 (.slice (some ⟨g,0,none⟩) fs.length cap) (ds++((⟨x,x+1,x+2,ns,ls⟩,.slice Av ns.length cv,.slice Au ls.length cu):SF)::fs.drop (k+1)):=FW▸HP.out;have HTU4:Hid (Turns (yD (.slice (some ⟨g,0,none⟩) fs.length cap) fs) w w3):=h_ (FW▸YT.out);clear FW HP YT y0 y1 y2 f0 f1 f2;have hgl:∀f':SF,(ds++f'::fs.drop (k+1)).length =fs.length:=fun f'=>by simp;omega
    have Fu:∀f':SF,k<(ds++f'::fs.drop (k+1)).length :=fun f'=>by rw[hgl];exact Hd
    have uF:∀(f':SF) (h:k<(ds++f'::fs.drop (k+1)).length),(ds++f'::fs.drop (k+1))[k]'h=f':=fun f' _=>by
     rw[List.getElem_append_right o_];simp[cD]
    have BT:∀f' f'':SF,(ds++f''::fs.drop (k+1)).set k f'=ds++f'::fs.drop (k+1):=fun f' f''=>by
     rw[aan,aaq o_,cD,aae,aal]
    have Hk:=hP3.row;rw[hgl] at Hk;have y3:=Hk.cellAt (k*5+3) o_;rw[qi sfc 5 (fun _=>rfl) _ k _ (Fu _) o_,uF] at y3;simp only[sfc,aag,aah] at y3
    have Ge:=hP3.win k (Fu _);rw[uF] at Ge;have HP3:=h_ hP3;have cm:=h_ hgl;have HKQ:=h_ Fu;have m5:=h_ uF;have HSET:=h_ BT;clear Hk hP3 hgl Fu uF BT
    go_wp2_with fail
    refine(QS base _ ns (x+3) _ Ge.1 o_ o_).mono ?_
    rintro e w4 ⟨rfl,gF,GA⟩;have ht4:Turns (fun b=>(Value.slice Av ns.length cv).ownBlock =some b) w3 w4:=Turns.ofGrown GA (fun b hb=>hb)
    have hP4:=HP3.out.rewin (HKQ.out _) (f:=(⟨x,x+1,x+2,runP (x+3) ns.length,ls⟩,.slice Av ns.length cv,.slice Au ls.length cu)) ht4 (fun b hb=>by rw[m5.out];exact .inl hb) (by rw[m5.out];rfl) (by rw[m5.out])
     ⟨by have e5:=gF;exact e5,Ge.2.1.turned ht4 (fun b hb gw=>Ge.2.2 b gw hb),Ge.2.2⟩
    rw[HSET.out] at hP4;have HTU5:=h_ (HTU4.out.trans (ht4.mono (fun b hb=>M6.out b (.inl hb))));clear ht4 GA gF Ge HTU4 HP3 y3;have Hk:=hP4.row;rw[cm.out] at Hk;have y4:=Hk.cellAt (k*5+4) o_;rw[qi sfc 5 (fun _=>rfl) _ k _ (HKQ.out _) o_,m5.out] at y4;simp only[sfc,aag,aah] at y4
    have FY:=hP4.win k (HKQ.out _);rw[m5.out] at FY;have HP4:=h_ hP4;clear Hk hP4
    go_wp2_with fail
    refine(QO base _ ls (x+3+2*ns.length) _ FY.2.1 o_ o_).mono ?_
    rintro e w5 ⟨rfl,fQ,bv⟩;have U8:Turns (fun b=>(Value.slice Au ls.length cu).ownBlock =some b) w4 w5:=Turns.ofGrown bv (fun b hb=>hb)
    have hP5:=HP4.out.rewin (HKQ.out _) (f:=(⟨x,x+1,x+2,runP (x+3) ns.length,runP (x+3+2*ns.length) ls.length⟩,.slice Av ns.length cv,.slice Au ls.length cu)) U8 (fun b hb=>by rw[m5.out];exact .inr hb) (by rw[m5.out];rfl) (by rw[m5.out])
     ⟨FY.1.turned U8 (fun b hb gw=>FY.2.2 b hb gw),fQ,FY.2.2⟩
    rw[HSET.out] at hP5;have HTU6:=h_ (HTU5.out.trans (U8.mono (fun b hb=>M6.out b (.inr hb))));have HP5:Hid (OwnT base w5 (.slice (some ⟨g,0,none⟩) fs.length cap) ((ds++[(⟨x,x+1,x+2,runP (x+3) ns.length,runP (x+3+2*ns.length) ls.length⟩,.slice Av ns.length cv,.slice Au ls.length cu)])++fs.drop (k+1))):=h_ (by rw[aay];exact hP5);clear U8 bv fQ FY HTU5 HP4 hP5 y4;go_wp2;go_roundw
    case rel=>exact⟨k+1,x+3+2*ns.length+2*ls.length,ds++[(⟨x,x+1,x+2,runP (x+3) ns.length,runP (x+3+2*ns.length) ls.length⟩,.slice Av ns.length cv,.slice Au ls.length cu)],by omega,by go_num,rfl,by omega,by simp[cD],h_ (by rw[aay];exact HM2.out),h_ (by have:=HC2.out;omega),h_ (by rw[<-gB.out];simp),HP5,HTU6⟩
    case measure=>simp[intOf];omega
   ·have Hw:k=fs.length:=o_
    have hM:=HM.out;have hC:=HC.out;have hW:=HW.out;rw[Hw,List.drop_length] at hM hC hW;simp only[vU,cntS,List.append_nil,aaU] at hM hC hW
    have HF:Hid (OwnT base wr (.slice (some ⟨g,0,none⟩) fs.length cap) (vU a fs)):=h_ (hM▸hW);have hxT:x=T:=o_
    subst hxT;clear hM hC hW HM HC HW HS;go_wp2;go_ret
    exact⟨rfl,HF.out,HTU.out⟩
theorem z1B (v:Value) (l:List Sp) (a:Int) (w:World) (h:RT w v (ko a l)) (ha:0<=a) (hb:a+cntS l<=1000000000000):
  CB_ 178 #[v,.int .i64 a] w (.int .i64 (a+cntS l)):=by
 obtain⟨A,c,rfl,hc,hm,hcell⟩:=h;have GO:(ko a l).length =l.length:=ZM l a;unfold maxLen at hm;rw[GO] at hc hm;have Hs:0<l.length->∃b off,A=some ⟨b,off,none⟩/\b<w.heap.size/\∀(k:Nat) (hk:k<(ko a l).length),J6 w b (off+k*5) (ko a l)[k]:=by rw[<-GO];exact hcell
 rw[GO];obtain⟨T,hT⟩:∃T,a+(cntS l:Int)=T:=⟨_,rfl⟩;rw[hT];have HT:=h_ hT;have HML:=h_ GO;have hTm:T<=1000000000000:=o_
 go_enter Tryz.func178,Tryz.ntmps178
 go_wp2
 go_loopw [1,5] (fun y i wr=>∃(k:Nat) (x:Int),k<=l.length/\i= .int .i64 k/\y= .int .i64 x/\0<=x/\Hid ((ko a l).drop k=ko x (l.drop k))/\Hid (x+(cntS (l.drop k):Int)=T)/\Below w.heap.size w wr) (fun _ i _=>l.length -(intOf i).toNat)
 case atStart=>exact⟨0,a,aab _,rfl,rfl,ha,h_ (by simp),h_ (by simpa using HT.out),aaj _ _⟩
 case round=>
  obtain⟨k,x,hk,rfl,rfl,GU,HM,HC,Hb⟩:=hrel
  by_cases Hd:k<l.length
  ·obtain⟨b,off,rfl,hb,Ho⟩:=Hs o_
   have hkm:k<(ko a l).length :=by rw[HML.out];exact Hd
   have UM:=Ho k hkm;have hM:=HM.out;have hC:=HC.out;rw[aas hkm,aas Hd] at hM;rw[aas Hd] at hC;simp only[ko,cntS,List.cons.injEq] at hM hC
   obtain⟨hM1,hM2⟩:=hM;rw[hM1] at UM;generalize l[k]=s at*;obtain⟨k0,k1,k2,vn,vl,k3,k4,hn,hl⟩:=UM;obtain⟨Av,cv,ev,_⟩:=hn.form;obtain⟨Au,cu,eu,_⟩:=hl.form
   dsimp only at k0 k1 k2 hn hl ev eu
   rw[qP] at ev eu;subst ev eu;have q0:=(Hb.cell (p:=⟨b,off+k*5,none⟩) hb).trans k0;have q1:=(Hb.cell (p:=⟨b,off+k*5+1,none⟩) hb).trans k1;have q2:=(Hb.cell (p:=⟨b,off+k*5+2,none⟩) hb).trans k2;have q3:=(Hb.cell (p:=⟨b,off+k*5+3,none⟩) hb).trans k3;have q4:=(Hb.cell (p:=⟨b,off+k*5+4,none⟩) hb).trans k4;have FM:=h_ (hn.below Hb);have Gc:=h_ (hl.below Hb);have HM2:=h_ hM2;have HC2:=h_ hC;have hsm:x+3+2*(s.ns.length:Int)+2*(s.ls.length:Int)<=T:=o_
   have e2:x+2=x+1+1:=o_
   rw[e2] at q2;have c1:¬x+3+2*(s.ns.length:Int)<0:=o_
   have c2:¬x+3+2*(s.ns.length:Int)+2*(s.ls.length:Int)<0:=o_
   go_upto_region 13 with (fail)
   rw[show x+1+1+1=x+3 by omega]
   go_wp2_with fail
   refine(ZP _ s.ns.length (x+3) _ FM.out o_ o_).mono ?_
   rintro e w2 ⟨rfl,rfl⟩
   go_wp2_with fail
   refine(ZA _ s.ls.length (x+3+2*s.ns.length) _ Gc.out o_ o_).mono ?_
   rintro e w3 ⟨rfl,rfl⟩;go_wp2;go_roundw
   case rel=>exact⟨k+1,x+3+2*s.ns.length+2*s.ls.length,by omega,by go_num,rfl,by omega,HM2,h_ (by have:=HC2.out;omega),Hb⟩
   case measure=>simp[intOf];omega
  ·have Hw:k=l.length:=o_
   have hC:=HC.out;rw[Hw,List.drop_length] at hC;simp only[cntS] at hC
   have hxT:x=T:=o_
   subst hxT;go_wp2;go_ret
   exact⟨rfl,Hb⟩
def z0A (a:Int) (D:Dr):Dr:=
 ⟨runP a D.fn.length,runP (a+2*D.fn.length) D.fl.length,runP (a+2*D.fn.length+2*D.fl.length) D.nn.length,runP (a+2*D.fn.length+2*D.fl.length+2*D.nn.length) D.nl.length,
  ko (a+2*D.fn.length+2*D.fl.length+2*D.nn.length+2*D.nl.length) D.ss⟩
def cntD (D:Dr):Nat:=2*D.fn.length+2*D.fl.length+2*D.nn.length+2*D.nl.length+cntS D.ss
theorem Zg {v:Value} {fs:List SF} {a:Int} (b:Nat) (h:yD v (vU a fs) b):yD v fs b:=z1o (z0s fs a) b h
theorem z07 (base:Nat) (va vb vc vd ve:Value) (D:Dr) (fs:List SF) (x:Int) (w:World) (h:OwnD base w va vb vc vd ve D fs) (hx:0<=x) (hm:x+cntD D<=1000000000000):
  Calls Tryz.prog 99 #[.agg #[va,vb,vc,vd,ve],.int .i64 x] w fun e w'=>e= .returned (.int .i64 (x+cntD D))/\
   OwnD base w' va vb vc vd ve (z0A x D) (vU (x+2*D.fn.length+2*D.fl.length+2*D.nn.length+2*D.nl.length) fs)/\Turns (qn va vb vc vd ve fs) w w':=by
 have F0:=h_ h.lt;have Yf:=h_ h.f_n;have HFS:=h_ h.f_s;have Ud:=h_ h.n_s;have HMP:=h_ h.map;have Gu:cntS (fs.map Prod.fst)=cntS D.ss:=by rw[h.map]
 have hD:cntD D=2*D.fn.length+2*D.fl.length+2*D.nn.length+2*D.nl.length+cntS D.ss:=rfl;obtain⟨m,c9⟩:∃m,cntS D.ss=m:=⟨_,rfl⟩;rw[c9] at Gu hD;have hE:x+(cntD D:Int)=x+2*D.fn.length+2*D.fl.length+2*D.nn.length+2*D.nl.length+m:=o_
 rw[hE];have ce:x+2*D.fn.length+2*D.fl.length+2*D.nn.length+2*D.nl.length+m<=1000000000000:=o_
 have HO:=h_ (h.alloc (.cells #[va,vb,vc,vd,ve] 30));have YU:=h_ Gu
 go_enter Tryz.func99,Tryz.ntmps99
 go_wp2_with fail
 obtain⟨w0,Ge⟩:∃w0,w0=w.alloc (.cells #[va,vb,vc,vd,ve] 30):=⟨_,rfl⟩;have FQ:Blk w0 w.heap.size 30 #[va,vb,vc,vd,ve]:=Ge▸Blk.newAt rfl;have N5:Turns (qn va vb vc vd ve fs) w w0:=Ge▸Turns.ofBelow ((aaj _ _).alloc (aaa _) _);rw[<-Ge] at HO⊢;have hnX:¬qn va vb vc vd ve fs w.heap.size:=fun hk=>by have:=(F0.out _ hk).2;omega
 have h0:=HO.out;refine(Q9 base _ _ D.fn D.fl x _ h0.first hx o_).mono ?_
 rintro e w1 ⟨rfl,Hj,uG⟩;have gh:=FQ.turned uG (fun hk=>hnX (.inl hk));have U9:=h0.now.turned uG (fun k hk gH=>Yf.out k gH hk);have nh:=h0.ss.turned uG (fun k hk gH=>HFS.out k gH hk);have uH:=N5.trans (uG.mono (S':=qn va vb vc vd ve fs) (fun k hk=> .inl hk));obtain⟨y_0,y_1,y_2,y_3,y_4⟩:=gh.c5
 go_wp2_with fail
 refine(Q9 base _ _ D.nn D.nl (x+2*D.fn.length+2*D.fl.length) _ U9 o_ o_).mono ?_
 rintro e w2 ⟨rfl,Hm,CS⟩;have G7:=gh.turned CS (fun hk=>hnX (.inr (.inl hk)));have hF2:=Hj.turned CS (fun k hk gH=>Yf.out k hk gH);have fh:=nh.turned CS (fun k hk gH=>Ud.out k gH hk);have UU:=uH.trans (CS.mono (S':=qn va vb vc vd ve fs) (fun k hk=> .inr (.inl hk)));obtain⟨y_0,y_1,y_2,y_3,y_4⟩:=G7.c5
 go_wp2_with fail
 refine(z0j base _ fs (x+2*D.fn.length+2*D.fl.length+2*D.nn.length+2*D.nl.length) _ fh o_ (by rw[YU.out];exact ce)).mono ?_
 rintro e w3 ⟨rfl,Hq,BZ⟩;have Nc:=hF2.turned BZ (fun k hk gH=>HFS.out k hk gH);have cd:=Hm.turned BZ (fun k hk gH=>Ud.out k hk gH);have Ur:=UU.trans (BZ.mono (S':=qn va vb vc vd ve fs) (fun k hk=> .inr (.inr hk)))
 have HF:Hid (OwnD base w3 va vb vc vd ve (z0A x D) (vU (x+2*D.fn.length+2*D.fl.length+2*D.nn.length+2*D.nl.length) fs)):=
  h_ ⟨Nc,cd,Hq,by rw[z18,HMP.out];rfl,Yf.out,fun k hk gH=>HFS.out k hk (Zg k gH),fun k hk gH=>Ud.out k hk (Zg k gH)⟩
 rw[YU.out];go_wp2;go_ret
 exact⟨rfl,HF.out,Ur⟩
theorem z2w (va vb vc vd ve:Value) (D:Dr) (x:Int) (w:World) (h:RD w va vb vc vd ve (z0A x D)) (hx:0<=x) (hm:x+cntD D<=1000000000000):
  CB_ 101 #[.agg #[va,vb,vc,vd,ve],.int .i64 x] w (.int .i64 (x+cntD D)):=by
 have hD:cntD D=2*D.fn.length+2*D.fl.length+2*D.nn.length+2*D.nl.length+cntS D.ss:=rfl;have hE:x+(cntD D:Int)=x+2*D.fn.length+2*D.fl.length+2*D.nn.length+2*D.nl.length+cntS D.ss:=o_
 rw[hE];have ce:x+2*D.fn.length+2*D.fl.length+2*D.nn.length+2*D.nl.length+cntS D.ss<=1000000000000:=o_
 have c1:¬x+2*(D.fn.length:Int)+2*D.fl.length<0:=o_
 have c2:¬x+2*(D.fn.length:Int)+2*D.fl.length+2*D.nn.length+2*D.nl.length<0:=o_
 have c3:¬x+2*(D.fn.length:Int)+2*D.fl.length+2*D.nn.length+2*D.nl.length+cntS D.ss<0:=o_
 have h0:=h.below ((aaj _ _).alloc (aaa _) (.cells #[va,vb,vc,vd,ve] 30))
 go_enter Tryz.func101,Tryz.ntmps101
 go_wp2_with fail
 obtain⟨w0,Ge⟩:∃w0,w0=w.alloc (.cells #[va,vb,vc,vd,ve] 30):=⟨_,rfl⟩;have FQ:Blk w0 w.heap.size 30 #[va,vb,vc,vd,ve]:=Ge▸Blk.newAt rfl;have Hg:Below w.heap.size w w0:=Ge▸(aaj _ _).alloc (aaa _) _;rw[<-Ge] at h0⊢;refine(QX _ _ D.fn.length D.fl.length x _ h0.fn h0.fl hx o_).mono ?_
 rintro e w1 ⟨rfl,h9⟩;have gh:=FQ.below h9 FQ.lt;have h1:=h0.below h9;have h8:=Hg.trans (h9.mono Hg.size);obtain⟨y_0,y_1,y_2,y_3,y_4⟩:=gh.c5
 go_wp2_with fail
 refine(QX _ _ D.nn.length D.nl.length (x+2*D.fn.length+2*D.fl.length) _ h1.nn h1.nl o_ o_).mono ?_
 rintro e w2 ⟨rfl,He⟩;have G7:=gh.below He gh.lt;have h2:=h1.below He;have Ha:=h8.trans (He.mono h8.size);obtain⟨y_0,y_1,y_2,y_3,y_4⟩:=G7.c5
 go_wp2_with fail
 refine(z1B _ D.ss (x+2*D.fn.length+2*D.fl.length+2*D.nn.length+2*D.nl.length) _ h2.ss o_ ce).mono ?_
 rintro e w3 ⟨rfl,Hf⟩;have Hc:=Ha.trans (Hf.mono Ha.size);go_wp2;go_ret
 exact⟨rfl,Hc⟩
end Go.Proofs.YtnjcpljhmhdhkaaGreat
