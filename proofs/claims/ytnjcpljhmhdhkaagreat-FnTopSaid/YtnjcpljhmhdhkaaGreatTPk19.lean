/- part 19 -/
import Derived.Test.YtnjcpljhmhdhkaaGreatTPk18
import Derived.Deep.RegionHeld3
set_option linter.unusedSimpArgs false
set_option linter.unusedVariables false
set_option linter.unusedSectionVars false
set_option maxRecDepth 100000
set_option maxHeartbeats 16000000
namespace Go.Proofs.YtnjcpljhmhdhkaaGreat
noncomputable def dgN (ls:List Pr) (v:Nat):Nat:=cn (2*ls.length) (fun d=>zd ls d=(v:Int))
def adjF (ns ls:List Pr) (f g:Nat):Prop:=∃d,d<2*ls.length/\fcD ns ls d=f/\fcD ns ls (twin d)=g/\f≠g
def d3 (ls:List Pr) (d:Nat):Prop:=3<=dgN ls (zd ls d).toNat
theorem kD {ns ls:List Pr} {f g:Nat} (h:adjF ns ls f g):adjF ns ls g f:=by
 obtain⟨d,h1,h2,h3,h4⟩:=h;exact⟨twin d,jC h1,h3,by rw[vF];exact h2,fun hc=>h4 hc.symm⟩
section
variable {ns ls:List Pr} (h:zC ns ls)
include h
theorem z4r {f g:Nat} (ha:adjF ns ls f g):g<(zg ns ls).length :=by
 obtain⟨d,h1,h2,h3,h4⟩:=ha;rw[<-h3];exact z2n h (jC h1)
end
theorem z0y (d:Nat):(d=2*(d/2)/\twin d=2*(d/2)+1)∨(d=2*(d/2)+1/\twin d=2*(d/2)):=by
 unfold twin
 by_cases h:d%2=0
 ·left;rw[aao h];omega
 ·right;rw[aaq h];omega
theorem ZS (g:List Int) (f:List Nat) (k d:Nat) (hd:d<g.length):∀j,j<=f.length->(qj g f k j).getD d 0=if d∈f.take j then(k:Int) else g.getD d 0
 |0,_=>by simp[qj]
 |j+1,h=>by
  have ih:=ZS g f k d hd j o_;have hl:=vi g f k j;have hf:f.getD j 0=f[j]:=by simp[List.getD,show j<f.length by omega]
  show((qj g f k j).set (f.getD j 0) k).getD d 0=_
  rw[hf,aax (show j<f.length by omega)]
  by_cases he:f[j]=d
  ·rw[he]
   have:d<(qj g f k j).length :=o_
   simp[List.getD,aa0,this]
  ·have h1:((qj g f k j).set f[j] (k:Int)).getD d 0=(qj g f k j).getD d 0:=by
    simp[List.getD,aa0,he]
   rw[h1,ih]
   have h2:(d∈f.take j++[f[j]])↔d∈f.take j:=by
    rw[aaI,aa9];exact⟨fun h=>h.resolve_right (fun hc=>he hc.symm),.inl⟩
   by_cases h3:d∈f.take j
   ·rw[aao h3,aao (h2.2 h3)]
   ·rw[aaq h3,aaq (fun hc=>h3 (h2.1 hc))]
theorem Jf {F:List (List Nat)} (hnd:F.flatten.Nodup) {z:List Int} {d:Nat} (hd:d<z.length) (hm:d∈F.flatten):∀k,k<=F.length->(qQ F z k).getD d 0=if qH F d<k then(qH F d:Int) else z.getD d 0
 |0,_=>by simp[qQ]
 |k+1,h=>by
  have ih:=Jf hnd hd hm k o_;have hl:=vo F z k;obtain⟨s1,s2⟩:=yn hm
  show(qj (qQ F z k) (F.getD k []) k (F.getD k []).length).getD d 0=_
  rw[ZS _ _ _ _ o_ _ (aaa _),aaA,ih]
  by_cases he:qH F d=k
  ·rw[aao (by rw[<-he];exact s2),aao o_,he]
  ·have hn:¬d∈F.getD k []:=fun hc=>he (yH hnd s1 o_ s2 hc)
   rw[aaq hn]
   by_cases h1:qH F d<k
   ·rw[aao h1,aao o_]
   ·rw[aaq h1,aaq o_]
theorem zK {ns ls:List Pr} (hw:zf ns ls=true):z9 ns ls=zg ns ls:=by unfold z9;rw[hw];rfl
theorem yE {ns ls:List Pr} (hw:zf ns ls=true) {d:Nat} (hd:d<2*ls.length):(zM ns ls).getD d 0=(fcD ns ls d:Int):=by
 obtain⟨h,_⟩:=zL hw;have Hr:=z4T h;obtain⟨f1,f2,f3⟩:=qW Hr (2*ls.length) (aaa _);unfold zM;rw[zK hw,Jf (F:=zg ns ls) f2 (by simp;exact hd) (f1 d hd) _ (aaa _),aao (show qH (zg ns ls) d<(zg ns ls).length from z2n h hd)];rfl
noncomputable def adB (ns ls:List Pr) (f g:Nat):Bool:= @decide (adjF ns ls f g) (Classical.propDecidable _)
theorem k9 {ns ls:List Pr} {f g:Nat}:adB ns ls f g=true↔adjF ns ls f g:=by unfold adB;simp
theorem z25 (ns ls:List Pr) (f g:Nat):adB ns ls f g=adB ns ls g f:=by
 rw[aaZ,k9,k9];exact⟨kD,kD⟩
theorem z7r {ns ls:List Pr} (hw:zf ns ls=true) {f g:Nat}:adjF ns ls f g↔f≠g/\∃k,k<ls.length/\(((zM ns ls).getD (2*k) 0=(f:Int)/\(zM ns ls).getD (2*k+1) 0=(g:Int))∨((zM ns ls).getD (2*k) 0=(g:Int)/\(zM ns ls).getD (2*k+1) 0=(f:Int))):=by
 constructor
 ·rintro⟨d,hd,h1,h2,h3⟩
  refine⟨h3,d/2,by omega,?_⟩
  rw[yE hw o_,yE hw o_]
  rcases z0y d with ⟨z1,z2⟩|⟨z1,z2⟩
  ·left
   have e1:fcD ns ls (2*(d/2))=f:=(congrArg (fcD ns ls) z1).symm.trans h1;have e2:fcD ns ls (2*(d/2)+1)=g:=(congrArg (fcD ns ls) z2).symm.trans h2;rw[e1,e2];exact⟨rfl,rfl⟩
  ·right
   have e1:fcD ns ls (2*(d/2)+1)=f:=(congrArg (fcD ns ls) z1).symm.trans h1;have e2:fcD ns ls (2*(d/2))=g:=(congrArg (fcD ns ls) z2).symm.trans h2;rw[e1,e2];exact⟨rfl,rfl⟩
 ·rintro⟨h3,k,hk,h⟩
  rw[yE hw o_,yE hw o_] at h;have t0:twin (2*k)=2*k+1:=by unfold twin;rw[aao o_]
  have t1:twin (2*k+1)=2*k:=by unfold twin;rw[aaq o_];omega
  rcases h with ⟨a,b⟩|⟨a,b⟩
  ·exact⟨2*k,by omega,by omega,by rw[t0];omega,h3⟩
  ·exact⟨2*k+1,by omega,by omega,by rw[t1];omega,h3⟩
noncomputable def yd (ns ls:List Pr) (n:Int):Option (List Int):=if zf ns ls&&inB n 1 6 then srch (adB ns ls) (List.replicate (zg ns ls).length (-1)) n.toNat (zg ns ls).length [] else none
theorem z1O {ns ls:List Pr} {n:Int} {L:List Int} (h:yd ns ls n=some L):q7 ns ls L=true:=by
 unfold yd at h
 split at h
 ·rename_i hc
  rw[aaG] at hc;obtain⟨hw,hn⟩:=hc;rw[zc] at hn;obtain⟨W,_⟩:=zL hw;obtain⟨e1,_,e3,e4⟩:=XI _ [] L h (fun j hj=>by simp at hj) (fun j hj=>by simp at hj);have Hm:L.length=(zg ns ls).length :=by simpa using e1
  have M8:qm ns ls L=true:=by
   unfold qm;rw[hw,zK hw,Hm];simp only[aaR,decide_true]
   rw[jW];intro j hj;have:=e3 j hj;rw[zc];omega
  have Hz:∀m k,k+m<=ls.length->je ns ls L m k= -1:=by
   intro m
   induction m with
   |zero=>intro k _;rfl
   |succ m ih=>
    intro k hk;unfold je
    have fF:¬vr ns ls L k=true:=by
     intro hc;unfold vr at hc;rw[aaG,aa4,aa4,yE hw o_,yE hw o_,aa5,aa5] at hc;obtain⟨c1,c2⟩:=hc;have l0:=z2n W (show 2*k<2*ls.length by omega);have l1:=z2n W (show 2*k+1<2*ls.length by omega);have t0:twin (2*k)=2*k+1:=by unfold twin;rw[aao o_]
     have ha:adjF ns ls (fcD ns ls (2*k)) (fcD ns ls (2*k+1)):=⟨2*k,by omega,rfl,by rw[t0],fun hc=>c1 (by rw[hc])⟩
     rcases Nat.lt_trichotomy (fcD ns ls (2*k)) (fcD ns ls (2*k+1)) with g|g|g
     ·exact e4 _ _ g o_ (k9.2 ha) c2
     ·exact c1 (by rw[g])
     ·exact e4 _ _ g o_ (k9.2 (kD ha)) c2.symm
    rw[aaq fF];exact ih (k+1) o_
  unfold q7;rw[M8];simp only[aaR,aa4]
  unfold jK;rw[aao M8,Hz _ 0 o_];omega
 ·cases h
open Go.RowKit
theorem qR (v0 v1 v2 v3 v4 v5 v6:Value) (S:St) (w:World) (h:RSt w v0 v1 v2 v3 v4 v5 v6 S) (hle:StLe S):
  Calls Tryz.prog 68 #[.agg #[v0,v1,v2,v3,v4,v5,v6,.int .i64 S.fund]] w (z3L S w):=by
 have gf:=h_ hle;obtain⟨w0,GG⟩:∃u,u=(w.alloc (.cells #[v0,v1,v2,v3,v4,v5,v6,.int .i64 S.fund] 34)).alloc (.cells z8_ 34):=⟨_,rfl⟩;have F8:Blk w0 w.heap.size 34 #[v0,v1,v2,v3,v4,v5,v6,.int .i64 S.fund]:=GG▸(Blk.newAt rfl).alloc _;have FS:Blk w0 (w.heap.size+1) 34 z8_:=GG▸Blk.newAt (by simp);have Hi:Below w.heap.size w w0:=GG▸((aaj _ _).alloc (aaa _) _).alloc (by simp) _;have MI:w0.heap.size=w.heap.size+1+1:=by rw[GG];simp
 have Bs:=h_ GG;have hd:=h_ (h.below Hi);clear hle h GG
 go_enter Tryz.func68,Tryz.ntmps68
 go_upto_region 1 with (fail)
 rw[<-Bs.out];clear Bs;obtain⟨x_0,x_1,x_2,x_3,x_4,x_5,x_6,x_7,x_f0,x_f1,x_f2,x_f3,x_f4,x_f5,x_f6,x_f7⟩:=F8.b8;obtain⟨r_0,r_1,r_2,r_3,r_4,r_5,r_6,r_7,r_f0,r_f1,r_f2,r_f3,r_f4,r_f5,r_f6,r_f7⟩:=FS.b8;have q0:w.heap.size<w0.heap.size:=o_
 have q1:w.heap.size+1<w0.heap.size:=o_
 have bK:=h_ MI;have HR0:=h_ FS;clear MI F8 FS
 go_region_held3 (fun w'=>w'.cell? ⟨w.heap.size,0,none⟩=some (v0)/\w'.cell? ⟨w.heap.size,1,none⟩=some (v1)/\w'.cell? ⟨w.heap.size,2,none⟩=some (v2)/\w'.cell? ⟨w.heap.size,3,none⟩=some (v3)/\w'.cell? ⟨w.heap.size,4,none⟩=some (v4)/\w'.cell? ⟨w.heap.size,5,none⟩=some (v5)/\w'.cell? ⟨w.heap.size,6,none⟩=some (v6)/\w'.cell? ⟨w.heap.size,7,none⟩=some (.int .i64 S.fund))
  (go_keep)
  (first|(go_at_call 80;refine Calls.mono (kY _ _ _ _ _ S.D _ (hd.out.dr.below ?a1) gf.out.D) ?_;(case a1=>exact bel_);rintro e w1 ⟨A0,ac0,A1,ac1,A2,ac2,A3,ac3,A4,ac4,fs,rfl,Hj,Hb⟩;(have gl:=bdC Hb);(have mE:=bdF Hb);have H7:=Hb.size;(try simp at H7);(try have gY:=p0_ w w1);(try have Gv:=p1_ w w1))|(go_at_call 133;refine Calls.mono (ku _ S.cs _ (hd.out.cs.below ?a2) gf.out.cs) ?_;(case a2=>exact bel_);rintro e w2 ⟨z5,rfl,Hn,Hh⟩;(obtain⟨A5,ac5,rfl,_⟩:=Hn.reads.form);(have gV:=bcC Hh);(have Mv:=bcF Hh);have Gp:=Hh.size;(try simp at Gp);(try have Gc:=p0_ w w2);(try have Gd:=p1_ w w2))|(go_at_call 134;refine Calls.mono (ye _ S.ds _ (hd.out.ds.below ?a3) gf.out.ds) ?_;(case a3=>exact bel_);rintro e w3 ⟨z6,rfl,Hq,Hg⟩;(obtain⟨A6,ac6,rfl⟩:=zx.form Hq);(have GK:=bcC Hg);(have Mz:=bcF Hg)))
 have MI:=bK.out;have k13:Below w1.heap.size w1 w3:=bel_
 have k23:Below w2.heap.size w2 w3:=bel_
 have k03:Below w0.heap.size w0 w3:=bel_
 have GH:Hid (OwnSt (w.heap.size+1+1) w3 (.slice A0 S.D.fn.length ac0) (.slice A1 S.D.fl.length ac1) (.slice A2 S.D.nn.length ac2) (.slice A3 S.D.nl.length ac3) (.slice A4 S.D.ss.length ac4) (.slice A5 S.cs.length ac5) (.slice A6 S.ds.length ac6) S fs):=h_ (by
  have Hu:=Hj.lt;have CB:=World.ownsRow.lt Hn;have gj:=World.ownsRow.lt Hq
  try simp at Hu
  try simp at CB
  try simp at gj
  refine⟨(Hj.kept k13).mono ?_,(OwnI.kept Hn k23).mono ?_,Hq.mono ?_,fun k h1 h2=>?_,fun k h1 h2=>?_,fun k h1 h2=>?_⟩
  ·exact sz_
  ·exact sz_
  ·exact sz_
  ·have:=Hu k h1;have:=CB k h2;omega
  ·have:=Hu k h1;have:=gj k h2;omega
  ·have:=CB k h1;have:=gj k h2;omega)
 have fY:=h_ (Hi.trans (k03.mono Hi.size));have n1:w.heap.size+1<w3.heap.size:=by have:=k03.size;omega
 have Ga:=HR0.out.below k03 q1;obtain⟨t_0,t_1,t_2,t_3,t_4,t_5,t_6,t_7⟩:=Ga.c8;clear Hi Hb Hh Hg Hj Hn Hq k13 k23 k03;go_wp2;refine bodyPost_ret (v:= .agg #[.slice A0 S.D.fn.length ac0,.slice A1 S.D.fl.length ac1,.slice A2 S.D.nn.length ac2,.slice A3 S.D.nl.length ac3,.slice A4 S.D.ss.length ac4,.slice A5 S.cs.length ac5,.slice A6 S.ds.length ac6,.int .i64 S.fund]) (by simp[results,Tryz.results68,go_sem,n1,t_0,t_1,t_2,t_3,t_4,t_5,t_6,t_7]) rfl ?_
 refine⟨A0,ac0,A1,ac1,A2,ac2,A3,ac3,A4,ac4,A5,ac5,A6,ac6,fs,rfl,?_,?_⟩
 ·refine OwnSt.mono (base:=w.heap.size+1+1) ?_ o_
  repeat (first|(with_reducible exact GH.out)|(with_reducible refine OwnSt.setLow ?_ ?_ _))
  all_goals exact sz_
 ·have He:=fY.out
  exact bel_
theorem z2k {zs:List Int} {x:Int} {k:Nat} (hk:k<zs.length) (h:x∉zs.take k) (Hv:zs.getD k 0≠x):x∉zs.take (k+1):=by
 rw[aax hk,aaI,aa9];rintro(h2|h2)
 ·exact h h2
 ·exact Hv (by rw[h2];simp[List.getD,hk])
theorem z9t {zs:List Int} {k:Nat} (hk:k<zs.length):zs.getD k 0∈zs:=by
 rw[List.getD,aac hk];exact abg hk
theorem z7k (v:Value) (zs:List Int) (x:Int) (w:World) (h:RI w v zs):
  Calls Tryz.prog 190 #[v,.int .i64 x] w fun e w'=>e= .returned (.bool (decide (x∈zs)))/\w=w':=by
 obtain⟨A,c,rfl,hc,hm,hcell⟩:=h.form;unfold maxLen at hm;clear h
 go_enter Tryz.func190,Tryz.ntmps190
 go_wp2
 go_loop [9] (fun i=>∃k:Nat,k<=zs.length/\i= .int .i64 k/\Hid (x∉zs.take k)) (fun i=>zs.length -(intOf i).toNat)
 case atStart=>exact⟨0,aab _,rfl,h_ (by simp)⟩
 case round=>
  obtain⟨k,hk,rfl,HT⟩:=hrel
  by_cases Hf:k<zs.length
  ·obtain⟨b,off,rfl,hb,Hz⟩:=hcell o_
   have fM:=Hz k Hf;have Hu:(k:Int)<(zs.length:Int):=o_
   have ik1:(0:Int)<=(k:Int):=o_
   have HM:=h_ (z9t Hf);have HS:=h_ (fun Hv=>z2k Hf HT.out Hv);clear Hz hcell;generalize zs.getD k 0=y at*
   by_cases he:y=x
   ·have e1:(y==x)=true:=by simp[he]
    have HX:Hid (decide (x∈zs)=true):=h_ (by rw[<-he];simpa using HM.out);clear he;go_wp2;go_ret
    exact⟨z8 HX.out.symm,rfl⟩
   ·have e1:(y==x)=false:=by simp[he]
    have HX:=h_ (HS.out he);clear he;go_wp2;go_round
    case rel=>exact⟨k+1,by omega,by go_num,HX⟩
    case measure=>simp[intOf];omega
  ·have gn:zs.length<=k:=o_
   have h:=HT.out;rw[aaK gn] at h;have HX:Hid (decide (x∈zs)=false):=h_ (by simpa using h);clear h hcell;go_wp2;go_ret
   exact⟨z8 HX.out.symm,rfl⟩
def actB (k a b:Int):Bool:=
 if k==1||k==6 then inB a 0 40&&inB b 0 40
 else if k==7 then inB a 0 40&&inB b 1 50
 else if k==2||k==3||k==5||k==8 then inB a 0 40&&b==0
 else if k==4||k==9 then a==0&&b==0
 else false
theorem z3E (k a b:Int) (w:World):
  CB_ 67 #[.agg #[.int .i64 k,.int .i64 a,.int .i64 b]] w (.bool (actB k a b)):=by
 go_enter Tryz.func67,Tryz.ntmps67
 go_wp2_with (go_at_call 78;refine(yK _ _ _ _).mono ?_;rintro e w' ⟨rfl,rfl⟩)
 all_goals go_ret
 all_goals refine⟨z8 ?_,by exact bel_⟩
 all_goals simp_all[actB]
theorem z4h (k a b:Int) (w:World):
  CB_ 71 #[.agg #[.int .i64 k,.int .i64 a,.int .i64 b]] w (.bool (actB k a b)):=by
 go_enter Tryz.func71,Tryz.ntmps71
 go_wp2_with (go_at_call 138;refine(qf _ _ _ _).mono ?_;rintro e w' ⟨rfl,rfl⟩)
 all_goals go_ret
 all_goals refine⟨z8 ?_,by exact bel_⟩
 all_goals simp_all[actB]
def setN (l:List Nat) (a b:Nat):List Nat:=l.set a (l.getD a 0 ||| 2^b)
def ji (s:List Int) (F:Nat):Nat->List Nat
 |0=>List.replicate F 0
 |k+1=>if s.getD (2*k) 0=s.getD (2*k+1) 0 then ji s F k else setN (setN (ji s F k) (s.getD (2*k) 0).toNat (s.getD (2*k+1) 0).toNat) (s.getD (2*k+1) 0).toNat (s.getD (2*k) 0).toNat
def setT (l:List (List Bool)) (a b:Nat):List (List Bool):=l.set a ((l.getD a []).set b true)
def besK (s:List Int) (F:Nat):Nat->List (List Bool)
 |0=>List.replicate F (List.replicate F false)
 |k+1=>if s.getD (2*k) 0=s.getD (2*k+1) 0 then besK s F k else setT (setT (besK s F k) (s.getD (2*k) 0).toNat (s.getD (2*k+1) 0).toNat) (s.getD (2*k+1) 0).toNat (s.getD (2*k) 0).toNat
theorem QG (s:List Int) (F k:Nat):ji s F (k+1)=if s.getD (2*k) 0=s.getD (2*k+1) 0 then ji s F k else setN (setN (ji s F k) (s.getD (2*k) 0).toNat (s.getD (2*k+1) 0).toNat) (s.getD (2*k+1) 0).toNat (s.getD (2*k) 0).toNat :=rfl
theorem ZF (s:List Int) (F k:Nat):besK s F (k+1)=if s.getD (2*k) 0=s.getD (2*k+1) 0 then besK s F k else setT (setT (besK s F k) (s.getD (2*k) 0).toNat (s.getD (2*k+1) 0).toNat) (s.getD (2*k+1) 0).toNat (s.getD (2*k) 0).toNat :=rfl
theorem vY (l:List Nat) (a b:Nat):(setN l a b).length =l.length:=by simp[setN]
theorem X9 {l:List Nat} {a b f:Nat} (hf:f<l.length):(setN l a b).getD f 0=if f=a then l.getD a 0 ||| 2^b else l.getD f 0:=by
 by_cases h:f=a
 ·subst h;simp[setN,List.getD,aa0,hf]
 ·have h':¬a=f:=fun e=>h e.symm
  simp[setN,List.getD,aa0,h,h']
theorem z2a {l:List Nat} {a b f g:Nat} (hf:f<l.length):((setN l a b).getD f 0).testBit g=((l.getD f 0).testBit g||(decide (f=a)&&decide (b=g))):=by
 rw[X9 hf]
 by_cases h:f=a
 ·subst h;simp[aa1,aa2]
 ·simp[h]
theorem z4V {l:List Nat} {a b m:Nat} (hb:b<m) (h:∀f,f<l.length->l.getD f 0<2^m):∀f,f<(setN l a b).length ->(setN l a b).getD f 0<2^m:=by
 intro f hf;rw[vY] at hf;rw[X9 hf]
 split
 ·rename_i e;subst e
  exact Nat.or_lt_two_pow (h _ hf) (aa3 o_ hb)
 ·exact h f hf
theorem jX (s:List Int) (F:Nat):∀k,(ji s F k).length =F
 |0=>by simp[ji]
 |k+1=>by
  rw[QG]
  split
  ·exact jX s F k
  ·rw[vY,vY];exact jX s F k
theorem vJ (l:List (List Bool)) (a b:Nat):(setT l a b).length =l.length:=by simp[setT]
theorem z30 {l:List (List Bool)} {a b f:Nat} (hf:f<l.length):(setT l a b).getD f []=if f=a then(l.getD a []).set b true else l.getD f []:=by
 by_cases h:f=a
 ·subst h;simp[setT,List.getD,aa0,hf]
 ·have h':¬a=f:=fun e=>h e.symm
  simp[setT,List.getD,aa0,h,h']
theorem JM {l:List (List Bool)} {a b F:Nat} (h:∀f,f<l.length->(l.getD f []).length =F):∀f,f<(setT l a b).length ->((setT l a b).getD f []).length =F:=by
 intro f hf;rw[vJ] at hf;rw[z30 hf]
 split
 ·rename_i e;subst e
  simp only[aar];exact h _ hf
 ·exact h f hf
theorem z2c {l:List (List Bool)} {a b f g:Nat} (hf:f<l.length) (hg:g<(l.getD f []).length):((setT l a b).getD f []).getD g false=((l.getD f []).getD g false||(decide (f=a)&&decide (b=g))):=by
 rw[z30 hf]
 by_cases h:f=a
 ·subst h
  by_cases e:b=g
  ·subst e;simp[List.getD,aa0] at hg⊢;simp[hg]
  ·simp[List.getD,aa0,e]
 ·simp[h]
theorem jP (s:List Int) (F:Nat):∀k,(besK s F k).length =F
 |0=>by simp[besK]
 |k+1=>by
  rw[ZF]
  split
  ·exact jP s F k
  ·rw[vJ,vJ];exact jP s F k
theorem vN (s:List Int) (F:Nat):∀k f,f<F->((besK s F k).getD f []).length =F
 |0,f,hf=>by simp[besK,List.getD,hf]
 |k+1,f,hf=>by
  have ih:∀f,f<(besK s F k).length ->((besK s F k).getD f []).length =F:=fun f hf=>vN s F k f (by rw[jP] at hf;exact hf)
  rw[ZF]
  split
  ·exact vN s F k f hf
  ·exact JM (JM ih) f (by rw[vJ,vJ,jP];exact hf)
def besP (s:List Int) (k f g:Nat):Prop:=∃j,j<k/\s.getD (2*j) 0≠s.getD (2*j+1) 0/\(((s.getD (2*j) 0).toNat =f/\(s.getD (2*j+1) 0).toNat =g)∨((s.getD (2*j) 0).toNat =g/\(s.getD (2*j+1) 0).toNat =f))
theorem z0E {s:List Int} {k f g:Nat}:besP s (k+1) f g↔besP s k f g∨(s.getD (2*k) 0≠s.getD (2*k+1) 0/\(((s.getD (2*k) 0).toNat =f/\(s.getD (2*k+1) 0).toNat =g)∨((s.getD (2*k) 0).toNat =g/\(s.getD (2*k+1) 0).toNat =f))):=by
 constructor
 ·rintro⟨j,hj,h⟩
  by_cases e:j=k
  ·subst e;exact .inr h
  ·exact .inl ⟨j,by omega,h⟩
 ·rintro(⟨j,hj,h⟩|h)
  ·exact⟨j,by omega,h⟩
  ·exact⟨k,by omega,h⟩
theorem z0B (s:List Int) (F:Nat):∀k f g,f<F->(((ji s F k).getD f 0).testBit g=true↔besP s k f g)
 |0,f,g,hf=>by
  simp[ji,List.getD,hf,besP]
 |k+1,f,g,hf=>by
  have ih:=z0B s F k f g hf;rw[z0E,<-ih];rw[QG]
  split
  ·rename_i e
   exact⟨.inl,fun h=>h.resolve_right (fun q=>q.1 e)⟩
  ·rename_i e
   rw[z2a (by rw[vY,jX];exact hf),z2a (by rw[jX];exact hf)];simp only[aaH,aaG,aa4]
   constructor
   ·rintro((h|⟨h1,h2⟩)|⟨h1,h2⟩)
    ·exact .inl h
    ·exact .inr ⟨e,.inl ⟨h1.symm,h2⟩⟩
    ·exact .inr ⟨e,.inr ⟨h2,h1.symm⟩⟩
   ·rintro(h|⟨_,⟨h1,h2⟩|⟨h1,h2⟩⟩)
    ·exact .inl (.inl h)
    ·exact .inl (.inr ⟨h1.symm,h2⟩)
    ·exact .inr ⟨h2.symm,h1⟩
theorem z38 (s:List Int) (F:Nat):∀k f g,f<F->g<F->(((besK s F k).getD f []).getD g false=true↔besP s k f g)
 |0,f,g,hf,hg=>by
  simp[besK,List.getD,hf,hg,besP]
 |k+1,f,g,hf,hg=>by
  have ih:=z38 s F k f g hf hg;rw[z0E,<-ih];have hr:∀f,f<(besK s F k).length ->((besK s F k).getD f []).length =F:=fun f hf=>vN s F k f (by rw[jP] at hf;exact hf)
  rw[ZF]
  split
  ·rename_i e
   exact⟨.inl,fun h=>h.resolve_right (fun q=>q.1 e)⟩
  ·rename_i e
   rw[z2c (by rw[vJ,jP];exact hf) (by rw[JM hr f (by rw[vJ,jP];exact hf)];exact hg),z2c (by rw[jP];exact hf) (by rw[vN s F k f hf];exact hg)];simp only[aaH,aaG,aa4]
   constructor
   ·rintro((h|⟨h1,h2⟩)|⟨h1,h2⟩)
    ·exact .inl h
    ·exact .inr ⟨e,.inl ⟨h1.symm,h2⟩⟩
    ·exact .inr ⟨e,.inr ⟨h2,h1.symm⟩⟩
   ·rintro(h|⟨_,⟨h1,h2⟩|⟨h1,h2⟩⟩)
    ·exact .inl (.inl h)
    ·exact .inl (.inr ⟨h1.symm,h2⟩)
    ·exact .inr ⟨h2.symm,h1⟩
theorem VD (s:List Int) (F:Nat):∀k,(∀j,j<2*k->0<=s.getD j 0/\s.getD j 0<F)->∀f,f<F->(ji s F k).getD f 0<2^F
 |0,_,f,hf=>by simp[ji,List.getD,hf];exact Nat.two_pow_pos F
 |k+1,h,f,hf=>by
  have ih:=VD s F k (fun j hj=>h j o_);have h0:=h (2*k) o_;have h1:=h (2*k+1) o_;have ih':∀f,f<(ji s F k).length ->(ji s F k).getD f 0<2^F:=fun f hf=>ih f (by rw[jX] at hf;exact hf)
  rw[QG]
  split
  ·exact ih f hf
  ·exact z4V o_ (z4V o_ ih') f (by rw[vY,vY,jX];exact hf)
noncomputable def qZ (ns ls:List Pr):List Nat:=ji (zM ns ls) (zg ns ls).length ls.length
noncomputable def besW (ns ls:List Pr):List (List Bool):=besK (zM ns ls) (zg ns ls).length ls.length
theorem V4 {ns ls:List Pr} (hw:zf ns ls=true) {j:Nat} (hj:j<2*ls.length):0<=(zM ns ls).getD j 0/\(zM ns ls).getD j 0<(zg ns ls).length :=by
 obtain⟨W,_⟩:=zL hw;have:=z2n W hj;rw[yE hw hj];omega
theorem z2m {ns ls:List Pr} (hw:zf ns ls=true) {f g:Nat}:besP (zM ns ls) ls.length f g↔adjF ns ls f g:=by
 rw[z7r hw]
 constructor
 ·rintro⟨j,hj,Hv,h⟩
  have a:=V4 hw (show 2*j<2*ls.length by omega);have b:=V4 hw (show 2*j+1<2*ls.length by omega);refine⟨?_,j,hj,?_⟩
  ·rcases h with ⟨h1,h2⟩|⟨h1,h2⟩<;>omega
  ·rcases h with ⟨h1,h2⟩|⟨h1,h2⟩
   ·left;omega
   ·right;omega
 ·rintro⟨Hv,j,hj,h⟩
  refine⟨j,hj,?_,?_⟩
  ·rcases h with ⟨h1,h2⟩|⟨h1,h2⟩<;>omega
  ·rcases h with ⟨h1,h2⟩|⟨h1,h2⟩
   ·left;omega
   ·right;omega
theorem z3k {ns ls:List Pr} (hw:zf ns ls=true) {f g:Nat} (hf:f<(zg ns ls).length):((qZ ns ls).getD f 0).testBit g=adB ns ls f g:=by
 rw[aaZ,k9,<-z2m hw];exact z0B _ _ _ f g hf
theorem z4W {ns ls:List Pr} (hw:zf ns ls=true) {f g:Nat} (hf:f<(zg ns ls).length) (hg:g<(zg ns ls).length):((besW ns ls).getD f []).getD g false=adB ns ls f g:=by
 rw[aaZ,k9,<-z2m hw];exact z38 _ _ _ f g hf hg
theorem z1g {ns ls:List Pr} (hw:zf ns ls=true) {f:Nat} (hf:f<(zg ns ls).length):(qZ ns ls).getD f 0<2^(zg ns ls).length :=
 VD _ _ _ (fun j hj=>V4 hw hj) f hf
def z0N (L:List Int) (b:Bool) (w:World) (e:Ending) (w':World):Prop:=∃v,e= .returned (.tuple #[v,.bool b])/\OwnI w.heap.size w' v L/\Below w.heap.size w w'
def RetN (G:List Int) (w:World) (e:Ending) (w':World):Prop:=∃v,e= .returned v/\OwnI w.heap.size w' v G/\(G.length=0->v= .slice none 0 0)/\Below w.heap.size w w'
def rowV (F:Nat) (g:Nat):Value:= .slice (some ⟨g,0,none⟩) F F
structure OwnTab (base:Nat) (w:World) (v:Value) (F:Nat) (gs:List Nat) (T:List (List Bool)):Prop where
 out:OwnE 182 (rowV F) base w v gs
 len:gs.length=T.length
 nd:gs.Nodup
 row:∀k,k<T.length->OwnE 4 Value.bool base w (rowV F (gs.getD k 0)) (T.getD k [])
section
variable {base:Nat} {w w':World} {v v':Value} {F:Nat} {gs:List Nat} {T:List (List Bool)}
theorem OwnTab.kept (h:OwnTab base w v F gs T) (hb:Below w.heap.size w w'):OwnTab base w' v F gs T:=⟨h.out.kept hb,h.len,h.nd,fun k hk=>(h.row k hk).kept hb⟩
theorem z6W:4≠182:=by decide
theorem z8q:182≠4:=by decide
theorem z2Z (h:OwnTab base w v F gs T) {k:Nat} (hk:k<T.length):base<=gs.getD k 0/\gs.getD k 0<w.heap.size:=(h.row k hk).lt _ rfl
theorem z9i (h:OwnTab base w v F gs T) {j k:Nat} (hj:j<T.length) (hk:k<T.length) (Hv:j≠k):gs.getD j 0≠gs.getD k 0:=by
 have hl:=h.len;rw[aa6,aa6,aac (show j<gs.length by omega),aac (show k<gs.length by omega)];intro e;have hp:=List.pairwise_iff_getElem.1 (List.nodup_iff_pairwise_ne.1 h.nd);have e':gs[j]'o_=gs[k]'o_:=e
 rcases Nat.lt_trichotomy j k with q|q|q
 ·exact hp j k o_ o_ q e'
 ·exact Hv q
 ·exact hp k j o_ o_ q e'.symm
theorem OwnTab.snoc {g:Nat} {r:List Bool} (h:OwnTab base w v F gs T) (hr:OwnE 4 Value.bool base w (rowV F g) r) (hg:∀k,k<T.length->gs.getD k 0≠g) (fH:w.grownBy w' v.ownBlock)
  (ho:w'.ownsRow base 182 1 v' (T.length+1) (gs.map (rowV F)++[rowV F g])):OwnTab base w' v' F (gs++[g]) (T++[r]):=by
 have hl:=h.len;refine⟨?_,by simp[hl],?_,fun k hk=>?_⟩
 ·have e:(gs++[g]).map (rowV F)=gs.map (rowV F)++[rowV F g]:=by simp
  unfold OwnE;rw[e,aaW,aa8,hl];exact ho
 ·rw[List.nodup_append]
  refine⟨h.nd,by simp,fun a ha b hb=>?_⟩
  rw[aa9] at hb;subst hb;obtain⟨k,hk,e⟩:=aba ha;have:=hg k o_;rw[aa6,aac hk] at this;rw[<-e];exact this
 ·rw[aaW,aa8] at hk
  have kp:∀x zs,OwnE 4 Value.bool base w x zs->OwnE 4 Value.bool base w' x zs:=fun x zs hx=>OwnE.other hx h.out z6W fH
  by_cases e:k=T.length
  ·subst e
   rw[aa6,abb o_,hl,aae,aa6,abb (aaa _),aae];exact kp _ _ hr
  ·have Hf:k<T.length:=o_
   have e1:(gs++[g]).getD k 0=gs.getD k 0:=by rw[aa6,aa6,abc o_]
   have e2:(T++[r]).getD k []=T.getD k []:=by rw[aa6,aa6,abc Hf]
   rw[e1,e2];exact kp _ _ (h.row k Hf)
theorem OwnTab.set_ (h:OwnTab base w v F gs T) {a:Nat} (ha:a<T.length) (b:Nat) (x:Bool):OwnTab base (w.setCell ⟨gs.getD a 0,b,none⟩ (.bool x)) v F gs (T.set a ((T.getD a []).set b x)):=by
 have hra:=h.row a ha;have hg:w.grownBy (w.setCell ⟨gs.getD a 0,b,none⟩ (.bool x)) (some (gs.getD a 0)):=qv (qu _ _) b _;refine⟨OwnE.other h.out hra z8q hg,by simp[h.len],h.nd,fun k hk=>?_⟩
 rw[aar] at hk
 by_cases e:k=a
 ·subst e
  have e2:(T.set k ((T.getD k []).set b x)).getD k []=(T.getD k []).set b x:=by simp[aa6,aa0,hk]
  rw[e2];exact OwnE.set_ hra b x
 ·have e':¬a=k:=fun q=>e q.symm
  have e2:(T.set a ((T.getD a []).set b x)).getD k []=T.getD k []:=by simp[aa6,aa0,e']
  rw[e2];refine World.ownsRow.kept (h.row k hk) hg (.inr ?_)
  intro q;have q':gs.getD k 0=gs.getD a 0:=by injection q
  exact z9i h hk ha e q'
theorem OwnTab.cell {g n cap:Nat} (h:OwnTab base w (.slice (some ⟨g,0,none⟩) n cap) F gs T) {k:Nat} (hk:k<T.length):w.cell? ⟨g,k,none⟩=some (.slice (some ⟨gs.getD k 0,0,none⟩) F F):=
 OwnE.cell h.out 0 (by rw[h.len];exact hk)
theorem OwnTab.cell2 (h:OwnTab base w v F gs T) {k j:Nat} (hk:k<T.length) (hj:j<(T.getD k []).length):w.cell? ⟨gs.getD k 0,j,none⟩=some (.bool ((T.getD k []).getD j false)):=
 OwnE.cell (h.row k hk) false hj
theorem OwnTab.blk (h:OwnTab base w v F gs T) (hn:0<T.length):∃g c,v= .slice (some ⟨g,0,none⟩) gs.length c/\base<=g/\g<w.heap.size:=by
 rcases h.out.2 with ⟨_,h0⟩|⟨g,cap,cur,rfl,hb,_⟩
 ·have:=h.len;omega
 ·exact⟨g,cap,rfl,hb,(h.out.lt g rfl).2⟩
theorem OwnTab.apart (h:OwnTab base w v F gs T) {k g:Nat} (hk:k<T.length) (hg:v.ownBlock=some g):g≠gs.getD k 0:=by
 have hr:=h.row k hk
 rcases h.out.2 with ⟨rfl,_⟩|⟨g1,cap,cur,rfl,_,hh,_⟩
 ·cases hg
 ·rcases hr.2 with ⟨e,_⟩|⟨g2,cap2,cur2,e,_,Rv,_⟩
  ·cases e
  ·injection e with e1 _ _
   injection e1 with e1
   injection e1 with e1 _
   injection hg with hg
   have hg':g1=g:=hg;intro e3;rw[<-hg'] at e3;rw[e3,e1,Rv] at hh
   injection hh with hh
   injection hh with _ hh _
   exact z6W hh
theorem OwnTab.frz2 (h:OwnTab base w v F gs T) {k:Nat} (hk:k<T.length) (j:Nat):w.frozen? ⟨gs.getD k 0,j,none⟩=false:=OwnE.frz (h.row k hk) j
end
def JF (w:World) (b off F:Nat) (adj:Nat->Nat->Bool):Prop:=b<w.heap.size/\∀i,i<F->∃bi,bi<w.heap.size/\w.cell? ⟨b,off+i,none⟩=some (.slice (some ⟨bi,0,none⟩) F F)/\∀j,j<F->w.cell? ⟨bi,j,none⟩=some (.bool (adj i j))
theorem JF.below {w w':World} {b off F:Nat} {adj:Nat->Nat->Bool} (h:JF w b off F adj) (hb:Below w.heap.size w w'):JF w' b off F adj:=by
 refine⟨aaD h.1 hb.size,fun i hi=>?_⟩
 obtain⟨bi,h1,h2,h3⟩:=h.2 i hi;exact⟨bi,aaD h1 hb.size,(hb.cell (p:=⟨b,off+i,none⟩) h.1).trans h2,fun j hj=>(hb.cell (p:=⟨bi,j,none⟩) h1).trans (h3 j hj)⟩
theorem Vw (vn vl:Value) (ns ls:List Pr) (f:Int) (w:World) (hn:RP w vn ns) (hl:RP w vl ls):
  Calls Tryz.prog 189 #[.agg #[vn,vl],.int .i64 f] w (RetN (qY ns ls f) w):=by
 have fr:Below w.heap.size w (w.alloc (.cells #[vn,vl] 27)):=bel_
 have BN:Blk (w.alloc (.cells #[vn,vl] 27)) w.heap.size 27 #[vn,vl]:=Blk.newAt rfl;have fK:=zD ns ls;have bm:=h_ (fun (v:World) (hb:Below w.heap.size w v)=>jS vn vl ns ls v (hn.below hb) (hl.below hb));obtain⟨i0,hi,iz0,iz1,iz2⟩:=info_parts qq
 cases Gg:inB f 0 (((z9 ns ls).length :Int) -1)
 ·have HR:=h_ (kF (f:=f) Gg)
  generalize z9 ns ls=F at*;have M5:=h_ Gg;clear Gg
  go_enter Tryz.func189,Tryz.ntmps189
  go_wp2_with fail
  refine(bm.out _ fr).mono ?_
  rintro e w1 ⟨v1,rfl,Hj,Hb⟩;obtain⟨A1,c1,rfl⟩:=Hj.form;have Ha:=fr.trans (Hb.mono fr.size)
  go_wp2_with fail
  refine(zn f 0 _ false _ M5.out).mono ?_
  rintro e w' ⟨rfl,rfl⟩;go_wp2;go_ret
  exact⟨_,rfl,by rw[HR.out];exact OwnI.nil _ _,fun _=>rfl,Ha⟩
 ·obtain⟨k,rfl⟩:∃k:Nat,f=k:=⟨f.toNat,by have:=zc.1 Gg;omega⟩
  have hk:k<(z9 ns ls).length :=by have:=zc.1 Gg;omega
  have HR:=h_ (Qg hk);obtain⟨Hk,MC,nY,BM⟩:=y7 hk;generalize z9 ns ls=F at*;generalize hff:F.getD k []=ff at*;have Hx:=h_ hff;have uV:=h_ MC;have Yo:=h_ (fun j hj=>XN (ls:=ls) (f:=ff) (k:=j) hj);have nF:=h_ (fun j hj=>JY (ls:=ls) (f:=ff) (k:=j) hj);have mS:Hid (nodK ls ff 0=[]):=h_ rfl;have HNF:Hid (nodF ls ff=nodK ls ff ff.length):=h_ rfl;have nS:=h_ (Vy ls ff);have M5:=h_ Gg;have FC:(k:Int)<(F.length:Int):=o_
  have ik1:(0:Int)<=(k:Int):=o_
  clear Gg Hk MC hff
  go_enter Tryz.func189,Tryz.ntmps189
  go_wp2_with fail
  refine(bm.out _ fr).mono ?_
  rintro e w1 ⟨v1,rfl,Hj,Hb⟩;have Ha:=fr.trans (Hb.mono fr.size);have gc:=BN.below Hb BN.lt;obtain⟨b4,c1,rr,rfl,gl,MD,H5,Bp,M4⟩:=Hj.get hk;rw[Hx.out] at M4;have fQ:=za ff;obtain⟨b5,c2,rfl,gV,GL,gk,BO⟩:=M4.blk o_;rw[fQ] at BO Bp gV;have uW:=h_ BO;have Gt:OwnI w1.heap.size w1 (.slice none 0 0) []:=OwnI.nil _ _;clear Hb fr BN Hj BO M4 MD GL fQ
  go_wp2_with fail
  refine(zn _ 0 _ true _ M5.out).mono ?_
  rintro e w' ⟨rfl,rfl⟩;have hW1l:=gc.lt;go_wp2
  go_loopw [6,22] (fun v x wr=>∃j:Nat,j<=ff.length/\x= .int .i64 j/\OwnI w1.heap.size wr v (nodK ls ff j)/\Below w1.heap.size w1 wr) (fun _ x _=>ff.length -(intOf x).toNat)
  case atStart=>exact⟨0,aab _,rfl,by rw[mS.out];exact Gt,aaj _ _⟩
  case round=>
   clear Gt;obtain⟨j,hj,rfl,ho,Hd⟩:=hrel;have hW:=gc.below Hd hW1l;have ux:=Hd.size;obtain⟨a_0,a_1⟩:=hW.c2
   by_cases Hf:j<ff.length
   ·have Hu:(j:Int)<(ff.length:Int):=o_
    have ij1:(0:Int)<=(j:Int):=o_
    have hx:=(Hd.cell (p:=⟨b5,j,none⟩) gk).trans (uW.out j Hf);rw[qg] at hx;have Ck:ff.getD j 0<2*ls.length:=uV.out _ (by rw[List.getD,aac Hf];exact abg Hf);have HS:=h_ (Yo.out j Hf);have hgl:=nF.out j hj;generalize ff.getD j 0=d at*;have nv:RP wr vl ls:=hl.below (Ha.trans (Hd.mono Ha.size))
    go_wp2_with fail
    refine(yP _ _ ls d _ nv Ck).mono ?_
    rintro e w3 ⟨rfl,Hg⟩;have Hq:=ho.kept Hg;have gy:=Hd.trans (Hg.mono Hd.size);have fC:=Hg.size;generalize zd ls d=z at*;generalize nodK ls ff j=G at*;clear Hg ho hW Hd hx nv a_0 a_1
    go_wp2_with (at_builtin;refine qi rfl _ _ rfl w1.heap.size _ G z rfl w3.heap.size rfl (j9 rfl) (Hq.alloc _) o_ (by simp;omega) ?_)
    intro v2 w2 Hn gu gw;have Ge:Below w1.heap.size w1 w2:=(gy.alloc gy.size (.cells #[.int .i64 z] 3)).grown gu (by simp;omega) (fun q hq=>by have:=(Hq.lt q hq).1;omega);clear gu gw Hq gy;go_wp2;go_roundw
    case rel=>exact⟨j+1,by omega,by go_num,by rw[HS.out];exact Hn,Ge⟩
    case measure=>simp[intOf];omega
   ·have GS:j=ff.length:=o_
    subst GS;have uN:Hid (ff.length=0->False):=h_ (fun h=>by omega);go_wp2;go_ret
    exact⟨_,rfl,by rw[HR.out,HNF.out];exact ho.mono Ha.size,fun h=>(uN.out (by rw[HR.out,nS.out] at h;exact h)).elim,Ha.trans (Hd.mono Ha.size)⟩
theorem z8n {w:World} {A:Option Addr} {n c:Nat} {l:List Int} (h:RI w (.slice A n c) l) (k:Nat) (hk:k<=l.length):RI w (.slice A k c) (l.take k):=by
 obtain⟨h0,A',c',he,h1,h2,h3⟩:=h
 injection he with e1 e2 e3
 subst e1;subst e3
 refine⟨by simp,A,c,by rw[abm,Nat.min_eq_left hk],by simp;omega,by simp;omega,fun hp=>?_⟩
 rw[abm] at hp;obtain⟨b,off,hA,hb,Hz⟩:=h3 o_;refine⟨b,off,hA,hb,fun j u hu=>Hz j u ?_⟩
 rw[List.map_take,List.getElem?_take] at hu
 split at hu
 ·exact hu
 ·cases hu
theorem z6A {ns ls:List Pr} {f:Int} (h:f=j7 ns ls):yi ns ls f=false:=by simp[yi,h]
theorem z9N {G:List Int} {k:Nat} (hk:k<G.length) (h:G.getD k 0∈G.take k):∃i,i<k/\G.getD i 0=G.getD k 0:=by
 obtain⟨i,hi,e⟩:=aba h;rw[abm] at hi;refine⟨i,by omega,?_⟩
 rw[abp] at e;rw[<-e,aa6,aac o_];rfl
theorem z8P {G:List Int} {k:Nat} (hk:k<G.length) (h:G.getD k 0∉G.take k):∀i,i<k->G.getD i 0≠G.getD k 0:=by
 intro i hi e
 apply h
 rw[<-e,aa6,aac (show i<G.length by omega)]
 show G[i]∈_
 have:G[i]=(G.take k)[i]'(by simp;omega):=by rw[abp]
 rw[this];exact abg _
theorem z22 (vn vl:Value) (ns ls:List Pr) (f:Int) (w:World) (hn:RP w vn ns) (hl:RP w vl ls):
  CB_ 111 #[.agg #[vn,vl],.int .i64 f] w (.bool (yi ns ls f)):=by
 have fr:Below w.heap.size w (w.alloc (.cells #[vn,vl] 27)):=bel_
 have BN:Blk (w.alloc (.cells #[vn,vl] 27)) w.heap.size 27 #[vn,vl]:=Blk.newAt rfl;have hle:=Qc ns ls f;have mS:=h_ (fun h=>z2H (ns:=ns) (ls:=ls) (f:=f) h);have cB:=h_ (fun i j h1 h2 h3=>z3e (ns:=ns) (ls:=ls) (f:=f) (i:=i) (j:=j) h1 h2 h3);have Ba:=h_ (fun h=>z6A (ns:=ns) (ls:=ls) (f:=f) h);have HY:=h_ (fun h0 h=>z34 (ns:=ns) (ls:=ls) (f:=f) h0 h);have NZ:=h_ (fun (v:World) (hb:Below w.heap.size w v)=>Vw vn vl ns ls f v (hn.below hb) (hl.below hb));have ME:=h_ (fun (v:World) (hb:Below w.heap.size w v)=>VP vn vl ns ls v (hn.below hb) (hl.below hb));generalize qY ns ls f=G at*;generalize j7 ns ls=o at*;have MH:=fun (u:World) (a:Option Addr) (l c:Nat)=>Lib.run_eql_slice_nil (P:=Tryz.prog) u 31 3 a l c 0 0 Tryz.underlying31
 go_enter Tryz.func111,Tryz.ntmps111
 go_wp2_with fail
 refine(NZ.out _ fr).mono ?_
 rintro e w1 ⟨v1,rfl,Hj,Bi,Hb⟩;have Ha:=fr.trans (Hb.mono fr.size);have gc:=BN.below Hb BN.lt;clear Hb fr BN
 by_cases h0:G.length=0
 ·have e1:=Bi h0
  subst e1;have HR:=h_ (mS.out h0);clear Hj Bi h0;go_wp2;go_ret
  exact⟨z8 HR.out.symm,Ha⟩
 ·have Mk:=Hj.reads
  obtain⟨b4,c1,rfl,gl,MD,H5,hcell⟩:=Hj.blk o_;have N5:=h_ hcell;clear Hj hcell Bi;obtain⟨a_0,a_1⟩:=gc.c2
  go_wp2_with fail
  refine(ME.out _ Ha).mono ?_
  rintro e w2 ⟨rfl,Hh⟩;have Hc:=Ha.trans (Hh.mono Ha.size);have RL:=Mk.below Hh;have HCE2:Hid (∀q,q<G.length->w2.cell? ⟨b4,q,none⟩=some (.int .i64 (G.getD q 0))):=h_ (fun q hq=>(Hh.cell (p:=⟨b4,q,none⟩) H5).trans (N5.out q hq));clear Ha gc Hh Mk N5 a_0 a_1
  by_cases uX:f=o
  ·have e1:(f==o)=true:=beq_iff_eq.2 uX
   have HR:=h_ (Ba.out uX);go_wp2;go_ret
   exact⟨z8 HR.out.symm,Hc⟩
  ·have e1:(f==o)=false:=beq_eq_false_iff_ne.2 uX
   have HYY:Hid (disK G G.length->yi ns ls f=true):=h_ (fun h=>by rw[HY.out o_ h];simp[uX]);go_wp2
   go_loop [21] (fun x=>∃k:Nat,k<=G.length/\x= .int .i64 k/\Hid (disK G k)) (fun x=>G.length -(intOf x).toNat)
   case atStart=>exact⟨0,aab _,rfl,h_ (XR G)⟩
   case round=>
    obtain⟨k,hk,rfl,HK⟩:=hrel
    by_cases Hf:k<G.length
    ·have Hu:(k:Int)<(G.length:Int):=o_
     have ik1:(0:Int)<=(k:Int):=o_
     have ik2:(k:Int)<=(c1:Int):=o_
     have fM:=HCE2.out k Hf;have htk:=z8n RL k hk;have HNO2:=h_ (fun h=>z9N (G:=G) Hf h);have YQ:=h_ (fun h=>z8P (G:=G) Hf h);have Bb:Hid (∀i,i<k->G.getD i 0=G.getD k 0->yi ns ls f=false):=h_ (fun i hi h=>cB.out i k hi Hf h);generalize hz:G.getD k 0=z at*;obtain⟨hd,hhd⟩:∃b,decide (z∈G.take k)=b:=⟨_,rfl⟩;have HHD:=h_ hhd;clear hhd
     go_wp2_with fail
     refine(z7k _ (G.take k) z _ htk).mono ?_
     rintro e w3 ⟨rfl,rfl⟩;rw[HHD.out];have hHD:=HHD.out
     cases hd
     ·have hnm:z∉G.take k:=by simpa using hHD
      have HD:=h_ (z0K HK.out (fun i hi=>by rw[hz];exact YQ.out hnm i hi));clear hnm hHD HHD;go_wp2;go_round
      case rel=>exact⟨k+1,by omega,by go_num,HD⟩
      case measure=>simp[intOf];omega
     ·have hm:z∈G.take k:=by simpa using hHD
      have HR:Hid (yi ns ls f=false):=h_ (by obtain⟨i,h1,h2⟩:=HNO2.out hm;exact Bb.out i h1 h2);clear hm hHD HHD;go_wp2;go_ret
      exact⟨z8 HR.out.symm,Hc⟩
    ·have gn:k=G.length:=o_
     subst gn;have HR:=h_ (HYY.out HK.out);go_wp2;go_ret
     exact⟨z8 HR.out.symm,Hc⟩
end Go.Proofs.YtnjcpljhmhdhkaaGreat
