/- part 20 -/
import Derived.Test.YtnjcpljhmhdhkaaGreatEPk16
set_option linter.unusedSimpArgs false
set_option linter.unusedVariables false
set_option maxRecDepth 100000
set_option maxHeartbeats 16000000
namespace Go.Proofs.YtnjcpljhmhdhkaaGreat
open Go.RowKit
noncomputable def zV (D:Dr) (kd a b:Int):Bool:=okD D&&(decide (D.ss.length<40)&&yZ D.nn D.nl kd a b)
noncomputable def ji (D:Dr) (kd a b:Int):Dr:=if zV D kd a b=true then⟨D.fn,D.fl,y8 D.nn D.nl kd a b,y7 D.nn D.nl kd a b,D.ss++[⟨kd,a,b,D.nn,D.nl⟩]⟩ else D
theorem yh {D:Dr} {kd a b:Int} (h:zV D kd a b=false):ji D kd a b=D:=by unfold ji;rw[h];rfl
theorem kN {D:Dr} {kd a b:Int} (h:zV D kd a b=true):ji D kd a b=⟨D.fn,D.fl,y8 D.nn D.nl kd a b,y7 D.nn D.nl kd a b,D.ss++[⟨kd,a,b,D.nn,D.nl⟩]⟩:=by unfold ji;rw[h];rfl
theorem OwnD.pushNow {base:Nat} {w w':World} {a b c d e e' c' d':Value} {D:Dr} {fs:List SF} {N L:List Pr} {x y z:Int} (h:OwnD base w a b c d e D fs) (hw:OwnW base w c' d' N L) (hf:∀k,zi c' d' k->¬qJ a b c d e fs k)
  (hr:w'.ownsRow base 113 5 e' (fs.length+1) ((fs++[((⟨x,y,z,D.nn,D.nl⟩,c,d):SF)]).flatMap sfc)) (hg:w.grownBy w' e.ownBlock) (hv:e'.ownBlock=e.ownBlock∨e'.ownBlock=some w.heap.size):
  OwnD base w' a b c' d' e' ⟨D.fn,D.fl,N,L,D.ss++[⟨x,y,z,D.nn,D.nl⟩]⟩ (fs++[(⟨x,y,z,D.nn,D.nl⟩,c,d)]):=by
 have ht:Turns (fun b=>e.ownBlock=some b) w w':=Turns.ofGrown hg (fun k hk=>hk)
 refine⟨h.first.turned ht (fun k hk e1=>h.f_s k hk (.inl e1)),hw.turned ht (fun k hk e1=>hf k hk (.inr (.inr (.inl e1)))),
  h.ss.snoc hr hg hv h.now (fun k hk e1=>h.n_s k hk (.inl e1)) (fun j hj k hk Fu=>h.n_s k hk (.inr ⟨j,hj,Fu⟩)),by rw[aaz,h.map];rfl,fun k hk Fu=>hf k Fu (.inl hk),fun k hk Fu=>?_,fun k hk Fu=>?_⟩
 ·rcases ye hv Fu with h1|h1|h1
  ·exact h.f_s k hk h1
  ·have:=(h.first.lt k hk).2;omega
  ·exact h.f_n k hk h1
 ·rcases ye hv Fu with h1|h1|h1
  ·exact hf k hk (.inr (.inr h1))
  ·have:=(hw.lt k hk).2;omega
  ·exact hf k hk (.inr (.inl h1))
theorem Zl {P:Program} {w:World} {ops:Array Oper} {o:Oper} {a:Act} {K:Act->World->Prop} {Q:Exit->Act->World->Prop} {E:Prop} (fY:o.guard=none) (s x:Operand) (t:TypeId)
  (ho:o.op= .call { callee:= .builtin .append,args:= #[s,x],argTypes:= #[t,t] })
  (base:Nat) (e:TypeId) (i:TypeInfo) (ht:P.underlying t=some (.slice e)) (hi:P.info? e=some i) (hz:i.zero=some (.agg #[.int .i64 0,.int .i64 0,.int .i64 0,.slice none 0 0,.slice none 0 0])) (Hs:i.size=5) (GN:i.bytes=72)
  (v:Value) (fs:List SF) (f:SF) (ad:Addr) (c:Nat) (hs:a.eval s=v) (hx:a.eval x= .slice (some ad) 1 c) (hown:w.ownsRow base e 5 v fs.length (fs.flatMap sfc)) (hn:∀(j:Nat) (u:Value),(sfc f)[j]? =some u->w.cell? (ad.add j)=some u)
  (Fq:∀u∈sfc f,u.oneCell'=true) (Hj:fs.length<=1048576) (Hu:base<=w.heap.size)
  (h:∀A c' w',w'.ownsRow base e 5 (.slice A (fs.length+1) c') (fs.length+1) ((fs++[f]).flatMap sfc)->w.grownBy w' v.ownBlock->((Value.slice A (fs.length+1) c').ownBlock =v.ownBlock∨(Value.slice A (fs.length+1) c').ownBlock =some w.heap.size)->K (a.put o.dst (.slice A (fs.length+1) c')) w'):
  if Region.wanted o (yielded ops a.tmps)=true then Oper.wp P o a w K Q else E:=by
 have hw:Region.wanted o (yielded ops a.tmps)=true:=by simp[Region.wanted,fY]
 rw[aao hw];obtain⟨A,c',w',GC,h2,h3,h4⟩:=kT (ty:=o.type) (c:=c) ht hi hz Hs GN hown hn Fq Hj Hu;unfold Oper.wp execOp;simp only[ho,resolve,invoke,builtin,Sem.run_bind,Sem.run_pure,aaY,List.map_toArray,aaS,aaT,hs,hx,GC]
 exact h A c' w' h2 h3 h4
theorem z3y (v0 v1 v2 v3 v4:Value) (D:Dr) (kd a b:Int) (w:World) (h:RD w v0 v1 v2 v3 v4 D) (hle:DrLe D):
  Calls Tryz.prog 106 #[.agg #[v0,v1,v2,v3,v4],.int .i64 kd,.int .i64 a,.int .i64 b] w (z5I (ji D kd a b) (zV D kd a b) w):=by
 obtain⟨r,hr⟩:∃r,okD D=r:=⟨_,rfl⟩;have HR:=h_ hr;have gf:=h_ hle;obtain⟨B4,d4,ev4,_⟩:=h.ss;subst ev4;obtain⟨i0,hi,iz0,iz1,iz2⟩:=info_parts JK;obtain⟨E,hE⟩:∃E,ji D kd a b=E:=⟨_,rfl⟩;obtain⟨bb,gj⟩:∃bb,zV D kd a b=bb:=⟨_,rfl⟩;rw[hE,gj];have HE:=h_ hE;have gw:=h_ gj;clear hle hE gj
 go_enter Tryz.func106,Tryz.ntmps106
 go_wp2_with fail
 refine(Qh _ _ _ _ _ D _ (h.below bel_) gf.out).mono ?_
 rintro e w1 ⟨A0,c0,A1,c1,A2,c2,A3,c3,A4,c4,fs,rfl,Hi,h9⟩;have Ga:Blk w1 w.heap.size 30 #[v0,v1,v2,v3,(.slice B4 D.ss.length d4)]:=Blk.below ((Blk.newAt rfl).alloc _) h9 sz_;have Hx:Blk w1 (w.heap.size+1) 30 z5_:=Blk.below (Blk.newAt (by simp)) h9 sz_;have h8:Below w.heap.size w w1:=bel_
 have GQ:OwnD (w.heap.size+1+1) w1 (.slice A0 D.fn.length c0) (.slice A1 D.fl.length c1) (.slice A2 D.nn.length c2) (.slice A3 D.nl.length c3) (.slice A4 D.ss.length c4) D fs:=by simpa using Hi
 have gU:=h_ (OutSt.start GQ (aaa _) Ga Hx h8);obtain⟨x_0,x_1,x_2,x_3,x_4⟩:=Ga.c5;have fS:=Ga.lt;clear Hi h9 GQ
 go_wp2_with fail
 obtain⟨w2,gR⟩:∃w2,w2=w1.alloc (.cells #[.slice A0 D.fn.length c0,.slice A1 D.fl.length c1,.slice A2 D.nn.length c2,.slice A3 D.nl.length c3,.slice A4 D.ss.length c4] 30):=⟨_,rfl⟩;rw[<-gR] at gU⊢;generalize w1.heap.size=Z at*;clear gR Ga Hx h8 x_0 x_1 x_2 x_3 x_4 fS;refine(z0f _ _ _ _ _ D r _ (h.below gU.out.blw) HR).mono ?_
 rintro e w3 ⟨rfl,He⟩;have gk:=h_ (gU.out.below He);clear He gU;have Gr:=gk.out.X;have Fp:=gk.out.Z_;have gZ:=gk.out.R;obtain⟨x_0,x_1,x_2,x_3,x_4⟩:=Gr.c5
 cases r
 ·have G6:zV D kd a b=false:=by unfold zV;rw[hr];rfl
  have hu:D=E:=by rw[<-HE.out];exact(yh G6).symm
  have hv:false=bb:=by rw[<-gw.out];exact G6.symm
  subst hu;subst hv;have HF:=gk;clear gk HE gw G6;clear hr;obtain⟨_,_,hR,hZ,Gu,_,_⟩:=HF.out;obtain⟨z_0,z_1,z_2,z_3,z_4⟩:=hZ.c5;obtain⟨r_0,r_1,r_2,r_3,r_4,r_f0,r_f1,r_f2,r_f3,r_f4⟩:=hR.b5;have Hr:=hR.lt;have gl:=h_ (fun u0 u1 u2 u3 u4=>HF.out.fin u0 u1 u2 u3 u4);clear hR hZ HF;go_wp2;exact bodyPost_ret (v:= .tuple #[.agg #[.slice A0 D.fn.length c0,.slice A1 D.fl.length c1,.slice A2 D.nn.length c2,.slice A3 D.nl.length c3,.slice A4 D.ss.length c4],.bool false]) (by simp[results,Tryz.results106,go_sem,r_0,r_1,r_2,r_3,r_4,Hr]) rfl ⟨_,_,_,_,_,_,_,_,_,_,_,rfl,(gl.out _ _ _ _ _).1,(gl.out _ _ _ _ _).2⟩
 ·by_cases CA:¬D.ss.length<40
  ·have G6:zV D kd a b=false:=by unfold zV;rw[hr,aaO CA];rfl
   have MU:D.ss.length=40:=by
    have h41:D.ss.length<=40:=by
     unfold okD at hr;simp only[aaG,aa4] at hr
     exact hr.2.1
    omega
   have hu:D=E:=by rw[<-HE.out];exact(yh G6).symm
   have hv:false=bb:=by rw[<-gw.out];exact G6.symm
   subst hu;subst hv;have HF:=gk;clear gk HE gw G6;clear hr CA;obtain⟨_,_,hR,hZ,Gu,_,_⟩:=HF.out;obtain⟨z_0,z_1,z_2,z_3,z_4⟩:=hZ.c5;obtain⟨r_0,r_1,r_2,r_3,r_4,r_f0,r_f1,r_f2,r_f3,r_f4⟩:=hR.b5;have Hr:=hR.lt;have gl:=h_ (fun u0 u1 u2 u3 u4=>HF.out.fin u0 u1 u2 u3 u4);clear hR hZ HF;go_wp2;exact bodyPost_ret (v:= .tuple #[.agg #[.slice A0 D.fn.length c0,.slice A1 D.fl.length c1,.slice A2 D.nn.length c2,.slice A3 D.nl.length c3,.slice A4 D.ss.length c4],.bool false]) (by simp[results,Tryz.results106,go_sem,r_0,r_1,r_2,r_3,r_4,Hr,MU]) rfl ⟨_,_,_,_,_,_,_,_,_,_,_,rfl,(gl.out _ _ _ _ _).1,(gl.out _ _ _ _ _).2⟩
  ·have MN:D.ss.length<40:=o_
   obtain⟨N,hN⟩:∃N,y8 D.nn D.nl kd a b=N:=⟨_,rfl⟩;obtain⟨L,hL⟩:∃L,y7 D.nn D.nl kd a b=L:=⟨_,rfl⟩;obtain⟨sb,UE⟩:∃sb,yZ D.nn D.nl kd a b=sb:=⟨_,rfl⟩;have H1:=h_ hN;have H2:=h_ hL;have H3:=h_ UE;have ue:=Fp.lt;have Bw:=(h.below gk.out.blw).nn;have fb:=(h.below gk.out.blw).nl;clear CA;have Fc:=h_ hr;clear hr hN hL UE
   go_wp2_with fail
   refine(z19 _ _ D.nn D.nl N L kd a b sb _ Bw fb gf.out.nn gf.out.nl H1 H2 H3).mono ?_
   rintro e w4 ⟨An,cn,Al,cl,rfl,gH,Hw⟩;have go:=gk.out.own.lt;have Gg:=gk.out.below Hw;have Hu:w.heap.size+1+1<=w3.heap.size:=by have:=gZ.lt;omega
   have bR:=gH.lt;have hm:=congrArg List.length Gg.own.map;simp at hm
   have uf:=Gg.lt;obtain⟨w5,fe⟩:∃w5,w5=w4.alloc (.cells #[.slice An N.length cn,.slice Al L.length cl] 27):=⟨_,rfl⟩;have H0:Below w4.heap.size w4 w5:=fe▸(aaj _ _).alloc (aaa _) _;have Fe:Blk w5 w4.heap.size 27 #[.slice An N.length cn,.slice Al L.length cl]:=fe▸Blk.newAt rfl;have GI:=h_ (Gg.below H0);have fG:=h_ ((gH.kept H0).mono Hu);have ug:w3.heap.size<=w4.heap.size:=Hw.size;have Bs:Hid (∀k,zi (.slice An N.length cn) (.slice Al L.length cl) k->¬qJ (.slice A0 D.fn.length c0) (.slice A1 D.fl.length c1) (.slice A2 D.nn.length c2) (.slice A3 D.nl.length c3) (.slice A4 D.ss.length c4) fs k):=h_ (fun k hk Fu=>by have:=(bR k hk).1;have:=(go k Fu).2;omega);have MQ:=GI.out.Z_.lt;have uh:Hid (¬w4.heap.size=Z):=h_ (by have:=Gg.Z_.lt;omega);have ui:Hid (zi (.slice An N.length cn) (.slice Al L.length cl) Z->False):=h_ (fun hz=>by have:=(bR _ hz).1;have:=ue;omega);have HLO:Hid (∀k,qJ (.slice A0 D.fn.length c0) (.slice A1 D.fl.length c1) (.slice A2 D.nn.length c2) (.slice A3 D.nl.length c3) (.slice A4 D.ss.length c4) fs k->k<w4.heap.size):=h_ (fun k hk=>by have:=(go k hk).2;omega);clear gH Hw go bR Gg gk Gr Fp gZ Bw fb x_0 x_1 x_2 x_3 x_4
   go_upto_region 5 with (fail)
   rw[<-fe];generalize w4.heap.size=T at*;clear fe H0
   cases sb
   ·have G6:zV D kd a b=false:=by unfold zV;rw[H3.out,Bool.and_false,Bool.and_false]
    have hu:D=E:=by rw[<-HE.out];exact(yh G6).symm
    have hv:false=bb:=by rw[<-gw.out];exact G6.symm
    subst hu;subst hv;have HF:=GI;clear GI HE gw G6;clear Fc H1 H2 H3 Fe fG Bs Hu hm ug;obtain⟨_,_,hR,hZ,Gu,_,_⟩:=HF.out;obtain⟨z_0,z_1,z_2,z_3,z_4⟩:=hZ.c5;obtain⟨r_0,r_1,r_2,r_3,r_4,r_f0,r_f1,r_f2,r_f3,r_f4⟩:=hR.b5;have Hr:=hR.lt;have gl:=h_ (fun u0 u1 u2 u3 u4=>HF.out.fin u0 u1 u2 u3 u4);clear hR hZ HF;go_wp2;exact bodyPost_ret (v:= .tuple #[.agg #[.slice A0 D.fn.length c0,.slice A1 D.fl.length c1,.slice A2 D.nn.length c2,.slice A3 D.nl.length c3,.slice A4 D.ss.length c4],.bool false]) (by simp[results,Tryz.results106,go_sem,r_0,r_1,r_2,r_3,r_4,Hr]) rfl ⟨_,_,_,_,_,_,_,_,_,_,_,rfl,(gl.out _ _ _ _ _).1,(gl.out _ _ _ _ _).2⟩
   ·have F7:zV D kd a b=true:=by unfold zV;rw[Fc.out,H3.out,aaQ MN];rfl
    have hu:E=⟨D.fn,D.fl,N,L,D.ss++[⟨kd,a,b,D.nn,D.nl⟩]⟩:=by rw[<-HE.out,kN F7,H1.out,H2.out]
    have hv:true=bb:=by rw[<-gw.out];exact F7.symm
    subst hu;subst hv;clear HE gw F7 Fc H1 H2 H3;have MV:=GI.out.Z_;have BV:=GI.out.X;obtain⟨z_0,z_1,z_2,z_3,z_4,z_f0,z_f1,z_f2,z_f3,z_f4⟩:=MV.b5;obtain⟨x_0,x_1,x_2,x_3,x_4⟩:=BV.c5;obtain⟨t_0,t_1⟩:=Fe.c2;have Wb:=BV.lt;have bP:fs.length<=1048576:=o_
    have HM:=h_ hm;clear hm;have HTZ:Hid (¬T=Z):=uh;have R7:Hid (zi (.slice An N.length cn) (.slice Al L.length cl) Z->False):=ui;have uj:Hid (zi (.slice A2 D.nn.length c2) (.slice A3 D.nl.length c3) Z->False):=h_ (fun hz=>GI.out.far (.inr (.inl hz)));have Hq:=GI.out.own.alloc (.cells #[.int .i64 kd,.int .i64 a,.int .i64 b,.slice A2 D.nn.length c2,.slice A3 D.nl.length c3] 113);have Wc:=fG.out.alloc' (.cells #[.int .i64 kd,.int .i64 a,.int .i64 b,.slice A2 D.nn.length c2,.slice A3 D.nl.length c3] 113);have MW:=h_ Hq;have HWN:=h_ Wc;have Wd:=h_ (GI.out.X.alloc (.cells #[.int .i64 kd,.int .i64 a,.int .i64 b,.slice A2 D.nn.length c2,.slice A3 D.nl.length c3] 113));have um:=h_ (GI.out.R.alloc (.cells #[.int .i64 kd,.int .i64 a,.int .i64 b,.slice A2 D.nn.length c2,.slice A3 D.nl.length c3] 113));have YT:=h_ (MV.alloc (.cells #[.int .i64 kd,.int .i64 a,.int .i64 b,.slice A2 D.nn.length c2,.slice A3 D.nl.length c3] 113));have HT6:=h_ (Fe.alloc (.cells #[.int .i64 kd,.int .i64 a,.int .i64 b,.slice A2 D.nn.length c2,.slice A3 D.nl.length c3] 113));have MX:=h_ (GI.out.blw.alloc GI.out.blw.size (.cells #[.int .i64 kd,.int .i64 a,.int .i64 b,.slice A2 D.nn.length c2,.slice A3 D.nl.length c3] 113));have FZ:Hid (∀k,(Value.slice A4 D.ss.length c4).ownBlock =some k->w.heap.size+1+1<=k/\k≠Z/\k<T):=h_ (fun k hk=>⟨(GI.out.own.lt k (.inr (.inr (.inl hk)))).1,fun e=>GI.out.far (e▸ .inr (.inr (.inl hk))),HLO.out k (.inr (.inr (.inl hk)))⟩)
    have uo:Hid (∀(j:Nat) (u:Value),(sfc ((⟨kd,a,b,D.nn,D.nl⟩,.slice A2 D.nn.length c2,.slice A3 D.nl.length c3):SF))[j]? =some u->(w5.alloc (.cells #[.int .i64 kd,.int .i64 a,.int .i64 b,.slice A2 D.nn.length c2,.slice A3 D.nl.length c3] 113)).cell? ((⟨w5.heap.size,0,none⟩:Addr).add j)=some u):=h_ (Vk rfl rfl);have MP:w.heap.size+1+1<=(w5.alloc (.cells #[.int .i64 kd,.int .i64 a,.int .i64 b,.slice A2 D.nn.length c2,.slice A3 D.nl.length c3] 113)).heap.size :=by simp;omega
    have HRW:Hid (World.ownsRow (w5.alloc (.cells #[.int .i64 kd,.int .i64 a,.int .i64 b,.slice A2 D.nn.length c2,.slice A3 D.nl.length c3] 113)) (w.heap.size+1+1) 113 5 (.slice A4 D.ss.length c4) fs.length (fs.flatMap sfc)):=h_ MW.out.ss.row;clear Hq Wc BV
    go_wp2_with (at_builtin;refine vq rfl _ _ _ rfl (w.heap.size+1+1) 113 i0 Tryz.underlying28 hi iz0 iz1 iz2 (.slice A4 D.ss.length c4) fs (⟨kd,a,b,D.nn,D.nl⟩,.slice A2 D.nn.length c2,.slice A3 D.nl.length c3) ⟨w5.heap.size,0,none⟩ 1 rfl rfl HRW.out uo.out (z0a _ _ _ _ _ _ _ rfl rfl) bP MP ?_)
    intro A5 c5 w6 hr6 GX rH;have Cy:=MW.out.pushNow HWN.out Bs.out (by rw[aaX];simpa using hr6) GX (by simpa using rH);have bS:=Wd.out.grownR GX (fun k hk e=>by have:=(FZ.out k hk).1;omega);have fW:=um.out.grownR GX (fun k hk e=>by have:=(FZ.out k hk).1;omega);have rI:=YT.out.grownR GX (fun k hk e=>(FZ.out k hk).2.1 e);have CG:=HT6.out.grownR GX (fun k hk e=>by have:=(FZ.out k hk).2.2;omega);have gz:=MX.out.grown GX MX.out.size (fun k hk=>by have:=(FZ.out k hk).1;omega);have YU:(Value.slice A5 (fs.length+1) c5).ownBlock =(Value.slice A4 D.ss.length c4).ownBlock ∨(Value.slice A5 (fs.length+1) c5).ownBlock =some (w5.heap.size+1):=by simpa using rH
    have GB:¬qJ (.slice A0 D.fn.length c0) (.slice A1 D.fl.length c1) (.slice An N.length cn) (.slice Al L.length cl) (.slice A5 (fs.length+1) c5) (fs++[(⟨kd,a,b,D.nn,D.nl⟩,.slice A2 D.nn.length c2,.slice A3 D.nl.length c3)]) Z:=by
     rintro(hz|hz|hz)
     ·exact GI.out.far (.inl hz)
     ·have:=R7.out hz;exact this
     ·rcases ye YU hz with h1|h1|h1
      ·exact GI.out.far (.inr (.inr h1))
      ·omega
      ·exact uj.out h1
    have nX:w.heap.size≠Z:=o_
    have nR:w.heap.size+1≠Z:=o_
    have nB:w.heap.size<=Z:=o_
    obtain⟨w7,bM⟩:∃w7,w7=((w6.setCell ⟨Z,4,none⟩ (.slice A5 (fs.length+1) c5)).setCell ⟨Z,2,none⟩ (.slice An N.length cn)).setCell ⟨Z,3,none⟩ (.slice Al L.length cl):=⟨_,rfl⟩
    have HF:Hid (OutSt w v0 v1 v2 v3 (.slice B4 D.ss.length d4) Z (.slice A0 D.fn.length c0) (.slice A1 D.fl.length c1) (.slice An N.length cn) (.slice Al L.length cl) (.slice A5 (fs.length+1) c5) ⟨D.fn,D.fl,N,L,D.ss++[⟨kd,a,b,D.nn,D.nl⟩]⟩ (fs++[(⟨kd,a,b,D.nn,D.nl⟩,.slice A2 D.nn.length c2,.slice A3 D.nl.length c3)]) w7):=h_
     (bM▸⟨((Cy.setFar (p:=⟨Z,4,none⟩) GB _).setFar (p:=⟨Z,2,none⟩) GB _).setFar (p:=⟨Z,3,none⟩) GB _,((bS.far (p:=⟨Z,4,none⟩) nX _).far (p:=⟨Z,2,none⟩) nX _).far (p:=⟨Z,3,none⟩) nX _,
      ((fW.far (p:=⟨Z,4,none⟩) nR _).far (p:=⟨Z,2,none⟩) nR _).far (p:=⟨Z,3,none⟩) nR _,((rI.set_ 4 _).set_ 2 _).set_ 3 _,uf,GB,((gz.setCell (p:=⟨Z,4,none⟩) nB _).setCell (p:=⟨Z,2,none⟩) nB _).setCell (p:=⟨Z,3,none⟩) nB _⟩)
    clear z_0 z_1 z_2 z_3 z_4 z_f0 z_f1 z_f2 z_f3 z_f4 t_0 t_1 x_0 x_1 x_2 x_3 x_4;obtain⟨z_0,z_1,z_2,z_3,z_4,z_f0,z_f1,z_f2,z_f3,z_f4⟩:=rI.b5;obtain⟨t_0,t_1⟩:=CG.c2;clear Cy bS fW rI CG gz GB
    go_upto_region 9 with (fail)
    rw[<-bM];clear bM z_0 z_1 z_2 z_3 z_4 z_f0 z_f1 z_f2 z_f3 z_f4 t_0 t_1;have Hj:(D.ss++[(⟨kd,a,b,D.nn,D.nl⟩:Sp)]).length =fs.length+1:=by have:=HM.out;simp;omega
    have GV:=h_ Hj;obtain⟨_,_,hR,hZ,Gu,_,_⟩:=HF.out;obtain⟨z_0,z_1,z_2,z_3,z_4⟩:=hZ.c5;obtain⟨r_0,r_1,r_2,r_3,r_4,r_f0,r_f1,r_f2,r_f3,r_f4⟩:=hR.b5;have Hr:=hR.lt;have gl:=h_ (fun u0 u1 u2 u3 u4=>HF.out.fin u0 u1 u2 u3 u4);clear hR hZ HF Hj;go_wp2
    exact bodyPost_ret (v:= .tuple #[.agg #[.slice A0 D.fn.length c0,.slice A1 D.fl.length c1,.slice An N.length cn,.slice Al L.length cl,.slice A5 (fs.length+1) c5],.bool true]) (by simp[results,Tryz.results106,go_sem,r_0,r_1,r_2,r_3,r_4,Hr]) rfl
     ⟨A0,c0,A1,c1,An,cn,Al,cl,A5,c5,fs++[(⟨kd,a,b,D.nn,D.nl⟩,.slice A2 D.nn.length c2,.slice A3 D.nl.length c3)],by simp only[GV.out],by simp only[GV.out];exact(gl.out _ _ _ _ _).1,(gl.out _ _ _ _ _).2⟩
theorem z38 (v0 v1 v2 v3 v4:Value) (D:Dr) (kd a b:Int) (w:World) (h:RD w v0 v1 v2 v3 v4 D) (hle:DrLe D):
  Calls Tryz.prog 139 #[.agg #[v0,v1,v2,v3,v4],.int .i64 kd,.int .i64 a,.int .i64 b] w (z5I (ji D kd a b) (zV D kd a b) w):=by
 obtain⟨r,hr⟩:∃r,okD D=r:=⟨_,rfl⟩;have HR:=h_ hr;have gf:=h_ hle;obtain⟨B4,d4,ev4,_⟩:=h.ss;subst ev4;obtain⟨i0,hi,iz0,iz1,iz2⟩:=info_parts JK;obtain⟨E,hE⟩:∃E,ji D kd a b=E:=⟨_,rfl⟩;obtain⟨bb,gj⟩:∃bb,zV D kd a b=bb:=⟨_,rfl⟩;rw[hE,gj];have HE:=h_ hE;have gw:=h_ gj;clear hle hE gj
 go_enter Tryz.func139,Tryz.ntmps139
 go_wp2_with fail
 refine(VE _ _ _ _ _ D _ (h.below bel_) gf.out).mono ?_
 rintro e w1 ⟨A0,c0,A1,c1,A2,c2,A3,c3,A4,c4,fs,rfl,Hi,h9⟩;have Ga:Blk w1 w.heap.size 30 #[v0,v1,v2,v3,(.slice B4 D.ss.length d4)]:=Blk.below ((Blk.newAt rfl).alloc _) h9 sz_;have Hx:Blk w1 (w.heap.size+1) 30 z5_:=Blk.below (Blk.newAt (by simp)) h9 sz_;have h8:Below w.heap.size w w1:=bel_
 have GQ:OwnD (w.heap.size+1+1) w1 (.slice A0 D.fn.length c0) (.slice A1 D.fl.length c1) (.slice A2 D.nn.length c2) (.slice A3 D.nl.length c3) (.slice A4 D.ss.length c4) D fs:=by simpa using Hi
 have gU:=h_ (OutSt.start GQ (aaa _) Ga Hx h8);obtain⟨x_0,x_1,x_2,x_3,x_4⟩:=Ga.c5;have fS:=Ga.lt;clear Hi h9 GQ
 go_wp2_with fail
 obtain⟨w2,gR⟩:∃w2,w2=w1.alloc (.cells #[.slice A0 D.fn.length c0,.slice A1 D.fl.length c1,.slice A2 D.nn.length c2,.slice A3 D.nl.length c3,.slice A4 D.ss.length c4] 30):=⟨_,rfl⟩;rw[<-gR] at gU⊢;generalize w1.heap.size=Z at*;clear gR Ga Hx h8 x_0 x_1 x_2 x_3 x_4 fS;refine(z3Y _ _ _ _ _ D r _ (h.below gU.out.blw) HR).mono ?_
 rintro e w3 ⟨rfl,He⟩;have gk:=h_ (gU.out.below He);clear He gU;have Gr:=gk.out.X;have Fp:=gk.out.Z_;have gZ:=gk.out.R;obtain⟨x_0,x_1,x_2,x_3,x_4⟩:=Gr.c5
 cases r
 ·have G6:zV D kd a b=false:=by unfold zV;rw[hr];rfl
  have hu:D=E:=by rw[<-HE.out];exact(yh G6).symm
  have hv:false=bb:=by rw[<-gw.out];exact G6.symm
  subst hu;subst hv;have HF:=gk;clear gk HE gw G6;clear hr;obtain⟨_,_,hR,hZ,Gu,_,_⟩:=HF.out;obtain⟨z_0,z_1,z_2,z_3,z_4⟩:=hZ.c5;obtain⟨r_0,r_1,r_2,r_3,r_4,r_f0,r_f1,r_f2,r_f3,r_f4⟩:=hR.b5;have Hr:=hR.lt;have gl:=h_ (fun u0 u1 u2 u3 u4=>HF.out.fin u0 u1 u2 u3 u4);clear hR hZ HF;go_wp2;exact bodyPost_ret (v:= .tuple #[.agg #[.slice A0 D.fn.length c0,.slice A1 D.fl.length c1,.slice A2 D.nn.length c2,.slice A3 D.nl.length c3,.slice A4 D.ss.length c4],.bool false]) (by simp[results,Tryz.results139,go_sem,r_0,r_1,r_2,r_3,r_4,Hr]) rfl ⟨_,_,_,_,_,_,_,_,_,_,_,rfl,(gl.out _ _ _ _ _).1,(gl.out _ _ _ _ _).2⟩
 ·by_cases CA:¬D.ss.length<40
  ·have G6:zV D kd a b=false:=by unfold zV;rw[hr,aaO CA];rfl
   have MU:D.ss.length=40:=by
    have h41:D.ss.length<=40:=by
     unfold okD at hr;simp only[aaG,aa4] at hr
     exact hr.2.1
    omega
   have hu:D=E:=by rw[<-HE.out];exact(yh G6).symm
   have hv:false=bb:=by rw[<-gw.out];exact G6.symm
   subst hu;subst hv;have HF:=gk;clear gk HE gw G6;clear hr CA;obtain⟨_,_,hR,hZ,Gu,_,_⟩:=HF.out;obtain⟨z_0,z_1,z_2,z_3,z_4⟩:=hZ.c5;obtain⟨r_0,r_1,r_2,r_3,r_4,r_f0,r_f1,r_f2,r_f3,r_f4⟩:=hR.b5;have Hr:=hR.lt;have gl:=h_ (fun u0 u1 u2 u3 u4=>HF.out.fin u0 u1 u2 u3 u4);clear hR hZ HF;go_wp2;exact bodyPost_ret (v:= .tuple #[.agg #[.slice A0 D.fn.length c0,.slice A1 D.fl.length c1,.slice A2 D.nn.length c2,.slice A3 D.nl.length c3,.slice A4 D.ss.length c4],.bool false]) (by simp[results,Tryz.results139,go_sem,r_0,r_1,r_2,r_3,r_4,Hr,MU]) rfl ⟨_,_,_,_,_,_,_,_,_,_,_,rfl,(gl.out _ _ _ _ _).1,(gl.out _ _ _ _ _).2⟩
  ·have MN:D.ss.length<40:=o_
   have g2:((D.ss.length:Int)==40)=false:=beq_eq_false_iff_ne.2 o_;obtain⟨N,hN⟩:∃N,y8 D.nn D.nl kd a b=N:=⟨_,rfl⟩;obtain⟨L,hL⟩:∃L,y7 D.nn D.nl kd a b=L:=⟨_,rfl⟩;obtain⟨sb,UE⟩:∃sb,yZ D.nn D.nl kd a b=sb:=⟨_,rfl⟩;have H1:=h_ hN;have H2:=h_ hL;have H3:=h_ UE;have ue:=Fp.lt;have Bw:=(h.below gk.out.blw).nn;have fb:=(h.below gk.out.blw).nl;clear CA;have Fc:=h_ hr;clear hr hN hL UE
   go_wp2_with fail
   refine(z2I _ _ D.nn D.nl N L kd a b sb _ Bw fb gf.out.nn gf.out.nl H1 H2 H3).mono ?_
   rintro e w4 ⟨An,cn,Al,cl,rfl,gH,Hw⟩;have go:=gk.out.own.lt;have Gg:=gk.out.below Hw;have Hu:w.heap.size+1+1<=w3.heap.size:=by have:=gZ.lt;omega
   have bR:=gH.lt;have hm:=congrArg List.length Gg.own.map;simp at hm
   have uf:=Gg.lt;obtain⟨w5,fe⟩:∃w5,w5=w4.alloc (.cells #[.slice An N.length cn,.slice Al L.length cl] 27):=⟨_,rfl⟩;have H0:Below w4.heap.size w4 w5:=fe▸(aaj _ _).alloc (aaa _) _;have Fe:Blk w5 w4.heap.size 27 #[.slice An N.length cn,.slice Al L.length cl]:=fe▸Blk.newAt rfl;have GI:=h_ (Gg.below H0);have fG:=h_ ((gH.kept H0).mono Hu);have ug:w3.heap.size<=w4.heap.size:=Hw.size;have Bs:Hid (∀k,zi (.slice An N.length cn) (.slice Al L.length cl) k->¬qJ (.slice A0 D.fn.length c0) (.slice A1 D.fl.length c1) (.slice A2 D.nn.length c2) (.slice A3 D.nl.length c3) (.slice A4 D.ss.length c4) fs k):=h_ (fun k hk Fu=>by have:=(bR k hk).1;have:=(go k Fu).2;omega);have HL4:Hid (∀k,zi (.slice An N.length cn) (.slice Al L.length cl) k->k<w4.heap.size):=h_ (fun k hk=>(bR k hk).2);have MQ:=GI.out.Z_.lt;have uh:Hid (¬w4.heap.size=Z):=h_ (by have:=Gg.Z_.lt;omega);have ui:Hid (zi (.slice An N.length cn) (.slice Al L.length cl) Z->False):=h_ (fun hz=>by have:=(bR _ hz).1;have:=ue;omega);have HLO:Hid (∀k,qJ (.slice A0 D.fn.length c0) (.slice A1 D.fl.length c1) (.slice A2 D.nn.length c2) (.slice A3 D.nl.length c3) (.slice A4 D.ss.length c4) fs k->k<w4.heap.size):=h_ (fun k hk=>by have:=(go k hk).2;omega);clear gH Hw go bR Gg gk Gr Fp gZ Bw fb x_0 x_1 x_2 x_3 x_4
   go_upto_region 5 with (fail)
   rw[<-fe];generalize w4.heap.size=T at*;clear fe H0
   cases sb
   ·have G6:zV D kd a b=false:=by unfold zV;rw[H3.out,Bool.and_false,Bool.and_false]
    have hu:D=E:=by rw[<-HE.out];exact(yh G6).symm
    have hv:false=bb:=by rw[<-gw.out];exact G6.symm
    subst hu;subst hv;have HF:=GI;clear GI HE gw G6;clear Fc H1 H2 H3 Fe fG Bs HL4 Hu hm ug;obtain⟨_,_,hR,hZ,Gu,_,_⟩:=HF.out;obtain⟨z_0,z_1,z_2,z_3,z_4⟩:=hZ.c5;obtain⟨r_0,r_1,r_2,r_3,r_4,r_f0,r_f1,r_f2,r_f3,r_f4⟩:=hR.b5;have Hr:=hR.lt;have gl:=h_ (fun u0 u1 u2 u3 u4=>HF.out.fin u0 u1 u2 u3 u4);clear hR hZ HF;go_wp2;exact bodyPost_ret (v:= .tuple #[.agg #[.slice A0 D.fn.length c0,.slice A1 D.fl.length c1,.slice A2 D.nn.length c2,.slice A3 D.nl.length c3,.slice A4 D.ss.length c4],.bool false]) (by simp[results,Tryz.results139,go_sem,r_0,r_1,r_2,r_3,r_4,Hr]) rfl ⟨_,_,_,_,_,_,_,_,_,_,_,rfl,(gl.out _ _ _ _ _).1,(gl.out _ _ _ _ _).2⟩
   ·have F7:zV D kd a b=true:=by unfold zV;rw[Fc.out,H3.out,aaQ MN];rfl
    have hu:E=⟨D.fn,D.fl,N,L,D.ss++[⟨kd,a,b,D.nn,D.nl⟩]⟩:=by rw[<-HE.out,kN F7,H1.out,H2.out]
    have hv:true=bb:=by rw[<-gw.out];exact F7.symm
    subst hu;subst hv;clear HE gw F7 Fc H1 H2 H3;have MV:=GI.out.Z_;have BV:=GI.out.X;obtain⟨z_0,z_1,z_2,z_3,z_4,z_f0,z_f1,z_f2,z_f3,z_f4⟩:=MV.b5;obtain⟨x_0,x_1,x_2,x_3,x_4⟩:=BV.c5;obtain⟨t_0,t_1⟩:=Fe.c2;have Wb:=BV.lt;have hT5l:=Fe.lt;have bP:fs.length<=1048576:=o_
    have HM:=h_ hm;clear hm;have HTZ:Hid (¬T=Z):=uh;have R7:Hid (zi (.slice An N.length cn) (.slice Al L.length cl) Z->False):=ui
    go_upto_region 7 with (fail)
    have We:=(h.below GI.out.blw).nn;have Wf:=(h.below GI.out.blw).nl;have Hv:Below w5.heap.size w5 w5.drew:=(aaj _ _).drew;have fh:=h_ (GI.out.below Hv);have Wg:=h_ (fG.out.kept Hv);have HTD:=h_ (Fe.drew);have Wh:=We.below Hv;have Wi:=Wf.below Hv;clear We Wf Hv GI fG BV;have CM:=fh.out.own.lt;refine vE (n:=12) (S:=fun w'=>w'.cell? ⟨w.heap.size,2,none⟩=some v2/\w'.cell? ⟨w.heap.size,3,none⟩=some v3/\w'.cell? ⟨Z,4,none⟩=some (.slice A4 D.ss.length c4)) k_ ⟨x_2,x_3,z_4⟩ (fun hS=>?_)
    (refine zw (i:=0) (v:=?_) rfl rfl k_ k_ k_ k_ (fun _ _ _ h=>h) (Or.inl ⟨by rfl,?_⟩) (by assumption) ?_);rotate_left;(focus (intro w' gh;(try dsimp only at gh);go_simp;(try with_reducible rfl)));(try simp only[Act.put,abi,aal,aap])
    (refine zw (i:=1) (v:=?_) rfl rfl k_ k_ k_ k_ (fun _ _ _ h=>h) (Or.inl ⟨by rfl,?_⟩) (by assumption) ?_);rotate_left;(focus (intro w' gh;(try dsimp only at gh);go_simp;(try with_reducible rfl)));(try simp only[Act.put,abi,aal,aap])
    (refine zw (i:=2) (v:=?_) rfl rfl k_ k_ k_ k_ (fun _ _ _ h=>h) (Or.inl ⟨by rfl,?_⟩) (by assumption) ?_);rotate_left;(focus (intro w' gh;(try dsimp only at gh);go_simp;(try with_reducible rfl)));(try simp only[Act.put,abi,aal,aap])
    (refine zw (i:=3) (v:=?_) rfl rfl k_ k_ k_ k_ (fun _ _ _ h=>h) (Or.inl ⟨by rfl,?_⟩) (by assumption) ?_);rotate_left;(focus (intro w' gh;(try dsimp only at gh);go_simp;(try with_reducible rfl)));(try simp only[Act.put,abi,aal,aap])
    (refine zw (i:=4) (v:=?_) rfl rfl k_ k_ k_ k_ (fun _ _ _ h=>h) (Or.inl ⟨by rfl,?_⟩) (by assumption) ?_);rotate_left;(focus (intro w' gh;(try dsimp only at gh);go_simp;(try with_reducible rfl)));(try simp only[Act.put,abi,aal,aap])
    (refine zw (i:=5) (v:=?_) rfl rfl k_ k_ k_ k_ (fun _ _ _ h=>h) (Or.inl ⟨by rfl,?_⟩) (by assumption) ?_);rotate_left;(focus (intro w' gh;(try dsimp only at gh);go_simp;(try with_reducible rfl)));(try simp only[Act.put,abi,aal,aap])
    (refine zw (i:=6) (v:=?_) rfl rfl k_ k_ k_ k_ (fun _ _ _ h=>h) (Or.inl ⟨by rfl,?_⟩) (by assumption) ?_);rotate_left;(focus (intro w' gh;(try dsimp only at gh);go_simp;(try with_reducible rfl)));(try simp only[Act.put,abi,aal,aap])
    (refine qM (i:=7) rfl k_ (fun K hK=>?_));(rw[aao (by rfl)])
    go_simp
    go_at_call 110
    refine(zU _ _ D.nn D.nl _ Wh Wi gf.out.nn gf.out.nl).mono ?_
    rintro e wa ⟨Bn,dn,Bl,dl,rfl,Nj,GZ⟩;have cI:=h_ (fh.out.below GZ);have HWNA:=h_ (Wg.out.kept GZ);have HTA:=h_ (HTD.out.below GZ (by simpa using hT5l));have uq:=Nj.lt;have hsa:=GZ.size;simp at hsa uq CM
    have ur:Hid (∀k,zi (.slice Bn D.nn.length dn) (.slice Bl D.nl.length dl) k->w5.heap.size<=k/\k<wa.heap.size):=h_ (fun k hk=>uq k hk);have HLT5:Hid (∀k,qJ (.slice A0 D.fn.length c0) (.slice A1 D.fl.length c1) (.slice A2 D.nn.length c2) (.slice A3 D.nl.length c3) (.slice A4 D.ss.length c4) fs k->k<w5.heap.size):=h_ (fun k hk=>(CM k hk).2);have us:w.heap.size+1+1<=w5.heap.size:=o_
    have ut:=h_ (Nj.mono (show w.heap.size+1+1<=w5.drew.heap.size by simpa using us));clear uq CM Nj GZ fh Wg HTD Wh Wi
    go_wp2_with fail
    refine hK _ _ (fun _=>⟨cI.out.X.cell 2,cI.out.X.cell 3,cI.out.Z_.cell 4⟩) (fun gp=>?_)
    have fk:=gp (by decide);clear hK K hS gp x_0 x_1 x_2 x_3 x_4 z_0 z_1 z_2 z_3 z_4 z_f0 z_f1 z_f2 z_f3 z_f4 t_0 t_1 Wb MQ MV Fe
    (try simp only[Act.put,abi,aal,aap])
    (refine zw (i:=8) (v:=?_) rfl rfl k_ k_ k_ k_ (fun _ _ _ h=>h) (Or.inl ⟨by rfl,?_⟩) (by assumption) ?_);rotate_left;(focus (intro w' gh;(try dsimp only at gh);go_simp;(try with_reducible rfl)));(try simp only[Act.put,abi,aal,aap])
    (refine qM (i:=9) rfl k_ (fun K hK=>?_));(rw[aao (by rfl)])
    go_simp;have MW:=h_ (cI.out.own.alloc (.cells #[.int .i64 kd,.int .i64 a,.int .i64 b,.slice Bn D.nn.length dn,.slice Bl D.nl.length dl] 113));have HWN:=h_ (HWNA.out.alloc' (.cells #[.int .i64 kd,.int .i64 a,.int .i64 b,.slice Bn D.nn.length dn,.slice Bl D.nl.length dl] 113));have vP:=h_ (ut.out.alloc' (.cells #[.int .i64 kd,.int .i64 a,.int .i64 b,.slice Bn D.nn.length dn,.slice Bl D.nl.length dl] 113));have Wd:=h_ (cI.out.X.alloc (.cells #[.int .i64 kd,.int .i64 a,.int .i64 b,.slice Bn D.nn.length dn,.slice Bl D.nl.length dl] 113));have um:=h_ (cI.out.R.alloc (.cells #[.int .i64 kd,.int .i64 a,.int .i64 b,.slice Bn D.nn.length dn,.slice Bl D.nl.length dl] 113));have YT:=h_ (cI.out.Z_.alloc (.cells #[.int .i64 kd,.int .i64 a,.int .i64 b,.slice Bn D.nn.length dn,.slice Bl D.nl.length dl] 113));have HT6:=h_ (HTA.out.alloc (.cells #[.int .i64 kd,.int .i64 a,.int .i64 b,.slice Bn D.nn.length dn,.slice Bl D.nl.length dl] 113));have MX:=h_ (cI.out.blw.alloc cI.out.blw.size (.cells #[.int .i64 kd,.int .i64 a,.int .i64 b,.slice Bn D.nn.length dn,.slice Bl D.nl.length dl] 113));have FZ:Hid (∀k,(Value.slice A4 D.ss.length c4).ownBlock =some k->w.heap.size+1+1<=k/\k≠Z/\k<T):=h_ (fun k hk=>⟨(cI.out.own.lt k (.inr (.inr (.inl hk)))).1,fun e=>cI.out.far (e▸ .inr (.inr (.inl hk))),HLO.out k (.inr (.inr (.inl hk)))⟩);have uo:Hid (∀(j:Nat) (u:Value),(sfc ((⟨kd,a,b,D.nn,D.nl⟩,.slice Bn D.nn.length dn,.slice Bl D.nl.length dl):SF))[j]? =some u->(wa.alloc (.cells #[.int .i64 kd,.int .i64 a,.int .i64 b,.slice Bn D.nn.length dn,.slice Bl D.nl.length dl] 113)).cell? ((⟨wa.heap.size,0,none⟩:Addr).add j)=some u):=h_ (Vk rfl rfl)
    have MP:w.heap.size+1+1<=(wa.alloc (.cells #[.int .i64 kd,.int .i64 a,.int .i64 b,.slice Bn D.nn.length dn,.slice Bl D.nl.length dl] 113)).heap.size :=by simp;omega
    have HRW:Hid (World.ownsRow (wa.alloc (.cells #[.int .i64 kd,.int .i64 a,.int .i64 b,.slice Bn D.nn.length dn,.slice Bl D.nl.length dl] 113)) (w.heap.size+1+1) 113 5 (.slice A4 D.ss.length c4) fs.length (fs.flatMap sfc)):=h_ MW.out.ss.row;refine hK _ _ (fun _=>⟨Wd.out.cell 2,Wd.out.cell 3,YT.out.cell 4⟩) (fun gp=>?_)
    clear hK K fk gp
    (try simp only[Act.put,abi,aal,aap])
    (refine qM (i:=10) rfl k_ (fun K hK=>?_))
    refine Zl rfl _ _ _ rfl (w.heap.size+1+1) 113 i0 Tryz.underlying28 hi iz0 iz1 iz2 (.slice A4 D.ss.length c4) fs (⟨kd,a,b,D.nn,D.nl⟩,.slice Bn D.nn.length dn,.slice Bl D.nl.length dl) ⟨wa.heap.size,0,none⟩ 1 rfl rfl HRW.out uo.out (z0a _ _ _ _ _ _ _ rfl rfl) bP MP ?_
    intro A5 c5 w6 hr6 GX rH;have YU:(Value.slice A5 (fs.length+1) c5).ownBlock =(Value.slice A4 D.ss.length c4).ownBlock ∨(Value.slice A5 (fs.length+1) c5).ownBlock =some (wa.heap.size+1):=by simpa using rH
    have hT6t:Turns (fun b=>(Value.slice A4 D.ss.length c4).ownBlock =some b) _ w6:=Turns.ofGrown GX (fun k hk=>hk);have MY:=HWN.out.turned hT6t (fun k hk e1=>Bs.out k hk (.inr (.inr (.inl e1))))
    have Cy:=(MW.out.snoc (f:=(⟨kd,a,b,D.nn,D.nl⟩,.slice Bn D.nn.length dn,.slice Bl D.nl.length dl)) (by rw[aaX];simpa using hr6) GX (by simpa using rH) vP.out (fun k hk Fu=>by have:=(ur.out k hk).1;have:=HLT5.out k Fu;omega)).newNow MY (aaa _) (fun k hk Fu=>by
     have hkT:=HL4.out k hk
     rcases JA YU Fu with h1|h1|h1
     ·exact Bs.out k hk h1
     ·omega
     ·have:=(ur.out k h1).1;omega)
    have bS:=Wd.out.grownR GX (fun k hk e=>by have:=(FZ.out k hk).1;omega);have fW:=um.out.grownR GX (fun k hk e=>by have:=(FZ.out k hk).1;omega);have rI:=YT.out.grownR GX (fun k hk e=>(FZ.out k hk).2.1 e);have CG:=HT6.out.grownR GX (fun k hk e=>by have:=(FZ.out k hk).2.2;omega);have gz:=MX.out.grown GX MX.out.size (fun k hk=>by have:=(FZ.out k hk).1;omega);have GI:=cI;have fJ:=cI.out.Z_.lt;have uj:Hid (zi (.slice Bn D.nn.length dn) (.slice Bl D.nl.length dl) Z->False):=h_ (fun hz=>by have:=(ur.out _ hz).1;omega);refine hK _ _ (fun _=>⟨bS.cell 2,bS.cell 3,rI.cell 4⟩) (fun gp=>?_)
    have Bp:=gp (by decide);clear hK K gp
    (try simp only[Act.put,abi,aal,aap])
    (refine zw (i:=11) (v:=?_) rfl rfl k_ k_ k_ k_ (fun _ _ _ h=>h) (Or.inl ⟨by rfl,?_⟩) (by assumption) ?_);rotate_left;(focus (intro w' gh;(try dsimp only at gh);go_simp;(try with_reducible rfl)));(try simp only[Act.put,abi,aal,aap])
    have GB:¬qJ (.slice A0 D.fn.length c0) (.slice A1 D.fl.length c1) (.slice An N.length cn) (.slice Al L.length cl) (.slice A5 (fs.length+1) c5) (fs++[(⟨kd,a,b,D.nn,D.nl⟩,.slice Bn D.nn.length dn,.slice Bl D.nl.length dl)]) Z:=by
     rintro(hz|hz|hz)
     ·exact GI.out.far (.inl hz)
     ·have:=R7.out hz;exact this
     ·rcases ye YU hz with h1|h1|h1
      ·exact GI.out.far (.inr (.inr h1))
      ·omega
      ·exact uj.out h1
    have nX:w.heap.size≠Z:=o_
    have nR:w.heap.size+1≠Z:=o_
    have nB:w.heap.size<=Z:=o_
    obtain⟨w7,bM⟩:∃w7,w7=((w6.setCell ⟨Z,4,none⟩ (.slice A5 (fs.length+1) c5)).setCell ⟨Z,2,none⟩ (.slice An N.length cn)).setCell ⟨Z,3,none⟩ (.slice Al L.length cl):=⟨_,rfl⟩
    have HF:Hid (OutSt w v0 v1 v2 v3 (.slice B4 D.ss.length d4) Z (.slice A0 D.fn.length c0) (.slice A1 D.fl.length c1) (.slice An N.length cn) (.slice Al L.length cl) (.slice A5 (fs.length+1) c5) ⟨D.fn,D.fl,N,L,D.ss++[⟨kd,a,b,D.nn,D.nl⟩]⟩ (fs++[(⟨kd,a,b,D.nn,D.nl⟩,.slice Bn D.nn.length dn,.slice Bl D.nl.length dl)]) w7):=h_
     (bM▸⟨((Cy.setFar (p:=⟨Z,4,none⟩) GB _).setFar (p:=⟨Z,2,none⟩) GB _).setFar (p:=⟨Z,3,none⟩) GB _,((bS.far (p:=⟨Z,4,none⟩) nX _).far (p:=⟨Z,2,none⟩) nX _).far (p:=⟨Z,3,none⟩) nX _,
      ((fW.far (p:=⟨Z,4,none⟩) nR _).far (p:=⟨Z,2,none⟩) nR _).far (p:=⟨Z,3,none⟩) nR _,((rI.set_ 4 _).set_ 2 _).set_ 3 _,uf,GB,((gz.setCell (p:=⟨Z,4,none⟩) nB _).setCell (p:=⟨Z,2,none⟩) nB _).setCell (p:=⟨Z,3,none⟩) nB _⟩)
    obtain⟨z_0,z_1,z_2,z_3,z_4,z_f0,z_f1,z_f2,z_f3,z_f4⟩:=rI.b5;obtain⟨t_0,t_1⟩:=CG.c2;clear Cy bS fW rI CG gz GB
    (refine qM (i:=12) rfl k_ (fun K hK=>?_));(rw[aao (by rfl)])
    go_simp;refine hK _ _ (fun h=>absurd rfl h) (fun _=>?_)
    clear hK K
    (try simp only[Act.put,abi,aal,aap])
    refine kX k_ ?_ _
    go_upto_region 9 with (fail)
    rw[<-bM];clear bM z_0 z_1 z_2 z_3 z_4 z_f0 z_f1 z_f2 z_f3 z_f4 t_0 t_1;have Hj:(D.ss++[(⟨kd,a,b,D.nn,D.nl⟩:Sp)]).length =fs.length+1:=by have:=HM.out;simp;omega
    have GV:=h_ Hj;obtain⟨_,_,hR,hZ,Gu,_,_⟩:=HF.out;obtain⟨z_0,z_1,z_2,z_3,z_4⟩:=hZ.c5;obtain⟨r_0,r_1,r_2,r_3,r_4,r_f0,r_f1,r_f2,r_f3,r_f4⟩:=hR.b5;have Hr:=hR.lt;have gl:=h_ (fun u0 u1 u2 u3 u4=>HF.out.fin u0 u1 u2 u3 u4);clear hR hZ HF Hj;go_wp2
    exact bodyPost_ret (v:= .tuple #[.agg #[.slice A0 D.fn.length c0,.slice A1 D.fl.length c1,.slice An N.length cn,.slice Al L.length cl,.slice A5 (fs.length+1) c5],.bool true]) (by simp[results,Tryz.results139,go_sem,r_0,r_1,r_2,r_3,r_4,Hr]) rfl
     ⟨A0,c0,A1,c1,An,cn,Al,cl,A5,c5,fs++[(⟨kd,a,b,D.nn,D.nl⟩,.slice Bn D.nn.length dn,.slice Bl D.nl.length dl)],by simp only[GV.out],by simp only[GV.out];exact(gl.out _ _ _ _ _).1,(gl.out _ _ _ _ _).2⟩
end Go.Proofs.YtnjcpljhmhdhkaaGreat
